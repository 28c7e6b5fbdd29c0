import Derived.Test.YtejjbceagmbdhaaGreatXUF
set_option linter.unusedVariables false
set_option linter.unusedSimpArgs false
set_option linter.unusedSectionVars false
set_option linter.constructorNameAsVariable false
set_option linter.unnecessarySimpa false
noncomputable section
namespace Go.Gv
theorem O6{s:List aU}{p:aU->Bool}(hl:s.length<=4611686018427387904) :
  (∃j,∃h:j < s.length,(∀i (h:i < s.length),i < j->p s[i]=false)/\p s[j]=true/\cN s (fun y=>some (p y))=some (j:Int))\/((∀i (h:i < s.length),p s[i]=false)/\cN s (fun y=>some (p y))=some (-1)):=by
 rcases XE (f:=mV s (fun y=>some (p y))) (p:=p) hl (fun k=>by
  simp only [mV]
  by_cases h:k < s.length
  ·rw [dif_pos h,if_pos (by simp;omega),aP h,aG,aG,aL (by omega) (by omega)]
   rfl
  grind) s.length 0 (by omega) with ⟨j,h,_,h2,h3,h4⟩ | ⟨h1,h2⟩
 ·refine .inl ⟨j,h,fun i hi a=>h2 i hi (jK _) a,h3,?_⟩
  unfold cN
  rw [show(0:Int)=((0:Nat):Int) from rfl,h4];rfl
 ·refine .inr ⟨fun i hi=>h1 i hi (jK _),?_⟩
  unfold cN
  rw [show(0:Int)=((0:Nat):Int) from rfl,h2];rfl
theorem ZL{s:List Seen}{p:Seen->Bool}(hl:s.length<=4611686018427387904) :
  (∃j,∃h:j < s.length,(∀i (h:i < s.length),i < j->p s[i]=false)/\p s[j]=true/\dV s (fun y=>some (p y))=some (j:Int))\/((∀i (h:i < s.length),p s[i]=false)/\dV s (fun y=>some (p y))=some (-1)):=by
 rcases XE (f:=oB s (fun y=>some (p y))) (p:=p) hl (fun k=>by
  simp only [oB]
  by_cases h:k < s.length
  ·rw [dif_pos h,if_pos (by simp;omega),aP h,aG,aG,aL (by omega) (by omega)]
   rfl
  grind) s.length 0 (by omega) with ⟨j,h,_,h2,h3,h4⟩ | ⟨h1,h2⟩
 ·refine .inl ⟨j,h,fun i hi a=>h2 i hi (jK _) a,h3,?_⟩
  unfold dV
  rw [show(0:Int)=((0:Nat):Int) from rfl,h4];rfl
 ·refine .inr ⟨fun i hi=>h1 i hi (jK _),?_⟩
  unfold dV
  rw [show(0:Int)=((0:Nat):Int) from rfl,h2];rfl
theorem aG0{s:List aU}{p:aU->Bool}(hl:s.length<=4611686018427387904):iJ s (fun y=>some (p y))=some (s.filter fun x=>!p x):=by
 unfold iJ
 rcases O6 (p:=p) hl with ⟨j,h,h1,h2,h3⟩ | ⟨h1,h3⟩
 ·have ne:¬(((j:Int) == -1)=true):=by simp
  rw [h3,aG,if_neg ne,aL (by omega) (by omega)]
  obtain⟨M,k,g1,g2,g3,g4⟩:=aJP (p:=p) (n:=s.length) (f:=i5 (fun y=>some (p y))) hl (fun L i j h hn hi=>by
   simp only [i5]
   rw [if_pos (by simp;omega),aP h,aG,aG]
   by_cases hp:p L[j]=true
   ·rw [if_pos hp,if_neg (by simp [hp])]
    grind [gJ,aL]
   ·rw [if_neg hp,if_pos (by grind),aP (by omega),aG]
    grind [gJ,aL]) (fun L i j h=>by
   simp_all [i5]) (s.length - (j+1)) s j (j+1) (by omega) rfl (by omega)
  grind [uD,uC,aK,eQ,aR1,aV6]
 ·rw [h3,aG,if_pos (by rfl),List.filter_eq_self.2]
  grind [aCE]
theorem aQ0{α:Type}{q:α->Bool}:∀{s:List α} {j:Nat} (h:j < s.length),(∀i (h:i < s.length),i < j->q s[i]=true)->q s[j]=false->s.takeWhile q=s.take j/\s.dropWhile q=s.drop j
 | [],j,h,_,_=>by cases h
 | x :: r, 0, h, _, h2 => by
  simp_all
 | x :: r, j + 1, h, h1, h2 => by
  have hx:q x=true:=h1 0 (Nat.zero_lt_succ _) (Nat.zero_lt_succ _)
  have:=aQ0 (s:=r) (j:=j) (by grind) (fun i hi hj=>h1 (i+1) (by omega) (by omega)) h2
  simp_all
theorem a2H{α:Type}{q:α->Bool}{s:List α}(h:∀i (h:i < s.length),q s[i]=true):s.takeWhile q=s/\s.dropWhile q=[]:=by
 have h':∀x∈s,q x=true:=fun x hx=>by grind [aCE]
 clear h
 induction s with
 | nil=>simp
 | cons x r ih =>
  simp_all
def aEY(l:List aU)(x:aU):List aU:=
 (l.filter fun y=>!(y.Key == x.Key)).takeWhile (fun y=>!decide (x.Key < y.Key)) ++ [x]++(l.filter fun y=>!(y.Key == x.Key)).dropWhile (fun y=>!decide (x.Key < y.Key))
theorem YZ{l:List aU}(hl:l.length<=1000)(x:aU):EM l x=some (aEY l x):=by
 unfold EM zY aEY
 rw [aK (by simp;omega)]
 simp only [aG,aCG]
 have hd:iJ l (fun y0=>F7 y0 x)=some (l.filter fun y=>!(y.Key == x.Key)):=aG0 (p:=fun y=>y.Key == x.Key) (by omega)
 rw [hd,aG]
 have hlen:(l.filter fun y=>!(y.Key == x.Key)).length<=1000:=sS (List.length_filter_le _ _) hl
 generalize (l.filter fun y=>!(y.Key == x.Key))=o at hlen ⊢
 have hi:(∃j,∃h:j < o.length,(∀i (h:i < o.length),i < j->decide (x.Key < o[i].Key)=false)/\decide (x.Key < o[j].Key)=true/\cN o (fun y0=>yW y0 x)=some (j:Int))\/((∀i (h:i < o.length),decide (x.Key < o[i].Key)=false)/\cN o (fun y0=>yW y0 x)=some (-1)):=O6 (p:=fun y=>decide (x.Key < y.Key)) (by omega)
 rcases hi with ⟨j,h,h1,h2,h3⟩ | ⟨h1,h3⟩
 ·obtain⟨t1,t2⟩:=aQ0 (q:=fun y:aU=>!decide (x.Key < y.Key)) h (fun i hi a=>by grind) (by simp [h2])
  rw [h3,aG,if_neg (by simp),t1,t2]
  grind [pG,oQ,aK]
 ·obtain⟨t1,t2⟩:=a2H (s:=o) (q:=fun y:aU=>!decide (x.Key < y.Key)) (fun i hi=>by grind)
  rw [h3,aG,if_pos (by decide),t1,t2]
  grind [pG,oQ,aK,List.drop_length]
def aG1(l:List aU)(k:Int):aU×Bool:=match l.find? (fun y=>y.Key == k) with | some x=>(x,true) | none=>(⟨0,false,0⟩,false)
theorem aEZ{α:Type}{p:α->Bool}{s:List α}{j:Nat}(h:j < s.length)(h1:∀i (h:i < s.length),i < j->p s[i]=false)(h2:p s[j]=true):s.find? p=some s[j]:=by
 grind [List.find?_eq_some_iff_getElem]
theorem aQ1{α:Type}{p:α->Bool}{s:List α}(h1:∀i (h:i < s.length),p s[i]=false):s.find? p=none:=by
 grind [aCE]
theorem aBE{l:List aU}(hl:l.length<=1000)(k:Int):HU l k=some (aG1 l k):=by
 unfold HU aG1
 have hi:(∃j,∃h:j < l.length,(∀i (h:i < l.length),i < j->(l[i].Key == k)=false)/\(l[j].Key == k)=true/\cN l (fun y0=>CD y0 k)=some (j:Int))\/((∀i (h:i < l.length),(l[i].Key == k)=false)/\cN l (fun y0=>CD y0 k)=some (-1)):=O6 (p:=fun y=>y.Key == k) (by omega)
 rcases hi with ⟨j,h,h1,h2,h3⟩ | ⟨h1,h3⟩
 ·rw [h3,aG,if_neg (by simp),aP h,aEZ (p:=fun y:aU=>y.Key == k) h h1 h2];rfl
 simp_all [aQ1]
def G9(l:List Seen)(b v:Int):List Seen×Bool:=match l.find? (fun y=>y.bT == b) with | some x=>(l,x.fM == v) | none=>(l ++ [⟨b,v⟩],true)
theorem aBF{l:List Seen}(hl:l.length<=1000)(b v:Int):HW l b v=some (G9 l b v):=by
 unfold HW CI G9
 rw [aK (by simp;omega)]
 simp only [aG,aCG]
 have hi:(∃j,∃h:j < l.length,(∀i (h:i < l.length),i < j->(l[i].bT == b)=false)/\(l[j].bT == b)=true/\dV l (fun y0=>CJ y0 b)=some (j:Int))\/((∀i (h:i < l.length),(l[i].bT == b)=false)/\dV l (fun y0=>CJ y0 b)=some (-1)):=ZL (p:=fun y=>y.bT == b) (by omega)
 rcases hi with ⟨j,h,h1,h2,h3⟩ | ⟨h1,h3⟩
 ·rw [h3,aG,if_neg (by simp),aP h,aEZ (p:=fun y:Seen=>y.bT == b) h h1 h2];rfl
 ·rw [h3,aG,if_pos (by decide),aK (by simp;omega),aQ1 (p:=fun y:Seen=>y.bT == b) h1]
def FL(l:List aU)(n:Int):Int:=(((l.take n.toNat).filter fun x=>!x.GX).length:Int)
theorem aOH(l:List aU)(n:Int):(l.take ((if (if (l.length:Int) < n then (l.length:Int) else n) < 0 then 0 else (if (l.length:Int) < n then (l.length:Int) else n)).toNat)).drop 0=l.take n.toNat:=by
 (simp_all;omega)
theorem XI{l:List aU}(hl:l.length<=1000)(n:Int):NO l n=some (FL l n):=by
 unfold NO FL
 rw [aK (by omega)]
 have hc:=aOH l n
 obtain⟨s,hs⟩:∃s,s=l.take n.toNat:=⟨_,rfl⟩
 have hsl:s.length<=1000:=by grind
 rw [show((0:Int),(0:Int))=((((s.take 0).filter fun x=>!x.GX).length:Int),((0:Nat):Int)) from rfl,
  gR s.length (fun k=>((((s.take k).filter fun x=>!x.GX).length:Int),(k:Int))) (((s.filter fun x=>!x.GX).length:Nat):Int) (fun k hk=>by
   have ht:s.take (k+1)=s.take k ++ [s[k]]:=TZ hk
   have hle:((s.take k).filter fun x=>!x.GX).length<=1000:=sS (List.length_filter_le _ _) (by grind)
   simp only [OJ,hc,<-hs]
   rw [if_pos (by simp;omega),aP hk,aG,ht,List.filter_append]
   cases hd:s[k].GX
   ·rw [if_pos (by rfl),aL (by omega) (by omega)]
    simp only [CK]
    rw [aL (by omega) (by omega)]
    simp [hd]
   ·rw [if_neg (by simp)]
    grind [CK,aL]) (by
   simp only [OJ,hc,<-hs]
   simp)]
 rw [hs];rfl
def FM(k:Int):Int:=if 0<=k/\k<=99 then k % 2 else -1
theorem MI(k:Int):DZ k=some (FM k):=by
 unfold DZ FM
 rw [eH,aG]
 grind
def C8(l:List aU):List Int:=(if l.any (fun x=>x.Key % 2 == 0) then [0] else [])++(if l.any (fun x=>x.Key % 2 == 1) then [1] else [])
theorem aOI{l:List Int}(hs:l.Pairwise (· < ·))(hm:∀x∈l,x=0\/x=1):l=(if 0∈l then [0] else [])++(if 1∈l then [1] else []):=by
 match l,hs,hm with
 | [],_,_=>rfl
 | [x],_,hm=>rcases hm x (by simp) with rfl | rfl <;> rfl
 | [x, y], hs, hm =>
  have hxy:x < y:=by grind
  rcases hm x (by simp) with rfl | rfl <;> rcases hm y (by simp) with rfl | rfl <;> first | omega | rfl
 | x :: y :: z :: r, hs, hm =>
  (simp_all;omega)
theorem aBG{l:List aU}(hl:l.length<=12)(hk:∀x∈l,0<=x.Key/\x.Key<=99):HX l=some (C8 l):=by
 unfold HX
 rw [show(([]:List Int),(0:Int))=((l.take 0).map (fun x=>x.Key % 2),((0:Nat):Int)) from rfl,
  gR l.length (fun k=>((l.take k).map (fun x=>x.Key % 2),(k:Int))) (l.map fun x=>x.Key % 2) (fun k hlt=>by
   have ht:l.take (k+1)=l.take k ++ [l[k]]:=TZ hlt
   have hkk:=hk l[k] (dC hlt)
   simp only [GA]
   rw [if_pos (by simp;omega),aP hlt,aG,MI,aG]
   unfold FM
   rw [if_pos hkk,if_pos (by simp;omega),aK (by simp;omega),ht,wI]
   grind [yZ,aL]) (by
   simp [GA]),aG]
 simp only [PZ,F9]
 obtain⟨y,h1,h2,h3⟩:=aV7 (x:=l.map fun x=>x.Key % 2) (by grind) (by grind [aOD])
 rw [h1,aG]
 obtain⟨c1,c2⟩:=aL3 h3
 have hmem:∀a,a∈vI y↔∃x∈l,x.Key % 2=a:=fun a=>by grind
 have h01:∀a∈vI y,a=0\/a=1:=fun a ha=>by grind
 show some (vI y)=_
 rw [aOI c1 h01]
 grind [C8]
theorem aZH(l:List aU):(C8 l).length<=2:=by grind [C8]
theorem aE0{l:List aU}{b:Int}(h:b∈C8 l):b=0\/b=1:=by
 grind [C8]
end Go.Gv
end
noncomputable section
namespace Go.Gv
theorem aE1{α:Type}{f:(List α×Int)->Option (Step (List α×Int) (List α))}(l:List α)
  (h:∀k (hk:k < l.length),f (l.take k,(k:Int))=some (.next (l.take k ++ [l[k]],((k+1:Nat):Int)))) (he:f (l,(l.length:Int))=some (.stop l)):loop f ([],0)=some l:=by
 have:=gR (f:=f) l.length (fun k=>(l.take k,(k:Int))) l (fun k hk=>by simp_all) (by grind)
 grind
theorem S8{α:Type}{f:(Int×List α)->Option (Step (Int×List α) (List α))}(l:List α)
  (h:∀k (hk:k < l.length),f ((k:Int),l.take k)=some (.next (((k+1:Nat):Int),l.take k ++ [l[k]]))) (he:f ((l.length:Int),l)=some (.stop l)):loop f (0,[])=some l:=by
 have:=gR (f:=f) l.length (fun k=>((k:Int),l.take k)) l (fun k hk=>by simp_all) (by grind)
 grind
theorem IE{l:List Int}(h:l.length<=1073741824):jP l=some l:=by
 grind [jP,aK]
theorem aJX{l:List sC}(h:l.length<=1073741824):vO l=some l:=by
 grind [vO,aK]
theorem aG2{l:List dE}(h:l.length<=1073741824):tD l=some l:=by
 grind [tD,aK]
theorem MJ{l:aA}(h1:l.Global.length<=1048576)(h2:l.Own.length<=1048576)(h3:∀s∈l.Global,s.aQ.length<=1048576)(h4:∀s∈l.Own,s.aQ.length<=1048576):g8 l=some l:=by
 unfold g8
 rw [S8 l.Global]
 ·simp only [aG,KX,KW]
  rw [S8 l.Own]
  ·rfl
  ·intro k hk
   have:=h4 _ (dC hk)
   simp only [BU]
   rw [if_pos (by simp;omega),aP hk]
   simp only [aG]
   rw [IE (by omega),aG,aK (by simp;omega),BT,aL (by omega) (by omega)];rfl
  grind [BU]
 ·intro k hk
  have:=h3 _ (dC hk)
  simp only [BW]
  rw [if_pos (by simp;omega),aP hk]
  simp only [aG]
  rw [IE (by omega),aG,aK (by simp;omega),BV,aL (by omega) (by omega)];rfl
 grind [BW]
theorem O7{h:Heap}(h1:h.Bytes.length<=1048576)(h2:h.Class.length<=1048576):sH h=some h:=by
 unfold sH;rw [IE (by omega),IE (by omega)];rfl
theorem SH{m:Mem}(h:C7 m):qS m=some m:=by
 have a:=O7 h.1 h.2.1
 have b:=MJ h.2.2.1 h.2.2.2.1 h.aH1.1 h.aH1.2
 simp_all [qS]
theorem lQ{c:aH}(h:c.cV.length<=1048576):wA c=some c:=by
 unfold wA;rw [aK (by simp;omega)];rfl
theorem EX{c:aH}(h:c.cV.length<=1048576):mB c=some c:=by
 unfold mB;rw [aJX (by omega)];rfl
theorem UN{l:List bB}(hl:l.length<=1048576)(hs:∀s∈l,s.Rows.length<=1048576):mA l=some l:=by
 unfold mA
 rw [aE1 l]
 ·rfl
 ·intro k hk
  have:=hs _ (dC hk)
  simp only [B8]
  rw [if_pos (by simp;omega),aP hk]
  simp only [aG]
  rw [aG2 (by omega),aG,aK (by simp;omega),aL (by omega) (by omega)];rfl
 grind [B8]
end Go.Gv
end
noncomputable section
namespace Go.Gv
theorem lR(w:Int):fP w=some (decide (0<=w/\w<=2)):=by
 grind [fP,eH]
noncomputable section
variable {c:aH} (hc:QU c) {w:Int} (hw:0<=w/\w<=2)
include hc
theorem QU.small:c.cV.length<=1048576/\c.cV.length<=maxLen:=by
 have:=hc.2.1;grind [maxLen]
theorem QU.aJY{k:Nat}{p:sC}(hp:POk c.aM p):QU ⟨c.aM,c.cV.set k p⟩:=⟨hc.1,by simpa using hc.2.1,fun q hq=>(sQ hq).elim (hc.2.2 q) (fun e=>e ▸ hp)⟩
theorem QU.later(h:c.aM+1<=100000):QU ⟨c.aM+1,c.cV⟩:=by
 have h1:=hc.1
 exact⟨⟨by grind,h⟩,hc.2.1,fun q hq=>by
  obtain⟨a,b,d⟩:=hc.2.2 q hq
  exact⟨⟨a.1,by grind⟩,b,d⟩⟩
include hw
theorem aOJ:∃p,idx c.cV w=some p/\POk c.aM p:=by
 have h3:=hc.2.1
 rw [gT hw.1 (by omega)]
 exact⟨_,rfl,hc.2.2 _ (dC _)⟩
theorem aR6(e:Int):∃r,FH c w e=some r/\K0 c w e=some r/\QU r.1/\r.1.aM=c.aM:=by
 obtain⟨p,hp,h1,⟨hs0,hs1⟩,h2⟩:=aOJ hc hw
 have h3:=hc.2.1
 unfold FH K0
 rw [lQ hc.small.1,EX hc.small.1,hQ,zO hc.small.2,lR,cE,b9 hc,b9 hw]
 simp only [aG,gY,bC,if_false,CX,B9,hp]
 cases h4:p.On
 ·exact⟨_,rfl,rfl,hc,rfl⟩
 ·cases h5:p.gP
  ·by_cases h6:p.aM=e
   ·simp_all [pT,pE]
   ·have h6':(p.aM == e)=false:=by grind
    simp only [pT,pE,h6',gY,bC,if_false,hp,aG]
    by_cases h7:p.Seen=2
    ·simp only [h7,beq_self_eq_true,if_true,show ¬((2:Int) < 2) by omega,decide_false,bC,if_false]
     exact⟨_,rfl,rfl,hc.aJY ⟨h1,by simp,fun q=>by grind⟩,rfl⟩
    ·have h7':(p.Seen == 2)=false:=by grind
     simp only [h7',show p.Seen < 2 by omega,decide_true,if_true,bC,if_false]
     have hw7:aX (p.Seen+1)=p.Seen+1:=aL (by omega) (by omega)
     exact⟨_,rfl,rfl,hc.aJY ⟨h1,by grind,fun q=>by grind⟩,rfl⟩
  ·exact⟨_,rfl,rfl,hc,rfl⟩
theorem aWB(e:Int):∃r,JD c w e=some r/\OI c w e=some r/\(QU r.1/\r.1.aM=c.aM)/\(r.2=false->r.1=c):=by
 obtain⟨p,hp,hpk⟩:=aOJ hc hw
 have h3:=hc.2.1
 unfold JD OI
 rw [lQ hc.small.1,EX hc.small.1,hQ,zO hc.small.2,lR,cE,cE,eH,b9 hc,b9 hw]
 simp only [aG,gY,bC,if_false,yE,xN,hp]
 by_cases h:0<=e/\e<=c.aM
 ·simp only [b9 h,gY,bC,if_false]
  exact⟨_,rfl,rfl,⟨hc.aJY ⟨h,by simp,fun q=>by cases q⟩,rfl⟩,fun q=>by cases q⟩
 simp_all [dP]
omit hw in
theorem aZI(e:Int):∃r,NP c e=some r/\S3 c e=some r/\QU r.1/\c.aM<=r.1.aM:=by
 have h3:=hc.2.1
 unfold NP S3
 rw [lQ hc.small.1,EX hc.small.1,hQ,zO hc.small.2,b9 hc]
 simp only [aG,gY,bC,if_false,CY,CA]
 by_cases h:c.aM=e
 ·subst h
  simp only [bne_self_eq_false,bC,if_false]
  by_cases h:c.aM=100000
  ·simp_all
  ·have h':(c.aM == 100000)=false:=by grind
   have hE:=hc.1
   have hw7:aX (c.aM+1)=c.aM+1:=aL (by omega) (by omega)
   simp only [h',bC,if_false,hw7];exact⟨_,rfl,rfl,hc.later (by omega),by grind⟩
 simp_all
end
theorem a2I{b:aB}(hc:QU b.aH){w:Int}(hw:0<=w/\w<=2)(s:Sub) :
  ∃x y,FI b w s=some (x,y)/\vQ s b w=some (y,x)/\∃cl,x=⟨b.Mem,cl,b.bJ,b.A4⟩/\QU cl/\b.aH.aM<=cl.aM:=by
 obtain⟨r,e1,e2,h3,h4⟩:=aWB hc hw s.E
 unfold FI vQ
 rw [e1,e2]
 simp only [bE,a8,wV,aG]
 by_cases p0:s.Pc=0
 ·simp only [p0,beq_self_eq_true,if_true];exact⟨_,_,rfl,rfl,_,rfl,hc,by omega⟩
 ·have p0':(s.Pc == 0)=false:=by grind
  simp only [p0',bC,if_false]
  by_cases p1:s.Pc=1
  ·simp only [p1,beq_self_eq_true,if_true]
   cases h:r.2
   ·rw [h4 h];exact⟨_,_,rfl,rfl,_,rfl,hc,by omega⟩
   ·exact⟨_,_,rfl,rfl,_,rfl,h3.1,by omega⟩
  ·have p1':(s.Pc == 1)=false:=by grind
   simp only [p1',bC,if_false]
   by_cases p2:s.Pc=2
   ·simp only [p2,beq_self_eq_true,if_true]
    by_cases q:b.aH.aM=s.E
    ·simp only [q,beq_self_eq_true,if_true];exact⟨_,_,rfl,rfl,_,rfl,hc,by omega⟩
    ·have q':(b.aH.aM == s.E)=false:=by grind
     simp only [q',bC,if_false];exact⟨_,_,rfl,rfl,_,rfl,hc,by omega⟩
   ·have p2':(s.Pc == 2)=false:=by grind
    simp only [p2',bC,if_false];exact⟨_,_,rfl,rfl,_,rfl,hc,by omega⟩
theorem aOK{b:aB}(hc:QU b.aH)(s:Sub) :
  ∃x y,rW b s=some (x,y)/\nN s b=some (y,x)/\∃cl,x=⟨b.Mem,cl,b.bJ,b.A4⟩/\QU cl/\b.aH.aM<=cl.aM:=by
 obtain⟨r2,e3,e4,h4⟩:=aZI hc s.E
 unfold rW nN kI
 rw [e3,e4,cE,lR]
 simp only [bE,a8,qX,qY,kH,aG]
 by_cases p0:s.Pc=0
 ·simp only [p0,beq_self_eq_true,if_true];exact⟨_,_,rfl,rfl,_,rfl,hc,by omega⟩
 ·have p0':(s.Pc == 0)=false:=by grind
  simp only [p0',bC,if_false]
  by_cases p1:s.Pc=1
  ·simp only [p1,beq_self_eq_true,if_true,show((1:Int) == 2)=false from rfl,bC,if_false]
   by_cases hB:0<=s.B/\s.B<=2
   ·obtain⟨r,e1,e2,h3,h3'⟩:=aR6 hc hB s.E
    simp only [b9 hB,gY,bC,if_false,if_true,e1,e2,aG]
    cases h:r.2
    ·exact⟨_,_,rfl,rfl,_,rfl,h3,by omega⟩
    ·by_cases q:aX (s.B+1)=3
     ·simp only [q,beq_self_eq_true,if_true,gY,bC,if_false];exact⟨_,_,rfl,rfl,_,rfl,h3,by omega⟩
     ·have q':(aX (s.B+1) == 3)=false:=by grind
      simp only [q',gY,bC,if_false];exact⟨_,_,rfl,rfl,_,rfl,h3,by omega⟩
   ·simp only [dP hB,HB,bC,if_false,if_true]
    exact⟨_,_,rfl,rfl,_,rfl,hc,by omega⟩
  ·have p1':(s.Pc == 1)=false:=by grind
   simp only [p1',bC,if_false]
   by_cases p2:s.Pc=2
   ·simp only [p2,beq_self_eq_true,if_true]
    cases h:r2.2
    ·simp only [bC,if_false];exact⟨_,_,rfl,rfl,_,rfl,h4⟩
    ·simp only [if_true];exact⟨_,_,rfl,rfl,_,rfl,h4⟩
   ·have p2':(s.Pc == 2)=false:=by grind
    simp only [p2',bC,if_false];exact⟨_,_,rfl,rfl,_,rfl,hc,by omega⟩
end Go.Gv
end
noncomputable section
namespace Go.Gv
theorem aOL:∀(n:Nat) (l:List Int),l.Nodup->(∀x∈l,0<=x/\x < (n:Int))->l.length<=n
 | 0, l, _, h => by
  cases l with
  | nil=>simp
  | cons a t=>(simp_all;omega)
 | n + 1, l, hn, h => by
  have ih:=aOL n (l.erase (n:Int)) (hn.erase _) (fun x hx=>by
   grind)
  grind
theorem N2{l:List bB}{k:Nat}(hk:k < l.length)(x:bB):cC (l.set k x)=cC (l.take k)++(x.Rows++cC (l.drop (k+1))):=by
 simp_all [List.set_eq_take_append_cons_drop,cC]
theorem LG{l:List bB}{k:Nat}(hk:k < l.length):cC l=cC (l.take k)++(l[k].Rows++cC (l.drop (k+1))):=by
 grind [aHD,N2]
theorem II{l:List aO}{k:Nat}(hk:k < l.length)(x:aO):eN (l.set k x)=eN (l.take k)++(x.aQ++eN (l.drop (k+1))):=by
 simp_all [List.set_eq_take_append_cons_drop,eN]
theorem FN{l:List aO}{k:Nat}(hk:k < l.length):eN l=eN (l.take k)++(l[k].aQ++eN (l.drop (k+1))):=by
 grind [aHD,II]
def aW(l:List bB)(s:Int):Prop:=∃r∈cC l,lZ r.Handle/\r.Handle % 32=s
instance (l:List bB) (s:Int):Decidable (aW l s):=by unfold aW;infer_instance
noncomputable section
variable {l:List bB} (hl:qE l)
include hl
theorem qE.small:(cC l).length<=1073741824/\l.length<=maxLen/\l.length<=1048576/\∀s∈l,s.Rows.length<=24:=by
 have:=hl.1;have h2:=hl.2.1
 refine⟨by omega,by grind [maxLen],by omega,fun s hs=>?_⟩
 have:=aH2 hs;omega
theorem QK(s:Int):OQ l s=some (decide (aW l s)):=by
 have hm:=hl.small
 unfold OQ
 rw [JV hm.1 hm.2.1,aG]
 have key:=jS (f:=nD s (cC l)) (cC l) (fun k=>(k:Int)) (fun r=>¬(lZ r.Handle/\r.Handle % 32=s)) (Out.brk ()) (Out.ret true)
  (fun k hk hp=>by
   have hk':=hl.2.1
   simp only [nD,zI]
   rw [if_pos (by simp;omega),aP hk,lG (show k < maxLen by grind [maxLen])]
   grind [iM,gL])
  (fun k hk hp=>by
   simp_all [nD,zI,aP,iM,gL])
  (by simp [nD])
 have key':loop (nD s (cC l)) 0=_:=key
 rw [key']
 by_cases q:aW l s
 ·rw [if_neg (fun a=>by obtain⟨r,hr,e⟩:=q;grind),b9 q];rfl
 ·rw [if_pos (fun r hr e=>q ⟨r,hr,e⟩),dP q];rfl
theorem QL(s:Int):B5 l s=some (decide (aW l s)):=by
 have hm:=hl.small
 unfold B5
 have e1:∀(r:dE),pC r s=some (decide (lZ r.Handle/\r.Handle % 32=s)):=by
  intro r
  unfold pC oO
  rw [iN]
  by_cases q:lZ r.Handle
  ·rw [q.mod.1];grind
  ·simp [q]
 have e2:∀x∈l,B4 x s=some (x.Rows.any fun r=>decide (lZ r.Handle/\r.Handle % 32=s)):=by
  intro x hx
  unfold B4
  have:x.Rows.length<=maxLen:=by grind [maxLen]
  rw [show(fun y0=>pC y0 s)=fun r=>some (decide (lZ r.Handle/\r.Handle % 32=s)) from funext e1,aGZ this];rfl
 rw [aEU hm.2.1 (fun x=>x.Rows.any fun r=>decide (lZ r.Handle/\r.Handle % 32=s)) _ e2]
 simp only [aG]
 congr 1
 rw [FR,decide_eq_true_iff]
 simp only [List.any_eq_true,decide_eq_true_eq,aW,cC,aHC]
 grind
theorem qE.more{k:Nat}(hk:k < l.length){r:dE}(hr:A2 r)(hn:¬aW l (r.Handle % 32)):qE (l.set k ⟨l[k].Rows ++ [r]⟩):=by
 have e:=N2 hk (⟨l[k].Rows ++ [r]⟩:bB)
 have p:(cC (l.set k ⟨l[k].Rows ++ [r]⟩)).Perm (r :: cC l):=by
  grind [LG]
 have h1:∀x∈cC (l.set k ⟨l[k].Rows ++ [r]⟩),A2 x:=fun x hx=>by
  rcases gW.1 (p.mem_iff.1 hx) with rfl | h
  ·exact hr
  ·exact hl.2.2.1 x h
 have h2:((cC (l.set k ⟨l[k].Rows ++ [r]⟩)).map mR).Nodup:=by
  refine(List.Perm.nodup_iff (p.map mR)).2 ?_
  rw [EZ,List.nodup_cons]
  refine⟨fun h=>hn ?_,hl.2.2.2⟩
  obtain⟨x,hx,e⟩:=List.mem_map.1 h
  exact⟨x,hx,(hl.2.2.1 x hx).1,e⟩
 refine⟨by simpa using hl.1,?_,h1,h2⟩
 have:=aOL 24 _ h2 (fun x hx=>by
  obtain⟨y,hy,rfl⟩:=List.mem_map.1 hx
  have:=(h1 y hy).1.mod
  grind [mR])
 grind
end
theorem aR7{b:aB}(hb:sB b)(hs:aEW b){w:Int}(hw:0<=w/\w<=2)(s:Sub) :
  ∃x y,uP b w s=some (x,y)/\oP s b w=some (y,x)/\∃L,x=⟨b.Mem,b.aH,L,b.A4⟩/\qE L/\∀r∈cC L,O5 b r:=by
 have hL:=hb.1.2.2.1
 have hm:=hb.1.1
 have hlen:w.toNat < b.bJ.length:=by have:=hL.1;omega
 have hx:idx b.bJ w=some b.bJ[w.toNat]:=gT hw.1 (by omega)
 have hg:b.Mem.aA.Global.length<=maxLen:=by rw [hm.1.2.1];simp [maxLen]
 have ho:b.Mem.aA.Own.length<=maxLen:=by rw [hm.1.2.2.1];simp [maxLen]
 have hall:(fE b.Mem.aA).length<=1073741824:=by have:=hs.1.2.2.2.2;omega
 have hrow:=hL.small.2.2.2 _ (dC hlen)
 have he:=hb.1.2.1.1
 unfold uP oP lK
 rw [cE,eH,GP hm.1.1.1 hall hg ho,JW hm.1.1.1 hall hg ho,gL]
 simp only [bE,a8,aG,tJ,CV,lJ]
 by_cases p0:s.Pc=0
 ·simp only [p0,beq_self_eq_true,if_true];exact⟨_,_,rfl,rfl,_,rfl,hL,hb.2⟩
 ·have p0' : (s.Pc == 0) = false := by grind
  simp only [p0',bC,if_false]
  by_cases p1:s.Pc=1
  ·simp only [p1,beq_self_eq_true,bne_self_eq_false,bC,if_false,if_true]
   by_cases q1:0<=s.E/\s.E<=b.aH.aM
   ·simp only [b9 q1,gY,bC,if_false]
    by_cases q2:oH b.Mem s.A
    ·have hh:=q2.1
     simp only [b9 q2,gY,bC,if_false,if_pos hh,hh.mod.1,QK hL,QL hL,aG]
     by_cases q3:aW b.bJ (s.A % 32)
     ·simp only [b9 q3,if_true];exact⟨_,_,rfl,rfl,_,rfl,hL,hb.2⟩
     ·have hmore:=hL.more hlen (r:=⟨s.A,s.E⟩) ⟨hh,q1.1,by grind⟩ q3
      have e:EL b.bJ w s.A s.E=some (b.bJ.set w.toNat ⟨b.bJ[w.toNat].Rows ++ [⟨s.A,s.E⟩]⟩,true):=by
       unfold EL vN
       rw [GO hL.small.1,lR,UN hL.small.2.2.1 (fun s h=>by have:=hL.small.2.2.2 s h;omega)]
       simp only [b9 hL,b9 hw,aG,gY,bC,if_false,hx]
       rw [aK (by simp;omega),GO hmore.small.1,b9 hmore];rfl
      simp only [dP q3,bC,if_false,hx,e,aG]
      rw [aK (by simp;omega)]
      refine⟨_,_,rfl,rfl,_,rfl,hmore,fun r hr=>?_⟩
      rw [N2 hlen] at hr
      have hsp:=LG hlen
      rcases gC.1 hr with h | h
      ·exact hb.2 r (by grind)
      ·rcases gC.1 h with h | h
       ·rcases gC.1 h with h | h
        ·exact hb.2 r (by grind)
        ·simp at h;subst h;exact⟨q2,q1.2⟩
       ·exact hb.2 r (by grind)
    ·simp only [dP q2,HB,if_true];exact⟨_,_,rfl,rfl,_,rfl,hL,hb.2⟩
   ·simp only [dP q1,HB,if_true];exact⟨_,_,rfl,rfl,_,rfl,hL,hb.2⟩
  ·have p1':(s.Pc == 1)=false:=by grind
   have p1'':(s.Pc != 1)=true:=by grind
   simp only [p1',p1'',bC,if_false,if_true];exact⟨_,_,rfl,rfl,_,rfl,hL,hb.2⟩
end Go.Gv
end
noncomputable section
namespace Go.Gv
def st4(b:List Int)(a:Nat)(n:Int):List Int:=(((b.set a 0).set (a+1) 0).set (a+2) 0).set (a+3) n
theorem EY(b:List Int)(a:Nat)(n:Int):(st4 b a n).length=b.length:=by simp [st4]
theorem aL7{b:List Int}(h:pX b)(a:Nat){n:Int}(hn:0<=n/\n<=255):pX (st4 b a n):=by
 have key:∀{l:List Int} (i:Nat) (v:Int),pX l->0<=v/\v<=255->pX (l.set i v):=fun i v hl hv x hx=>by
  rcases sQ hx with h | rfl
  ·exact hl x h
  ·exact hv
 exact key _ _ (key _ _ (key _ _ (key _ _ h (by omega)) (by omega)) (by omega)) hn
theorem aWC{n:Int}(hn:0<=n/\n<=255):((u8 n).toNat:Int)=n:=by
 grind [u8,UInt8.toNat_ofNat']
theorem aL8{l:List Int}(i:Nat){v:Int}(hl:pX l)(hv:0<=v/\v<=255):pX (l.set i v):=fun x hx=>by
 rcases sQ hx with h | rfl
 ·exact hl x h
 ·exact hv
def MK(b:List Int)(a:Nat)(n:Int):List Int:=(((b.set a (n / 16777216)).set (a+1) (n / 65536 % 256)).set (a+2) (n / 256 % 256)).set (a+3) (n % 256)
theorem XJ(b:List Int)(a:Nat)(n:Int):(MK b a n).length=b.length:=by simp [MK]
theorem aR8{b:List Int}(h:pX b)(a:Nat){n:Int}(hn:0<=n/\n<=4294967295):pX (MK b a n):=by
 grind [MK,aL8]
theorem aR9(b:List Int)(a:Nat)(x y z u:Int):(((b.set (a+3) u).set (a+2) z).set (a+1) y).set a x=(((b.set a x).set (a+1) y).set (a+2) z).set (a+3) u:=by
 refine List.ext_getElem (by simp) fun j h1 h2=>?_
 grind
theorem aSA{b:List Int}{a:Nat}(h:a+4<=b.length)(hl:b.length<=100000){n:Int}(hn:0<=n/\n<=4294967295):CT b (a:Int) 4 n=some (MK b a n):=by
 have st:∀(c:List Int) (m:Int) (i:Nat),c.length=b.length->0<=m->m<=4294967295->i < 4->zJ (a:Int) (c,m,(i:Int))=some (.next (c.set (a+i) (m % 256),m / 256,(i:Int) - 1)):=fun c m i hc h0 h1 hi=>by
  simp only [zJ]
  rw [if_pos (by simp),aL (x:=(a:Int)+i) (by omega) (by omega),show(a:Int)+i=((a+i:Nat):Int) by omega,aP (by omega),aG,NV h0,aL0 h0,aL (x:=m / 256) (by omega) (by omega),aL (x:=(i:Int) - 1) (by omega) (by omega),JZ]
 unfold CT
 rw [show aX (4 - 1)=((3:Nat):Int) from by grind [aL]]
 rw [bQ (st b n 3 rfl hn.1 hn.2 (by omega)),show((3:Nat):Int) - 1=((2:Nat):Int) by rfl,
  bQ (st _ _ 2 (by simp) (by omega) (by omega) (by omega)),show((2:Nat):Int) - 1=((1:Nat):Int) by rfl,
  bQ (st _ _ 1 (by simp) (by omega) (by omega) (by omega)),show((1:Nat):Int) - 1=((0:Nat):Int) by rfl,
  bQ (st _ _ 0 (by simp) (by omega) (by omega) (by omega)),bG (r:=MK b a n)]
 ·rfl
 ·simp only [zJ]
  rw [if_neg (by simp)]
  have e1:n / 256 / 256=n / 65536:=by omega
  have e2:n / 256 / 256 / 256=n / 16777216:=by omega
  have e3:n / 16777216 % 256=n / 16777216:=by omega
  simp_all [MK,aR9]
def DQ(n:Int):List UInt8:=[u8 (n / 16777216),u8 (n / 65536),u8 (n / 256),u8 n]
theorem O8{n:Int}(hn:0<=n/\n<=4294967295):kM n 4=some (DQ n):=by
 have hw:vL 4=some true:=by grind [vL,eH]
 unfold kM
 rw [hw]
 have e1:IntKind.u64.wrap (aX (8 * 4))=32:=by decide
 have e2:aCK .i64 1 32=4294967296:=by decide
 simp only [aG,gY,bC,if_false,e1,e2]
 rw [if_neg (by simp;omega),aK (by omega),dP (by omega)]
 simp only [sE,bC,if_false]
 rw [aK (by omega),show aX (4 - 1)=((3:Nat):Int) from by grind [aL]]
 have st:∀(m:Int) (c:List UInt8) (i:Nat),i < c.length->i < 4->0<=m->nY (m,c,(i:Int))=some (.next (m / 256,c.set i (u8 m),(i:Int) - 1)):=fun m c i hc hi h0=>by
  simp only [nY]
  rw [if_pos (by simp),aP hc,aG,show(8:Int)=((8:Nat):Int) from rfl,aQW h0 (by omega),aL (by omega) (by omega),JZ];rfl
 rw [bQ (st n _ 3 (by simp) (by omega) hn.1),show((3:Nat):Int) - 1=((2:Nat):Int) by rfl,
  bQ (st _ _ 2 (by simp) (by omega) (by omega)),show((2:Nat):Int) - 1=((1:Nat):Int) by rfl,
  bQ (st _ _ 1 (by simp) (by omega) (by omega)),show((1:Nat):Int) - 1=((0:Nat):Int) by rfl,
  bQ (st _ _ 0 (by simp) (by omega) (by omega)),bG (r:=DQ n)]
 ·rfl
 ·simp only [nY]
  rw [if_neg (by simp)]
  have e1:n / 256 / 256=n / 65536:=by omega
  rw [e1,show n / 65536 / 256=n / 16777216 by omega]
  rfl
theorem aJZ{n:Int}(hn:0<=n):((u8 n).toNat:Int)=n % 256:=by
 have:u8 n=u8 (n % 256):=by
  grind [u8]
 grind [aWC]
theorem aOM{b:List Int}{a:Nat}(h:a+4<=b.length)(hl:b.length<=100000){n:Int}(hn:0<=n/\n<=4294967295):lO b (a:Int) (DQ n)=some (MK b a n):=by
 have st:∀(c:List Int) (i:Nat) (v:UInt8),c.length=b.length->i < 4->idx (DQ n) (i:Int)=some v->j6 b (a:Int) (DQ n) (c,(i:Int))=some (.next (c.set (a+i) (v.toNat:Int),((i+1:Nat):Int))):=fun c i v hc hi hv=>by
  simp only [j6]
  rw [aK hc,if_pos (by grind [DQ]),hv,aG,aL (x:=(a:Int)+i) (by omega) (by omega),show(a:Int)+i=((a+i:Nat):Int) by omega,aP (by omega),aG,aL (by omega) (by omega),JZ];rfl
 unfold lO
 rw [show(0:Int)=((0:Nat):Int) from rfl,bQ (st b 0 _ rfl (by omega) rfl),bQ (st _ 1 _ (by simp) (by omega) rfl),bQ (st _ 2 _ (by simp) (by omega) rfl),bQ (st _ 3 _ (by simp) (by omega) rfl),bG (r:=MK b a n)]
 ·grind [IZ,IY,aK,XJ]
 ·simp only [j6]
  rw [aK (by simp),if_neg (by simp [DQ])]
  simp only [aJZ hn.1,aJZ (show 0<=n / 16777216 by omega),aJZ (show 0<=n / 65536 by omega),aJZ (show 0<=n / 256 by omega)]
  rw [show n / 16777216 % 256=n / 16777216 by omega]
  rfl
theorem aWD{b:List Int}{a:Nat}{n:Int}(hn:0<=n/\n<=255):MK b a n=st4 b a n:=by
 grind [MK,st4]
theorem GQ{b:List Int}{a:Nat}(h:a+4<=b.length)(hl:b.length<=100000){n:Int}(hn:0<=n/\n<=255):CT b (a:Int) 4 n=some (st4 b a n):=by
 grind [aSA,aWD]
theorem a4H{n:Int}(hn:0<=n/\n<=255):DQ n=[0,0,0,u8 n]:=by
 unfold DQ
 rw [show n / 16777216=0 by omega,show n / 65536=0 by omega,show n / 256=0 by omega];rfl
theorem UO{n:Int}(hn:0<=n/\n<=255):kM n 4=some [0,0,0,u8 n]:=by
 grind [O8,a4H]
theorem SI{b:List Int}{a:Nat}(h:a+4<=b.length)(hl:b.length<=100000){n:Int}(hn:0<=n/\n<=255):lO b (a:Int) [0,0,0,u8 n]=some (st4 b a n):=by
 rw [<-a4H hn,aOM h hl ⟨hn.1,by omega⟩,aWD hn]
end Go.Gv
end
noncomputable section
namespace Go.Gv
theorem a0P{x y z:Int}:∀(a:Nat) (l:List Int),a+3<=l.length->cM l a [x,y,z]=((l.set a x).set (a+1) y).set (a+2) z
 | 0, l, h => by
  match l,h with
  | _ :: _ :: _ :: t,_=>simp [cM]
 | a + 1, l, h => by
  match l,h with
  | u :: t, h =>
   have ih:=a0P (x:=x) (y:=y) (z:=z) a t (by grind)
   grind [cM]
def aWE(p k:Nat)(c:Int):Nat:=(iP ((p:Int) * 4+k) c).toNat
def gB(b:List Int)(p:Nat)(c:Int):Nat->List Int
 | 0=>((b.set (p * 64) 171).set (p * 64+1) c).set (p * 64+2) (cX c)
 | k+1=>st4 (gB b p c k) (aWE p k c) 1
theorem ML(b:List Int)(p:Nat)(c:Int):∀k,(gB b p c k).length=b.length
 | 0=>by simp [gB]
 | k+1=>by rw [gB,EY,ML b p c k]
theorem aE3{l:List Int}(i:Nat){v:Int}(hl:pX l)(hv:0<=v/\v<=255):pX (l.set i v):=fun x hx=>by
 rcases sQ hx with h | rfl
 ·exact hl x h
 ·exact hv
theorem aJ0{b:List Int}(hb:pX b)(p:Nat){c:Int}(hc:0<=c/\c<=2):∀k,pX (gB b p c k)
 | 0 => by
  have:=mO c
  exact aE3 _ (aE3 _ (aE3 _ hb (by omega)) (by omega)) (by omega)
 | k+1=>aL7 (aJ0 hb p hc k) _ (by omega)
def gS(p:Nat)(n:Nat):List Int:=(List.range n).map fun(i:Nat)=>(p:Int) * 4+(i:Int)
theorem aE4(p n:Nat):(gS p n).length=n:=by simp [gS]
theorem aQ2(p n:Nat):gS p (n+1)=gS p n ++ [(p:Int) * 4+(n:Int)]:=by simp [gS,List.range_succ]
theorem aJ1{p k:Nat}{c:Int}(hp:p < 6)(hk:(k:Int) < cX c):iP ((p:Int) * 4+k) c=(aWE p k c:Int)/\aWE p k c+4<=384:=by
 have h4:=mO c
 have hm:=O3 (c:=c) (i:=(k:Int)) (by omega) hk
 have hst:4<=aY c:=by
  have:0<=c/\c<=2:=uY.1 (by omega)
  rcases wG this with e | e | e <;> rw [e] <;> decide
 have e:iP ((p:Int) * 4+k) c=(p:Int) * 64+8+(k:Int) * aY c:=by
  unfold iP
  grind
 grind [aWE]
theorem aH4{p k:Nat}(hp:p < 6)(hk:k < 4):qD (p:Int) (k:Int)=some ((p:Int) * 4+k)/\KZ (p:Int) (k:Int)=some ((p:Int) * 4+k):=by
 grind [aL,qD,uI,cE,KZ,BZ,eH]
noncomputable section
variable {b:List Int} (hb:b.length=384) {p:Nat} (hp:p < 6) {c:Int} (hc:0<=c/\c<=2)
include hb hp hc
theorem aE5:loop (zK c (p:Int)) ([],0,gB b p c 0)=some (gS p (cX c).toNat,gB b p c (cX c).toNat):=by
 have h4:=mO c
 refine gR (cX c).toNat (fun k=>(gS p k,(k:Int),gB b p c k)) _ (fun k hk=>?_) ?_
 ·have ho:=aJ1 (c:=c) hp (k:=k) (by omega)
  simp only [zK,P9,hO,aG]
  rw [if_pos (by simp;omega),(aH4 hp (by omega)).1]
  simp only [aG,sL,ho.1]
  rw [GQ (by grind [ML]) (by grind [ML]) (by omega)]
  simp only [aG]
  rw [aK (by grind [aE4]),aL (by omega) (by omega),aQ2];rfl
 ·simp only [zK,hO,aG]
  grind
theorem aON:loop (EJ c (p:Int) (cX c)) ([],0,gB b p c 0)=some (gS p (cX c).toNat,gB b p c (cX c).toNat):=by
 have h4:=mO c
 refine gR (cX c).toNat (fun k=>(gS p k,(k:Int),gB b p c k)) _ (fun k hk=>?_) ?_
 ·have ho:=aJ1 (c:=c) hp (k:=k) (by omega)
  simp only [EJ,LV]
  rw [if_pos (by simp;omega),(aH4 hp (by omega)).2]
  simp only [aG,yH,ho.1]
  rw [UO (by omega),aG,SI (by grind [ML]) (by grind [ML]) (by omega)]
  simp only [aG]
  rw [aK (by grind [aE4]),aL (by omega) (by omega),aQ2];rfl
 ·simp only [EJ]
  grind
end
theorem aWF{h:Heap}(hh:UL h){c:Int}(hc:0<=c/\c<=2) :
  (qW h c=some (h,[])/\DY h c=some (h,[])) \/
  ∃p,p < 6/\b8 h p < 0/\qW h c=some (⟨gB h.Bytes p c (cX c).toNat,h.Class.set p c⟩,gS p (cX c).toNat)/\DY h c=some (⟨gB h.Bytes p c (cX c).toNat,h.Class.set p c⟩,gS p (cX c).toNat):=by
 have hs:=hh.1
 have h6:=hs.2.1
 have h384:=hs.1
 have hp4:=mO c
 have hcp:=O7 (h:=h) (by omega) (by omega)
 have hne:∀j (hj:j < 6),j < h.Class.findIdx (fun x=>decide (x = -1))->h.Class[j]≠-1:=fun j hj hlt=>by
  grind
 generalize hq:h.Class.findIdx (fun x=>decide (x = -1))=q at hne
 have hq6:q<=6:=by grind
 have s1:∀k (hk:k < q),eF h c (k:Int)=some (.next ((k+1:Nat):Int)):=fun k hk=>by
  have:=hne k (by omega) hk
  have n:(h.Class[k] != -1)=true:=by grind
  simp only [eF,GI]
  rw [if_pos (by simp;omega),aP (by omega),aG,n,if_pos rfl,aL (by omega) (by omega)];rfl
 have s2:∀k (hk:k < q),dZ h.Class (-1) (k:Int)=some (.next ((k+1:Nat):Int)):=fun k hk=>by
  have:=hne k (by omega) hk
  have n:((-1:Int) == h.Class[k])=false:=by grind
  simp only [dZ]
  rw [if_pos (by simp;omega),aP (by omega),aG,n,aL (by omega) (by omega)];rfl
 have hm:h.Bytes.length<=maxLen:=by grind [maxLen]
 by_cases h5:q=6
 ·left
  have a1:loop (eF h c) 0=some (Out.brk ()):=gR q (fun k=>(k:Int)) _ s1 (by simp_all [eF])
  have a2:loop (dZ h.Class (-1)) 0=some (Out.brk ()):=gR q (fun k=>(k:Int)) _ s2 (by simp_all [dZ])
  constructor
  ·unfold qW;rw [a1];rfl
  ·unfold DY lT
   rw [a2,hcp,JS hm,jE,b9 hh,b9 hc];rfl
 ·right
  have hq5:q < 6:=by omega
  have he:h.Class[q] = -1:=by
   grind
  refine⟨q,hq5,by grind [S4],?_,?_⟩
  ·have a1:loop (eF h c) 0=some (Out.ret (⟨gB h.Bytes q c (cX c).toNat,h.Class.set q c⟩,gS q (cX c).toNat)):=gR q (fun k=>(k:Int)) _ s1 (by
    have e0:aX ((q:Int) * 64)=((q * 64:Nat):Int):=by grind [aL]
    have e1:aX (((q * 64:Nat):Int)+1)=((q * 64+1:Nat):Int):=by grind [aL]
    have e2:aX (((q * 64:Nat):Int)+2)=((q * 64+2:Nat):Int):=by grind [aL]
    have n:(h.Class[q] != -1)=false:=by grind
    simp only [eF,e0,e1,e2,JZ]
    rw [if_pos (by simp;omega),aP (by omega),aG,n,if_neg (by simp),aP (by omega),aG,aP (by simp;omega),aG,hO,aG,aP (by simp;omega),aG]
    have:=aE5 h384 hq5 hc
    simp only [gB] at this
    rw [this];rfl)
   unfold qW;rw [a1];rfl
  ·have a2:loop (dZ h.Class (-1)) 0=some (Out.ret (q:Int)):=gR q (fun k=>(k:Int)) _ s2 (by
    have n:((-1:Int) == h.Class[q])=true:=by rw [he];rfl
    simp only [dZ]
    rw [if_pos (by simp;omega),aP (by omega),aG,n];rfl)
   unfold DY lT
   rw [a2,hcp,JS hm,jE,b9 hh,b9 hc]
   have e0:aX ((q:Int) * 64)=((q * 64:Nat):Int):=by grind [aL]
   simp only [aG,wU,gY,bC,if_false,xK,e0,zN,LW,JZ]
   rw [dP (by omega),if_neg (by simp),aP (by omega),aG,aK (by omega),a0P _ _ (by omega)]
   have:=aON h384 hq5 hc
   simp only [gB] at this
   rw [this];rfl
theorem LOk.count{l:aA}(h:LOk l):(fE l).length<=24:=aOL 24 _ h.2.2.2.2 (fun x hx=>by have:=h.2.2.2.1 x hx;omega)
theorem aSB{m:Mem}(hs:eM m.Heap){s:Int}(hc:0<=bR m.Heap s):∃h,yC m s=some h/\EK m s=some h:=by
 unfold yC EK L7 LX v8 vM
 rw [oF hs hc,EV hs hc,aG,aG,cE,cE,uZ,eH]
 have h1:=(LF hc).1
 simp only [b9 h1,aG,gY,bC,if_false]
 by_cases q:1<=lY m.Heap s/\lY m.Heap s<=6
 ·simp only [b9 q,gY,bC,if_false];exact⟨_,rfl,rfl⟩
 ·simp only [dP q,HB,if_true];exact⟨_,rfl,rfl⟩
theorem VH{l:List aO}{k:Nat}(hk:k < l.length)(t:List Int):(eN (l.set k ⟨l[k].aQ++t⟩)).length=(eN l).length+t.length:=by
 grind [II,FN]
end Go.Gv
end
noncomputable section
namespace Go.Gv
def bt(b:List Int)(i:Nat):Int:=b.getD i 0
theorem aOO{b:List Int}{i:Nat}(h:i < b.length):b[i]=bt b i:=by
 grind [bt]
theorem ld4{b:List Int}{a:Nat}(h:a+4<=b.length):ld b a 4=((bt b a * 256+bt b (a+1)) * 256+bt b (a+2)) * 256+bt b (a+3):=by
 grind [ld,IJ,ldF,aOO]
theorem MM{b:List Int}{i j:Nat}{v:Int}(hi:i < b.length):bt (b.set i v) j=if j=i then v else bt b j:=by
 grind [bt]
theorem GR{b:List Int}{a:Nat}{n:Int}(h:a+4<=b.length)(j:Nat):bt (st4 b a n) j=if j=a+3 then n else if a<=j/\j < a+3 then 0 else bt b j:=by
 unfold st4
 rw [MM (by simp;omega),MM (by simp;omega),MM (by simp;omega),MM (by omega)]
 omega
theorem aOP{b:List Int}{a:Nat}{n:Int}(h:a+4<=b.length):ld (st4 b a n) a 4=n:=by
 simp_all [ld4,EY,GR]
theorem O9{b b':List Int}{a:Nat}(h:a+4<=b.length)(hl:b'.length=b.length)(hs:∀j,a<=j->j < a+4->bt b' j=bt b j):ld b' a 4=ld b a 4:=by
 simp_all [ld4]
def XL(h:Heap)(p:Nat):Prop:=
 if b8 h p < 0 then ∀k,k < 64->bt h.Bytes (p * 64+k)=0
 else ((bt h.Bytes (p * 64)=171/\bt h.Bytes (p * 64+1)=b8 h p/\bt h.Bytes (p * 64+2)=cX (b8 h p))/\(∀k,3<=k->k < 8->bt h.Bytes (p * 64+k)=0)/\∀i,i < (cX (b8 h p)).toNat->1<=ld h.Bytes (p * 64+8+i * (aY (b8 h p)).toNat) 4/\ld h.Bytes (p * 64+8+i * (aY (b8 h p)).toNat) 4<=7)
theorem aH5{h:Heap}(hs:eM h){p:Nat}(hp:p < 6){k:Nat}(hk:k < 64):(fC h p).getD k 0=bt h.Bytes (p * 64+k):=by
 rw [<-aHZ hs hp hk,aOO (by have:=hs.1;omega)]
theorem XM{l:List Int}{x:Int}:x∈l↔∃k,k < l.length/\l.getD k 0=x:=by
 rw [TX]
 constructor
 ·rintro⟨k,hk,e⟩
  exact⟨k,hk,by grind⟩
 grind
theorem FO{h:Heap}(hs:eM h){p:Nat}(hp:p < 6):mY h p↔XL h p:=by
 unfold mY XL
 have hl:=NX hs hp
 split
 ·constructor
  ·intro q k hk
   rw [<-aH5 hs hp hk]
   exact q _ (XM.2 ⟨k,by omega,rfl⟩)
  grind [XM,aH5]
 ·rw [aH5 hs hp (by omega),aH5 hs hp (by omega),aH5 hs hp (by omega)]
  have e:(∀x∈((fC h p).drop 3).take 5,x=0)↔∀k,3<=k->k < 8->bt h.Bytes (p * 64+k)=0:=by
   have g:∀j,j < 5->(((fC h p).drop 3).take 5).getD j 0=bt h.Bytes (p * 64+(3+j)):=fun j hj=>by
    rw [<-aH5 hs hp (by omega),VQ,VQ,DK,if_pos hj,QY]
   constructor
   ·intro q k h3 h8
    have:=q _ (XM.2 ⟨k - 3,by grind,rfl⟩)
    grind
   ·intro q x hx
    obtain⟨k,hk,rfl⟩:=XM.1 hx
    simp [hl] at hk
    rw [g _ hk];exact q _ (by omega) (by omega)
  rw [e];rfl
theorem XL.same{h h':Heap}{p:Nat}(hp:p < 6)(hs:eM h)(hl:h'.Bytes.length=h.Bytes.length)(hc:b8 h' p=b8 h p)(hb:∀k,k < 64->bt h'.Bytes (p * 64+k)=bt h.Bytes (p * 64+k))(q:XL h p):XL h' p:=by
 have h1:=hs.1
 unfold XL at q ⊢
 rw [hc]
 split
 ·grind
 ·rename_i q0;rw [if_neg q0] at q
  obtain⟨⟨a1,a2,a3⟩,a4,a5⟩:=q
  have b0:=hb 0 (by omega);have b1:=hb 1 (by omega);have b2:=hb 2 (by omega)
  simp only [KB] at b0
  refine⟨⟨by omega,by omega,by omega⟩,fun k k3 k8=>by grind,fun i hi=>?_⟩
  have hz:=sM hs hp (c:=b8 h p) rfl hi
  rw [O9 (b:=h.Bytes) (by omega) hl fun j j1 j2=>by
   have:=hb (j - p * 64) (by omega)
   grind]
  grind
theorem FP{h:Heap}{s:Int}(hc:0<=bR h s):∃p i,p < 6/\i < (cX (b8 h p)).toNat/\s=(p:Int) * 4+i/\bR h s=b8 h p/\(iP s (bR h s)).toNat=p * 64+8+i * (aY (b8 h p)).toNat/\(s / 4).toNat=p:=by
 obtain⟨h1,h2,h3⟩:=LF hc
 have hle:=mO (b8 h (s / 4).toNat)
 refine⟨(s / 4).toNat,(s % 4).toNat,by omega,by omega,by omega,h3,?_,rfl⟩
 rw [h3]
 unfold iP
 rw [if_pos ⟨h1,by omega⟩]
 grind [aY]
theorem PA{c:Int}{i j:Nat}(hi:i < (cX c).toNat)(hj:j < (cX c).toNat)(hn:i≠j):i * (aY c).toNat+4<=j * (aY c).toNat\/j * (aY c).toNat+4<=i * (aY c).toNat:=by
 have hc:0<=c/\c<=2:=uY.1 (by omega)
 have h12:12<=(aY c).toNat:=by rcases wG hc with rfl | rfl | rfl <;> decide
 rcases Nat.lt_or_gt_of_ne hn with q | q
 ·left
  have:(i+1) * (aY c).toNat<=j * (aY c).toNat:=oW _ q
  rw [fU] at this;omega
 ·right
  have:(j+1) * (aY c).toNat<=i * (aY c).toNat:=oW _ q
  rw [fU] at this;omega
theorem UL.a2J{h:Heap}(hh:UL h){s g:Int}(hc:0<=bR h s)(hg:1<=g/\g<=7) :
  UL ⟨st4 h.Bytes (iP s (bR h s)).toNat g,h.Class⟩/\∀t,0<=bR h t->lY ⟨st4 h.Bytes (iP s (bR h s)).toNat g,h.Class⟩ t=if t=s then g else lY h t:=by
 obtain⟨hs,hp⟩:=hh
 have h384:=hs.1
 have hs':eM ⟨st4 h.Bytes (iP s (bR h s)).toNat g,h.Class⟩:=⟨by grind [EY],hs.2.1,aL7 hs.2.2.1 _ (by omega),hs.2.2.2⟩
 obtain⟨p,i,p6,hi,es,ec,eo,ep⟩:=FP hc
 have hz:=sM hs p6 rfl hi
 have h4:=mO (b8 h p)
 refine⟨⟨hs',fun q hq=>?_⟩,fun t ht=>?_⟩
 ·rw [FO hs' hq]
  have hold:=(FO hs hq).1 (hp q hq)
  by_cases e:q=p
  ·subst e
   have hpos:0 < cX (b8 h q):=by omega
   have hcl:¬b8 h q < 0:=by omega
   unfold XL at hold ⊢
   have hcl':b8 ⟨st4 h.Bytes (iP s (bR h s)).toNat g,h.Class⟩ q=b8 h q:=rfl
   rw [hcl']
   rw [if_neg hcl] at hold ⊢
   obtain⟨⟨a1,a2,a3⟩,a4,a5⟩:=hold
   have bs:∀k,k < 8->bt (st4 h.Bytes (iP s (bR h s)).toNat g) (q * 64+k)=bt h.Bytes (q * 64+k):=fun k hk=>by
    rw [GR (by omega),if_neg (by omega),if_neg (by omega)]
   have b0:=bs 0 (by omega);have b1:=bs 1 (by omega);have b2:=bs 2 (by omega)
   simp only [KB] at b0
   refine⟨⟨by grind,by grind,by grind⟩,fun k k3 k8=>by grind,fun j hj=>?_⟩
   have hzj:=sM hs p6 rfl hj
   by_cases ej:j=i
   ·grind [aOP]
   ·rw [O9 (b:=h.Bytes) (by omega) (by grind [EY]) fun k k1 k2=>?_]
    ·grind
    ·simp only [eo]
     have:=PA hi hj (fun q=>ej q.symm)
     rw [GR (by omega),if_neg (by omega),if_neg (by omega)]
  ·refine XL.same hq hs (by grind [EY]) rfl (fun k hk=>?_) hold
   rw [GR (by omega),if_neg (by omega),if_neg (by omega)]
 ·have e2:bR ⟨st4 h.Bytes (iP s (bR h s)).toNat g,h.Class⟩ t=bR h t:=rfl
  unfold lY
  rw [e2]
  by_cases e:t=s
  ·subst e;rw [if_pos rfl];grind [aOP]
  ·rw [if_neg e]
   obtain⟨p',i',p6',hi',es',ec',eo',ep'⟩:=FP ht
   have hz':=sM hs p6' rfl hi'
   rw [O9 (b:=h.Bytes) (by omega) (by grind [EY]) fun k k1 k2=>?_]
   simp only
   by_cases ee:p'=p
   ·subst ee
    have:=PA hi hi' (fun q=>e (by omega))
    rw [GR (by omega),if_neg (by omega),if_neg (by omega)]
   ·have h4':=mO (b8 h p')
    rw [GR (by omega),if_neg (by omega),if_neg (by omega)]
theorem aB4{p k:Nat}{c:Int}(hp:p < 6)(hk:(k:Int) < cX c):aWE p k c=p * 64+8+k * (aY c).toNat/\8+k * (aY c).toNat+4<=64:=by
 have hc:0<=c/\c<=2:=uY.1 (by omega)
 have h1:=aJ1 (c:=c) hp hk
 have hle:=mO c
 have e:=h1.1
 unfold iP at e
 rw [if_pos (by omega)] at e
 grind [aY,cX]
theorem a0Q{b:List Int}{p:Nat}{c:Int}(hl:b.length=384)(hp:p < 6)(hc:0<=c/\c<=2):∀k:Nat,(k:Int)<=cX c->∀j,(j < p * 64\/p * 64+64<=j->bt (gB b p c k) j=bt b j)/\(3<=j->j < 8->bt (gB b p c k) (p * 64+j)=bt b (p * 64+j))/\bt (gB b p c k) (p * 64)=171/\bt (gB b p c k) (p * 64+1)=c/\bt (gB b p c k) (p * 64+2)=cX c
 | 0, hk, j => by
  have key:∀i,bt (gB b p c 0) i=if i=p * 64+2 then cX c else if i=p * 64+1 then c else if i=p * 64 then 171 else bt b i:=fun i=>by
   grind [gB,MM]
  grind
 | k + 1, hk, j => by
  have ih:=a0Q hl hp hc k (by omega)
  have hoff:=aB4 (c:=c) hp (by omega:(k:Int) < cX c)
  have hbl:=ML b p c k
  unfold gB
  refine⟨fun h=>?_,fun h1 h2=>?_,?_,?_,?_⟩
  ·rw [GR (by omega),if_neg (by omega),if_neg (by omega)];grind
  ·rw [GR (by omega),if_neg (by omega),if_neg (by omega)];grind
  ·rw [GR (by omega),if_neg (by omega),if_neg (by omega)];exact(ih j).2.2.1
  ·rw [GR (by omega),if_neg (by omega),if_neg (by omega)];exact(ih j).2.2.2.1
  ·rw [GR (by omega),if_neg (by omega),if_neg (by omega)];exact(ih j).2.2.2.2
theorem aWG{b:List Int}{p:Nat}{c:Int}(hl:b.length=384)(hp:p < 6):∀k:Nat,(k:Int)<=cX c->∀i,i < k->ld (gB b p c k) (p * 64+8+i * (aY c).toNat) 4=1
 | 0,_,i,h=>absurd h (by omega)
 | k + 1, hk, i, h => by
  have hbl:=ML b p c k
  have ho:=aB4 (c:=c) hp (by omega:(k:Int) < cX c)
  unfold gB
  by_cases e:i=k
  ·grind [aOP]
  ·have hoi:=aB4 (c:=c) hp (by omega:(i:Int) < cX c)
   have ha:=PA (c:=c) (i:=i) (j:=k) (by omega) (by omega) e
   rw [O9 (b:=gB b p c k) (by omega) (by rw [EY]) fun j j1 j2=>by rw [GR (by omega),if_neg (by omega),if_neg (by omega)]]
   exact aWG hl hp k (by omega) i (by omega)
theorem XN{h:Heap}(hs:eM h){B:List Int}{p q:Nat}(hq:q < 6){c:Int}:b8 ⟨B,h.Class.set p c⟩ q=if q=p then c else b8 h q:=by
 have h6:=hs.2.1
 grind [b8]
theorem UL.a4I{h:Heap}(hh:UL h){p:Nat}(hp:p < 6)(hun:b8 h p < 0){c:Int}(hc:0<=c/\c<=2) :
  UL ⟨gB h.Bytes p c (cX c).toNat,h.Class.set p c⟩/\(∀t,(t / 4).toNat≠p->bR ⟨gB h.Bytes p c (cX c).toNat,h.Class.set p c⟩ t=bR h t)/\(∀t,0<=bR h t->(t / 4).toNat≠p/\lY ⟨gB h.Bytes p c (cX c).toNat,h.Class.set p c⟩ t=lY h t) /\
   ∀i,i < (cX c).toNat->bR ⟨gB h.Bytes p c (cX c).toNat,h.Class.set p c⟩ ((p:Int) * 4+i)=c/\lY ⟨gB h.Bytes p c (cX c).toNat,h.Class.set p c⟩ ((p:Int) * 4+i)=1:=by
 obtain⟨hs,hpg⟩:=hh
 have h384:=hs.1
 have hle:=mO c
 have hpn:((cX c).toNat:Int)<=cX c:=by omega
 have hb:=a0Q h384 hp hc (cX c).toNat hpn
 have hbl:=ML h.Bytes p c (cX c).toNat
 have hs':eM ⟨gB h.Bytes p c (cX c).toNat,h.Class.set p c⟩:=⟨by simp only [hbl];exact h384,by simp only [cL];exact hs.2.1,aJ0 hs.2.2.1 p hc _,fun x hx=>by
  rcases sQ hx with q | rfl
  ·exact hs.2.2.2 x q
  ·omega⟩
 have hcls:∀t:Int,(t / 4).toNat≠p->bR ⟨gB h.Bytes p c (cX c).toNat,h.Class.set p c⟩ t=bR h t:=fun t ht=>by
  unfold bR
  by_cases q:0<=t/\t<=23
  ·rw [XN hs (by omega),if_neg ht]
  ·rw [if_neg (fun z=>q z.1),if_neg (fun z=>q z.1)]
 refine⟨⟨hs',fun q hq=>?_⟩,hcls,fun t ht=>?_,fun i hi=>?_⟩
 ·rw [FO hs' hq]
  have hold:=(FO hs hq).1 (hpg q hq)
  by_cases e:q=p
  ·subst e
   unfold XL at hold ⊢
   rw [if_pos hun] at hold
   rw [XN hs hq,if_pos rfl,if_neg (by omega)]
   refine⟨(hb 0).2.2,fun k k3 k8=>?_,fun i hi=>?_⟩
   ·simp only;rw [(hb k).2.1 k3 k8];exact hold k (by omega)
   ·simp only;rw [aWG h384 hp _ hpn i hi];omega
  ·refine XL.same hq hs (by simp only [hbl]) (by rw [XN hs hq,if_neg e]) (fun k hk=>?_) hold
   exact(hb _).1 (by omega)
 ·obtain⟨p',i',p6',hi',es',ec',eo',ep'⟩:=FP ht
  have hne:(t / 4).toNat≠p:=fun z=>by rw [ec',<-ep',z] at ht;omega
  refine⟨hne,?_⟩
  have hz':=sM hs p6' rfl hi'
  unfold lY
  rw [hcls t hne,O9 (b:=h.Bytes) (by omega) (by simp only [hbl]) fun k k1 k2=>(hb k).1 (by omega)]
 ·have e1:((p:Int) * 4+i) / 4=p:=by omega
  have e2:((p:Int) * 4+i) % 4=i:=by omega
  have ec:bR ⟨gB h.Bytes p c (cX c).toNat,h.Class.set p c⟩ ((p:Int) * 4+i)=c:=by
   unfold bR
   rw [e1,e2,JZ,XN hs hp,if_pos rfl,if_pos (by omega)]
  refine⟨ec,?_⟩
  unfold lY
  rw [ec]
  have ho:=aB4 (c:=c) hp (by omega:(i:Int) < cX c)
  have:(iP ((p:Int) * 4+i) c).toNat=p * 64+8+i * (aY c).toNat:=ho.1
  rw [this]
  exact aWG h384 hp _ hpn i hi
def vA(m m':Mem)(k:Int):Prop:=pY m'/\∀s,oG m s=3->s≠k->oG m' s=3/\lY m'.Heap s=lY m.Heap s/\bR m'.Heap s=bR m.Heap s
theorem vA.refl{m:Mem}(h:pY m)(k:Int):vA m m k:=⟨h,fun _ h _=>⟨h,rfl,rfl⟩⟩
theorem vA.live{m m':Mem}{k h:Int}(q:vA m m' k)(hl:oH m h)(hn:h % 32≠k):oH m' h:=by
 obtain⟨h1,h2,h3⟩:=hl
 obtain⟨a,b,_⟩:=q.2 _ h2 hn
 exact⟨h1,a,by omega⟩
theorem LH{l:List aO}{k j:Nat}(hk:k < l.length){t:aO}:gH (l.set k t) j=if j=k then t.aQ else gH l j:=by
 grind [gH]
theorem aH6{l:List aO}{k:Nat}(hk:k < l.length){t:aO}(ht:t.aQ.Sublist l[k].aQ):(eN (l.set k t)).Sublist (eN l):=by
 grind [II,FN]
theorem XO{l:List aO}{k:Nat}(hk:k < l.length){xs:List Int}{s:Int}:s∈eN (l.set k ⟨l[k].aQ++xs⟩)↔s∈eN l\/s∈xs:=by
 grind [II,FN]
theorem SJ{l:List aO}{k:Nat}(hk:k < l.length){xs r q:List Int}(h:(q++(eN l++r)).Nodup)(hx:xs.Nodup)(hd:∀x∈xs,x∉q++(eN l++r)):(q++(eN (l.set k ⟨l[k].aQ++xs⟩)++r)).Nodup:=by
 have hp:(q++(eN (l.set k ⟨l[k].aQ++xs⟩)++r)).Perm (xs++(q++(eN l++r))):=by
  rw [II hk,FN hk]
  grind
 grind
theorem pZ{m:Mem}{s:Int}:oG m s=3↔0<=bR m.Heap s/\s∉fE m.aA/\lY m.Heap s<=6:=by
 unfold oG
 grind
noncomputable section
variable {m:Mem} (hm:pY m)
include hm
theorem pY.a2K{k:Nat}(hk:k < 9){t:aO}(ht:t.aQ.Sublist (gH m.aA.Own k)):vA m ⟨m.Heap,⟨m.aA.Global,m.aA.Own.set k t⟩⟩ (-1):=by
 obtain⟨⟨hh,h3,h9,h2,hr,hn⟩,hg,ho⟩:=hm
 have hk':k < m.aA.Own.length:=by omega
 have ht':t.aQ.Sublist m.aA.Own[k].aQ:=by grind [dY]
 have hsub:(fE ⟨m.aA.Global,m.aA.Own.set k t⟩).Sublist (fE m.aA):=(List.Sublist.refl _).append (aH6 hk' ht')
 refine⟨⟨⟨hh,h3,by grind,fun s hs=>?_,fun x hx=>hr x (hsub.subset hx),hsub.nodup hn⟩,hg,fun j hj=>?_⟩,fun s hs _=>⟨?_,rfl,rfl⟩⟩
 ·grind
 ·unfold DH
  simp only [LH hk']
  split
  ·rename_i e;subst e
   exact fun x hx=>ho j hj x (ht.subset hx)
  ·exact ho j hj
 grind [pZ]
theorem pY.aSC{k:Nat}(hk:k < 3){t:aO}(ht:t.aQ.Sublist (gH m.aA.Global k)):vA m ⟨m.Heap,⟨m.aA.Global.set k t,m.aA.Own⟩⟩ (-1):=by
 obtain⟨⟨hh,h3,h9,h2,hr,hn⟩,hg,ho⟩:=hm
 have hk':k < m.aA.Global.length:=by omega
 have ht':t.aQ.Sublist m.aA.Global[k].aQ:=by grind [dY]
 have hsub:(fE ⟨m.aA.Global.set k t,m.aA.Own⟩).Sublist (fE m.aA):=(aH6 hk' ht').append (List.Sublist.refl _)
 refine⟨⟨⟨hh,by grind,h9,h2,fun x hx=>hr x (hsub.subset hx),hsub.nodup hn⟩,fun j hj=>?_,ho⟩,fun s hs _=>⟨?_,rfl,rfl⟩⟩
 ·unfold MG
  simp only [LH hk']
  split
  ·rename_i e;subst e
   exact fun x hx=>hg j hj x (ht.subset hx)
  ·exact hg j hj
 grind [pZ]
theorem pY.aZJ{k:Nat}(hk:k < 9){xs:List Int}(hl:(gH m.aA.Own k).length+xs.length<=2)(hx:xs.Nodup)(hf:C6 m.Heap xs ((k % 3:Nat):Int))(hd:∀x∈xs,x∉fE m.aA)(hk':k < m.aA.Own.length) :
  pY ⟨m.Heap,⟨m.aA.Global,m.aA.Own.set k ⟨m.aA.Own[k].aQ++xs⟩⟩⟩/\∀s,s∉xs->oG m s=3->oG ⟨m.Heap,⟨m.aA.Global,m.aA.Own.set k ⟨m.aA.Own[k].aQ++xs⟩⟩⟩ s=3:=by
 obtain⟨⟨hh,h3,h9,h2,hr,hn⟩,hg,ho⟩:=hm
 have hmem:∀s,s∈fE ⟨m.aA.Global,m.aA.Own.set k ⟨m.aA.Own[k].aQ++xs⟩⟩↔s∈fE m.aA\/s∈xs:=fun s=>by
  simp [fE,XO,or_assoc]
 have hcl:∀x∈xs,0<=x/\x<=23:=fun x h=>by
  have:=(hf x h).1
  exact(LF (h:=m.Heap) (s:=x) (by omega)).1
 refine⟨⟨⟨hh,h3,by grind,fun s hs=>?_,fun x hx=>?_,?_⟩,hg,fun j hj=>?_⟩,fun s hs h3=>?_⟩
 ·grind [dY]
 ·grind
 ·have:=SJ (q:=eN m.aA.Global) (r:=[]) hk' (by grind [fE]) hx (by grind [fE])
  grind [fE]
 ·unfold DH
  simp only [LH hk']
  split
  ·rename_i e;subst e
   intro x hx
   rcases gC.1 hx with q | q
   ·rw [dY hk'] at q;exact ho j hj x q
   ·exact hf x q
  ·exact ho j hj
 grind [pZ]
theorem pY.aE6{k:Nat}(hk:k < 3){xs:List Int}(hx:xs.Nodup)(hf:C6 m.Heap xs (k:Int))(hd:∀x∈xs,x∉fE m.aA)(hk':k < m.aA.Global.length) :
  pY ⟨m.Heap,⟨m.aA.Global.set k ⟨m.aA.Global[k].aQ++xs⟩,m.aA.Own⟩⟩/\∀s,s∉xs->oG m s=3->oG ⟨m.Heap,⟨m.aA.Global.set k ⟨m.aA.Global[k].aQ++xs⟩,m.aA.Own⟩⟩ s=3:=by
 obtain⟨⟨hh,h3,h9,h2,hr,hn⟩,hg,ho⟩:=hm
 have hmem:∀s,s∈fE ⟨m.aA.Global.set k ⟨m.aA.Global[k].aQ++xs⟩,m.aA.Own⟩↔s∈fE m.aA\/s∈xs:=fun s=>by
  simp [fE,XO,or_right_comm]
 have hcl:∀x∈xs,0<=x/\x<=23:=fun x h=>by
  have:=(hf x h).1
  exact(LF (h:=m.Heap) (s:=x) (by omega)).1
 refine⟨⟨⟨hh,by grind,h9,h2,fun x hx=>?_,?_⟩,fun j hj=>?_,ho⟩,fun s hs h3=>?_⟩
 ·grind
 ·have:=SJ (q:=[]) (r:=eN m.aA.Own) hk' (by grind [fE]) hx (by grind [fE])
  grind [fE]
 ·unfold MG
  simp only [LH hk']
  split
  ·rename_i e;subst e
   intro x hx
   rcases gC.1 hx with q | q
   ·rw [dY hk'] at q;exact hg j hj x q
   ·exact hf x q
  ·exact hg j hj
 grind [pZ]
theorem pY.SK{x:Int}(hx:x∈fE m.aA):0<=bR m.Heap x/\lY m.Heap x<=6:=by
 obtain⟨⟨hh,h3,h9,h2,hr,hn⟩,hg,ho⟩:=hm
 have key:∀(l:List aO),x∈eN l->∃k,k < l.length/\x∈gH l k:=fun l h=>by
  grind [S7,TX,dY]
 rcases gC.1 hx with q | q
 ·obtain⟨k,hk,h⟩:=key _ q
  have:=hg k (by omega) x h
  omega
 ·obtain⟨k,hk,h⟩:=key _ q
  have:=ho k (by omega) x h
  omega
theorem pY.heap{h':Heap}(hh:UL h')(hs:∀x∈fE m.aA,bR h' x=bR m.Heap x/\lY h' x=lY m.Heap x):pY ⟨h',m.aA⟩:=by
 obtain⟨⟨_,hl⟩,hg,ho⟩:=hm
 have key:∀(l:List aO) k x,x∈gH l k->x∈eN l:=fun l k x h=>by
  grind [gH,S7]
 refine⟨⟨hh,hl⟩,fun k hk x hx=>?_,fun k hk x hx=>?_⟩
 ·obtain⟨a,b⟩:=hs x (ZA _ (key _ k x hx))
  show bR h' x=_/\lY h' x<=6
  rw [a,b];exact hg k hk x hx
 ·obtain⟨a,b⟩:=hs x (List.mem_append_right _ (key _ k x hx))
  show bR h' x=_/\lY h' x<=6
  rw [a,b];exact ho k hk x hx
theorem pY.a54{s g:Int}(hu:oG m s=3)(hg:1<=g/\g<=7):vA m ⟨⟨st4 m.Heap.Bytes (iP s (bR m.Heap s)).toNat g,m.Heap.Class⟩,m.aA⟩ s/\lY ⟨st4 m.Heap.Bytes (iP s (bR m.Heap s)).toNat g,m.Heap.Class⟩ s=g:=by
 have hu':=pZ.1 hu
 obtain⟨a,b⟩:=UL.a2J hm.1.1 hu'.1 hg
 refine⟨⟨pY.heap hm a fun x hx=>⟨rfl,?_⟩,fun t ht hn=>?_⟩,by grind⟩
 ·rw [b x (pY.SK hm hx).1,if_neg (show ¬x=s from fun e=>hu'.2.1 (e ▸ hx))]
 ·have ht':=pZ.1 ht
  have e:lY ⟨st4 m.Heap.Bytes (iP s (bR m.Heap s)).toNat g,m.Heap.Class⟩ t=lY m.Heap t:=by grind
  exact⟨pZ.2 ⟨ht'.1,ht'.2.1,by grind⟩,e,rfl⟩
theorem pY.a4J{p:Nat}(hp:p < 6)(hun:b8 m.Heap p < 0){c:Int}(hc:0<=c/\c<=2){xs:List Int}(hxs:∀x∈xs,∃i,i < (cX c).toNat/\x=(p:Int) * 4+(i:Nat))(hx:xs.Nodup)(hk':c.toNat < m.aA.Global.length) :
  vA m ⟨⟨gB m.Heap.Bytes p c (cX c).toNat,m.Heap.Class.set p c⟩,⟨m.aA.Global.set c.toNat ⟨m.aA.Global[c.toNat].aQ++xs⟩,m.aA.Own⟩⟩ (-1):=by
 obtain⟨a,b,d,e⟩:=UL.a4I hm.1.1 hp hun hc
 have h1:pY ⟨⟨gB m.Heap.Bytes p c (cX c).toNat,m.Heap.Class.set p c⟩,m.aA⟩:=pY.heap hm a fun x hx=>by
  grind [pY.SK]
 have hno:∀x∈xs,¬0<=bR m.Heap x:=fun x h q=>by
  obtain⟨i,hi,rfl⟩:=hxs x h
  have h4:=mO c
  exact(d _ q).1 (by omega)
 obtain⟨f,g⟩:=pY.aE6 h1 (k:=c.toNat) (by omega) hx (fun x h=>by
  obtain⟨i,hi,rfl⟩:=hxs x h
  (simp_all;omega)) (fun x h q=>hno x h (pY.SK hm q).1) hk'
 refine⟨f,fun s hs _=>?_⟩
 grind [pZ]
end
end Go.Gv
end
noncomputable section
namespace Go.Gv
theorem a2L{p n:Nat}{x:Int}(h:x∈gS p n):∃i,i < n/\x=(p:Int) * 4+(i:Nat):=by
 grind [gS]
theorem aWH(p n:Nat):(gS p n).Nodup:=by
 grind [gS,List.nodup_range]
theorem aL9{m:Mem}(hm:pY m){c:Int}(hc:0<=c/\c<=2) :
  ∃m' s,CU m c=some (m',s)/\HP m c=some (m',s)/\C7 m'/\(0<=s->eM m'.Heap/\0<=bR m'.Heap s)/\vA m m' (-1):=by
 have hl:=hm.1.2
 have hcnt:=hl.count
 have hs:=hm.1.1.1
 have hsl:=hl.aH1 (by omega)
 have hp4:=mO c
 have hpp:0 < cX c:=uY.2 hc
 have hall:=sA m.aA
 have hsG:∀s∈m.aA.Global,s.aQ.length<=24:=fun s h=>by have:=FK h;omega
 have hsO:∀s∈m.aA.Own,s.aQ.length<=24:=fun s h=>by have:=FK h;omega
 have h3:=hl.1
 have h9:=hl.2.1
 have hcpl:=MJ (l:=m.aA) (by omega) (by omega) (fun s h=>by grind) (fun s h=>by grind)
 unfold CU HP
 rcases aWF hm.1.1 hc with ⟨e1,e2⟩ | ⟨p,hp,hun,e1,e2⟩
 ·rw [e1,e2,hcpl]
  have h1:=hs.1;have h2:=hs.2.1
  exact⟨_,_,rfl,rfl,⟨by grind,by grind,by grind,by grind,by grind⟩,fun h=>absurd h (by omega),vA.refl hm _⟩
 ·rw [e1,e2,hcpl]
  simp only [aG,F6,F5,GJ,aE4]
  have hn:(((cX c).toNat:Int) == 0)=false:=by grind
  have hk:c.toNat < m.aA.Global.length:=by omega
  have hg0:=hsG _ (dC hk)
  have hx:idx m.aA.Global c=some m.aA.Global[c.toNat]:=gT hc.1 (by omega)
  have hz:idx (gS p (cX c).toNat) 0=some ((p:Int) * 4):=by
   grind [aP,gS]
  have hlen:(List.drop (1:Int).toNat (List.take (cX c).toNat (gS p (cX c).toNat))).length<=4:=by grind
  simp only [hn,bC,if_false,hx,aG,hz]
  rw [aK (by omega),aK (by omega)]
  have hcl:b8 ⟨gB m.Heap.Bytes p c (cX c).toNat,m.Heap.Class.set p c⟩ p=c:=by
   grind [b8]
  refine⟨_,_,rfl,rfl,⟨by simp only [ML];have:=hs.1;omega,by simp only [cL];have:=hs.2.1;omega,by grind,by grind,?_⟩,fun _=>⟨⟨by simp only [ML];exact hs.1,by simp only [cL];exact hs.2.1,aJ0 hs.2.2.1 p hc _,fun x hx=>?_⟩,?_⟩,?_⟩
  ·grind [sA,VH]
  ·rcases sQ hx with h | rfl
   ·exact hs.2.2.2 x h
   ·omega
  ·unfold bR
   (simp_all;omega)
  grind [pY.a4J,a2L,aWH]
theorem aOQ(n:Int):∃c,CS n=some c/\HM n=some c/\(c = -1\/(0<=c/\c<=2)):=by
 have s1:∀k,0<=k/\k<=2->eU n k=some (if 1<=n/\n<=mK k then .stop (Out.ret k) else .next (k+1)):=fun k hk=>by
  simp only [eU]
  rw [if_pos (by simp;omega),R6,aG,cE,aG,aL (by omega) (by omega)]
  grind
 have s2:∀k,0<=k/\k<=2->jB n k=some (if 1<=n/\n<=mK k then .stop (Out.ret k) else .next (k+1)):=fun k hk=>by
  simp only [jB,yN]
  rw [if_pos (by simp;omega),R7,aG,aL (by omega) (by omega)]
  grind
 have st:∀k,0<=k/\k<=2->1<=n/\n<=mK k->loop (eU n) k=some (Out.ret k)/\loop (jB n) k=some (Out.ret k):=fun k hk h=>
  ⟨bG (by grind),bG (by grind)⟩
 have nx:∀k,0<=k/\k<=2->¬(1<=n/\n<=mK k)->loop (eU n) k=loop (eU n) (k+1)/\loop (jB n) k=loop (jB n) (k+1):=fun k hk h=>
  ⟨bQ (by grind),bQ (by grind)⟩
 unfold CS HM
 by_cases q0:1<=n/\n<=mK 0
 ·have:=st 0 (by omega) q0
  rw [this.1,this.2];exact⟨_,rfl,rfl,.inr (by omega)⟩
 ·have h0:=nx 0 (by omega) q0
  rw [h0.1,h0.2,show(0:Int)+1=1 from rfl]
  by_cases q1:1<=n/\n<=mK 1
  ·have:=st 1 (by omega) q1
   rw [this.1,this.2];exact⟨_,rfl,rfl,.inr (by omega)⟩
  ·have h1:=nx 1 (by omega) q1
   rw [h1.1,h1.2,show(1:Int)+1=2 from rfl]
   by_cases q2:1<=n/\n<=mK 2
   ·have:=st 2 (by omega) q2
    rw [this.1,this.2];exact⟨_,rfl,rfl,.inr (by omega)⟩
   ·have h2:=nx 2 (by omega) q2
    rw [h2.1,h2.2,show(2:Int)+1=3 from rfl,bG (body:=eU n) (r:=Out.brk ()) (by simp [eU]),bG (body:=jB n) (r:=Out.brk ()) (by simp [jB])]
    exact⟨_,rfl,rfl,.inl rfl⟩
theorem aWI{s:aO}(hl:s.aQ.length<=1048576):∃t x,qV s=some (t,x)/\tU s=some (x,t)/\t.aQ.length<=s.aQ.length/\(0<=x->x∈s.aQ)/\t.aQ.Sublist s.aQ:=by
 unfold qV tU L6
 rw [aL (by omega) (by omega)]
 by_cases q:s.aQ.length=0
 ·rw [if_pos (by grind),if_pos (by simp;omega)]
  grind
 ·have hx:idx s.aQ ((s.aQ.length:Int) - 1)=some (s.aQ[s.aQ.length - 1]'(by omega)):=by
   grind [aP]
  rw [if_neg (by grind),if_neg (by simp;omega),aK (by omega),hx]
  simp only [aG]
  grind [aK]
theorem N3{w c:Int}(hw:0<=w/\w<=2)(hc:0<=c/\c<=2):uL w c=some (w * 3+c)/\IX w c=some (w * 3+c):=by
 grind [aL,uL,xW,cE,IX,EG,lR,jE]
theorem aE7{l:List aO}{k:Nat}(hk:k < l.length){t:aO}(ht:t.aQ.length<=l[k].aQ.length):(eN (l.set k t)).length<=(eN l).length:=by
 grind [II,FN]
noncomputable section
variable {m:Mem} (hm:pY m)
include hm
theorem pY.facts:(fE m.aA).length<=24/\m.aA.Global.length=3/\m.aA.Own.length=9/\m.Heap.Bytes.length=384/\m.Heap.Class.length=6/\C7 m/\g8 m.aA=some m.aA/\jU m.aA=some true /\
  (∀s∈m.aA.Global,s.aQ.length<=24)/\(∀s∈m.aA.Own,s.aQ.length<=24):=by
 have hl:=hm.1.2
 have hcnt:=hl.count
 have hall:=sA m.aA
 have hsG:∀s∈m.aA.Global,s.aQ.length<=24:=fun s h=>by have:=FK h;omega
 have hsO:∀s∈m.aA.Own,s.aQ.length<=24:=fun s h=>by have:=FK h;omega
 have h3:=hl.1;have h9:=hl.2.1
 have h1:=hm.1.1.1.1;have h2:=hm.1.1.1.2.1
 refine⟨hcnt,h3,h9,h1,h2,⟨by omega,by omega,by omega,by omega,by omega⟩,MJ (by omega) (by omega) (fun s h=>by grind) (fun s h=>by grind),by grind [QJ],hsG,hsO⟩
theorem aE8{w c:Int}(hw:0<=w/\w<=2)(hc:0<=c/\c<=2) :
  ∃l t x,idx m.aA.Own (w * 3+c)=some l/\qV l=some (t,x)/\HN m.aA w c=some (⟨m.aA.Global,m.aA.Own.set (w * 3+c).toNat t⟩,x) /\
   C7 ⟨m.Heap,⟨m.aA.Global,m.aA.Own.set (w * 3+c).toNat t⟩⟩/\(0<=x->0<=bR m.Heap x)/\vA m ⟨m.Heap,⟨m.aA.Global,m.aA.Own.set (w * 3+c).toNat t⟩⟩ (-1):=by
 obtain⟨hcnt,h3,h9,h1,h2,hsm,hcp,hlo,hsG,hsO⟩:=pY.facts hm
 have hk:(w * 3+c).toNat < m.aA.Own.length:=by omega
 have hx:idx m.aA.Own (w * 3+c)=some m.aA.Own[(w * 3+c).toNat]:=gT (by omega) (by omega)
 have h24:=hsO _ (dC hk)
 obtain⟨t,x,e1,e2,ht,hmem,hsub⟩:=aWI (s:=m.aA.Own[(w * 3+c).toNat]) (by omega)
 have hall:=sA m.aA
 refine⟨_,t,x,hx,e1,?_,⟨by grind,by grind,by grind,by grind,?_⟩,fun h0=>?_,pY.a2K hm (by omega) (by grind [dY])⟩
 ·unfold HN yP
  rw [hcp,(N3 hw hc).2,hlo]
  grind
 ·grind [aE7,sA]
 ·have:=hm.2.2 (w * 3+c).toNat (by omega) x (by grind [dY])
  omega
theorem UP{c:Int}(hc:0<=c/\c<=2) :
  ∃l t x,idx m.aA.Global c=some l/\qV l=some (t,x)/\yQ m.aA c=some (⟨m.aA.Global.set c.toNat t,m.aA.Own⟩,x) /\
   C7 ⟨m.Heap,⟨m.aA.Global.set c.toNat t,m.aA.Own⟩⟩/\(0<=x->0<=bR m.Heap x)/\vA m ⟨m.Heap,⟨m.aA.Global.set c.toNat t,m.aA.Own⟩⟩ (-1):=by
 obtain⟨hcnt,h3,h9,h1,h2,hsm,hcp,hlo,hsG,hsO⟩:=pY.facts hm
 have hk:c.toNat < m.aA.Global.length:=by omega
 have hx:idx m.aA.Global c=some m.aA.Global[c.toNat]:=gT (by omega) (by omega)
 have h24:=hsG _ (dC hk)
 obtain⟨t,x,e1,e2,ht,hmem,hsub⟩:=aWI (s:=m.aA.Global[c.toNat]) (by omega)
 have hall:=sA m.aA
 refine⟨_,t,x,hx,e1,?_,⟨by grind,by grind,by grind,by grind,?_⟩,fun h0=>?_,pY.aSC hm (by omega) (by grind [dY])⟩
 ·simp_all [yQ,qH,jE]
 ·grind [aE7,sA]
 ·have:=hm.2.1 c.toNat (by omega) x (by grind [dY])
  omega
theorem aJ2{w h:Int}(hw:0<=w/\w<=2)(hv:oH m h):∃m',FG m w (h % 32)=some m'/\I2 m w h=some m'/\C7 m'/\vA m m' (h % 32):=by
 obtain⟨hcnt,h3,h9,h1,h2,hsm,hcp,hlo,hsG,hsO⟩:=pY.facts hm
 have hs:=hm.1.1.1
 have hh:=hv.1
 have hhm:=hh.mod
 have hcl:=lP hv.2.1
 have hgo:=S5 hcl
 have hc2:0<=bR m.Heap (h % 32)/\bR m.Heap (h % 32)<=2:=by
  obtain⟨_,q,e⟩:=LF hcl
  rw [e];exact uY.1 (by omega)
 have hg6:1<=h / 32/\h / 32<=6:=by grind [lZ]
 have hbl:m.Heap.Bytes.length<=maxLen:=by grind [maxLen]
 have hnot:h % 32∉fE m.aA:=fun q=>by
  have:=hv.2.1;simp_all [oG,if_neg]
 have hcpH:=O7 (h:=m.Heap) (by omega) (by omega)
 have eo:iP (h % 32) (bR m.Heap (h % 32))=(((iP (h % 32) (bR m.Heap (h % 32))).toNat:Nat):Int):=by omega
 have ew:aX (h / 32+1)=h / 32+1:=aL (by omega) (by omega)
 have ed:aX (Int.tdiv h 32)=h / 32:=by grind [aL]
 have hall:=sA m.aA
 obtain⟨hr1,hr2⟩:=pY.a54 hm hv.2.1 (g:=h / 32+1) (by omega)
 have hu:=pZ.1 hv.2.1
 unfold FG I2 RI B3
 rw [hhm.1,rZ hs,hcpH,JR hbl,b9 hs,jF hs,ed,ew,hcp]
 simp only [aG,gY,bC,if_false,I1,CB,I0]
 rw [oF hs hcl,hv.2.2,eH,dP (show ¬bR m.Heap (h % 32) < 0 by omega),b9 (show 1<=h / 32+1/\h / 32+1<=7 by omega)]
 simp only [aG,gY,bC,if_false,sL,yH,ew]
 generalize hgn:(iP (h % 32) (bR m.Heap (h % 32))).toNat=a at eo
 rw [hgn] at hr1 hr2
 rw [eo,GQ (by omega) (by omega) (by omega),UO (by omega)]
 simp only [aG]
 rw [SI (by omega) (by omega) (by omega)]
 simp only [aG,JC,LZ,ed,ew,hhm.1]
 by_cases q:h / 32+1<=6
 ·have hk:(w * 3+bR m.Heap (h % 32)).toNat < m.aA.Own.length:=by omega
  have hx:idx m.aA.Own (w * 3+bR m.Heap (h % 32))=some m.aA.Own[(w * 3+bR m.Heap (h % 32)).toNat]:=gT (by omega) (by omega)
  have hk2:(bR m.Heap (h % 32)).toNat < m.aA.Global.length:=by omega
  have hx2:idx m.aA.Global (bR m.Heap (h % 32))=some m.aA.Global[(bR m.Heap (h % 32)).toNat]:=gT (by omega) (by omega)
  have b1:=hsO _ (dC hk)
  have b2:=hsG _ (dC hk2)
  rw [b9 q,if_pos rfl,if_pos rfl]
  unfold RP YE vP
  rw [jF hs,aG,hcp,(N3 hw hc2).1,(N3 hw hc2).2,hlo,uZ,b9 (show 0<=h % 32/\h % 32<=23 by omega),SG (by omega) (by omega) (by omega),dP hnot]
  simp only [aG,gY,bC,if_false,hx,hx2]
  have nz:¬w * 3+bR m.Heap (h % 32) < 0:=by omega
  simp only [dP nz,bC,if_false]
  by_cases q2:m.aA.Own[(w * 3+bR m.Heap (h % 32)).toNat].aQ.length < 2
  ·have y1:(m.aA.Own[(w * 3+bR m.Heap (h % 32)).toNat].aQ.length:Int) < 2:=by omega
   have y2:¬(2:Int)<=m.aA.Own[(w * 3+bR m.Heap (h % 32)).toNat].aQ.length:=by omega
   simp only [b9 y1,dP y2,bC,if_false,if_true]
   rw [aK (by simp;omega),aK (by simp;omega)]
   refine⟨_,rfl,rfl,⟨by grind [EY],by grind,by grind,by grind,?_⟩,?_⟩
   ·grind [sA,VH]
   ·have hmod:((w * 3+bR m.Heap (h % 32)).toNat % 3:Nat)=(bR m.Heap (h % 32)).toNat:=by omega
    obtain⟨z1,z2⟩:=pY.aZJ hr1.1 (k:=(w * 3+bR m.Heap (h % 32)).toNat) (by omega) (xs:=[h % 32]) (by grind [dY]) (by simp) (fun x hx=>by
     simp at hx;subst hx
     exact⟨by rw [hmod];show bR m.Heap (h % 32)=_;omega,by grind⟩) (fun x hx=>by grind) hk
    refine⟨z1,fun s h1 h2=>?_⟩
    obtain⟨y1,y2,y3⟩:=hr1.2 s h1 h2
    grind
  ·have y1:¬(m.aA.Own[(w * 3+bR m.Heap (h % 32)).toNat].aQ.length:Int) < 2:=by omega
   have y2:(2:Int)<=m.aA.Own[(w * 3+bR m.Heap (h % 32)).toNat].aQ.length:=by omega
   simp only [b9 y2,dP y1,bC,if_false,if_true]
   rw [aK (by simp;omega),aK (by simp;omega)]
   refine⟨_,rfl,rfl,⟨by grind [EY],by grind,by grind,by grind,?_⟩,?_⟩
   ·grind [sA,VH]
   ·obtain⟨z1,z2⟩:=pY.aE6 hr1.1 (k:=(bR m.Heap (h % 32)).toNat) (by omega) (xs:=[h % 32]) (by simp) (fun x hx=>by
     simp at hx;subst hx
     exact⟨by show bR m.Heap (h % 32)=_;omega,by grind⟩) (fun x hx=>by grind) hk2
    refine⟨z1,fun s h1 h2=>?_⟩
    obtain⟨y1,y2,y3⟩:=hr1.2 s h1 h2
    grind
 ·rw [dP q,if_neg (by simp),if_neg (by simp)]
  refine⟨_,rfl,rfl,⟨by grind [EY],by grind,by grind,by grind,by (simp_all;omega)⟩,hr1⟩
end
theorem alloc_eq{b:aB}(hm:pY b.Mem){w:Int}(hw:0<=w/\w<=2)(s:Sub) :
  ∃x y,yD b w s=some (x,y)/\qI s b w=some (y,x)/\∃m',x=⟨m',b.aH,b.bJ,b.A4⟩/\C7 m'/\vA b.Mem m' (-1):=by
 have hsm:=(pY.facts hm).2.2.2.2.2.1
 have hs:=hm.1.1.1
 obtain⟨c,ec,ei,hcc⟩:=aOQ s.A
 unfold yD qI
 rw [ec,ei]
 simp only [aG]
 by_cases c0:c < 0
 ·simp only [b9 c0,if_true,bE,a8];exact⟨_,_,rfl,rfl,_,rfl,hsm,vA.refl hm _⟩
 have hc:0<=c/\c<=2:=by omega
 simp only [dP c0,bC,if_false]
 have fin:∀(m':Mem) (x:Int),C7 m'->vA b.Mem m' (-1)->(0<=x->eM m'.Heap/\0<=bR m'.Heap x) ->
   ∃X Y,iK s x ⟨m',b.aH,b.bJ,b.A4⟩=some (X,Y)/\g7 s x ⟨m',b.aH,b.bJ,b.A4⟩=some (Y,X)/\∃m',X=⟨m',b.aH,b.bJ,b.A4⟩/\C7 m'/\vA b.Mem m' (-1):=by
  intro m' x hs' hst hx
  unfold iK g7
  simp only [wB,OR,bE,a8]
  by_cases x0:0<=x
  ·obtain⟨h,e1,e2⟩:=aSB (m:=m') (hx x0).1 (hx x0).2
   rw [dP (show ¬x < 0 by omega),b9 x0]
   simp only [bC,if_false,if_true,e1,e2,aG]
   grind
  ·rw [b9 (show x < 0 by omega),dP x0]
   by_cases p3:s.Pc=3
   ·simp only [p3,beq_self_eq_true,if_true,bC,if_false,aG];grind
   ·have p3':(s.Pc == 3)=false:=by grind
    simp only [p3',if_true,bC,if_false,aG];grind
 by_cases p0:s.Pc=0
 ·obtain⟨l,t,x,e1,e2,e3,h1,h2,h3⟩:=aE8 hm hw hc
  simp_all [N3]
 ·have p0':(s.Pc == 0)=false:=by grind
  simp only [p0',bC,if_false,wC,mL]
  obtain⟨l,t,x,e1,e2,e3,h1,h2,h3⟩:=UP hm hc
  by_cases p1:s.Pc=1
  ·simp_all
  ·have p1':(s.Pc == 1)=false:=by grind
   simp only [p1',bC,if_false]
   by_cases p3:s.Pc=3
   ·simp_all
   ·have p3':(s.Pc == 3)=false:=by grind
    simp only [p3',bC,if_false]
    by_cases p2:s.Pc=2
    ·obtain⟨m',x,e1,e2,h1,h2,h3⟩:=aL9 hm hc
     simp_all
    ·have p2':(s.Pc == 2)=false:=by grind
     simp only [p2',bC,if_false,bE,a8];exact⟨_,_,rfl,rfl,_,rfl,hsm,vA.refl hm _⟩
end Go.Gv
end
noncomputable section
namespace Go.Gv
theorem aQ3(r:dE)(e:Int):∃v,IH r e=some v/\NN r e=some v:=by
 unfold IH NN H8 HR
 by_cases h:2<=e
 ·simp only [b9 h,if_true];exact⟨_,rfl,rfl⟩
 ·simp only [dP h,bC,if_false];exact⟨_,rfl,rfl⟩
theorem aZK{b:aB}{w:Int}{l:bB}(hx:idx b.bJ w=some l)(hl:l.Rows.length<=1000)(s:Sub) :
  (wD l.Rows s.Row s.E=some (-1)/\nO s b w=(a8 s 0).bind fun x=>some (x,b)) \/
  ∃k,∃h:k < l.Rows.length,wD l.Rows s.Row s.E=some (k:Int)/\nO s b w=some (⟨s.Kind,s.A,2,s.E,(k:Int),0,l.Rows[k].Handle,s.Out,s.Code,s.dJ⟩,b):=by
 have key:∀d k,k+d=l.Rows.length ->
   (loop (eG l.Rows s.E) (k:Int)=some (Out.brk ())/\loop (eJ s b w) (k:Int)=some (Out.brk ())) \/
   ∃j,∃h:j < l.Rows.length,loop (eG l.Rows s.E) (k:Int)=some (Out.ret (j:Int))/\loop (eJ s b w) (k:Int)=some (Out.ret (⟨s.Kind,s.A,2,s.E,(j:Int),0,l.Rows[j].Handle,s.Out,s.Code,s.dJ⟩,b)):=by
  intro d
  induction d with
  | zero =>
   simp_all [bG,eG,eJ]
  | succ d ih =>
   intro k hk
   have hk':k < l.Rows.length:=by omega
   obtain⟨v,e1,e2⟩:=aQ3 l.Rows[k] s.E
   cases v with
   | true =>
    right
    refine⟨k,hk',bG ?_,bG ?_⟩
    ·simp only [eG]
     rw [if_pos (by simp;omega),aP hk',aG,e1];rfl
    ·simp only [eJ,hx,aG]
     rw [if_pos (by simp;omega),aP hk',aG,e2];rfl
   | false =>
    have n1:eG l.Rows s.E (k:Int)=some (.next ((k+1:Nat):Int)):=by
     simp only [eG]
     rw [if_pos (by simp;omega),aP hk',aG,e1,aG,aL (by omega) (by omega)];rfl
    have n2:eJ s b w (k:Int)=some (.next ((k+1:Nat):Int)):=by
     simp only [eJ,hx,aG]
     rw [if_pos (by simp;omega),aP hk',aG,e2,aG,aL (by omega) (by omega)];rfl
    rw [bQ n1,bQ n2]
    exact ih (k+1) (by omega)
 unfold wD nO
 have hst:∃i:Nat,(if 0 < s.Row then s.Row else 0)=(i:Int)/\(if s.Row < 0 then 0 else s.Row)=(i:Int):=by
  refine⟨s.Row.toNat,?_,?_⟩ <;> split <;> omega
 obtain⟨i,i1,i2⟩:=hst
 rw [i1,i2]
 by_cases hi:i<=l.Rows.length
 ·rcases key (l.Rows.length - i) i (by omega) with ⟨a,c⟩ | ⟨j,hj,a,c⟩
  ·left;rw [a,c];exact⟨rfl,rfl⟩
  ·right;rw [a,c];exact⟨j,hj,rfl,rfl⟩
 ·left
  rw [bG (body:=eG l.Rows s.E) (r:=Out.brk ()) (by simp only [eG];grind),
   bG (body:=eJ s b w) (r:=Out.brk ()) (by simp only [eJ,hx,aG];grind)]
  exact⟨rfl,rfl⟩
theorem del_eq{α:Type}{l:List α}{k:Nat}(h:k < l.length):((cM l k (l.drop (k+1))).take (k+(l.length - (k+1)))).drop 0=l.eraseIdx k:=by
 grind [cM,aHF]
theorem aOR{α:Type}{l:List α}{k:Nat}(h:k < l.length):l.Perm (l[k] :: l.eraseIdx k):=by
 grind [IJ,TY,List.eraseIdx_eq_take_drop_succ,List.perm_middle]
theorem qE.drop{b:List bB}(hL:qE b){w:Nat}(hw:w < b.length):∀k (hk:k < b[w].Rows.length),qE (b.set w ⟨b[w].Rows.eraseIdx k⟩)/\∀r∈cC (b.set w ⟨b[w].Rows.eraseIdx k⟩),r∈cC b/\r.Handle % 32≠b[w].Rows[k].Handle % 32:=by
 intro k hk
 have hsub:(cC (b.set w ⟨b[w].Rows.eraseIdx k⟩)).Sublist (cC b):=by
  grind [N2,LG]
 have hnd:=hL.2.2.2
 refine⟨⟨by simpa using hL.1,sS hsub.length_le hL.2.1,fun r hr=>hL.2.2.1 r (hsub.subset hr),(hsub.map mR).nodup hnd⟩,fun r hr=>⟨hsub.subset hr,?_⟩⟩
 have hp:(cC b).Perm (b[w].Rows[k] :: cC (b.set w ⟨b[w].Rows.eraseIdx k⟩)):=by
  rw [N2 hw,LG hw]
  refine List.Perm.trans (List.Perm.append_left _ (List.Perm.append_right _ (aOR hk))) ?_
  simp
 grind [mR]
theorem aOS{b:aB}(hb:sB b){w:Int}(hw:0<=w/\w<=2)(s:Sub) :
  ∃x y,rX b w s=some (x,y)/\nP s b w=some (y,x)/\∃m' L,x=⟨m',b.aH,L,b.A4⟩/\C7 m'/\pY m'/\qE L/\∀r∈cC L,oH m' r.Handle/\r.aM<=b.aH.aM:=by
 have hm:=hb.1.1
 have hL:=hb.1.2.2.1
 have hZ:=hb.1.2.2.2
 have hsm:=(pY.facts hm).2.2.2.2.2.1
 have hlen:w.toNat < b.bJ.length:=by have:=hL.1;omega
 have hx:idx b.bJ w=some b.bJ[w.toNat]:=gT hw.1 (by omega)
 have hrow:=hL.small.2.2.2 _ (dC hlen)
 have hmemL:b.bJ[w.toNat]∈b.bJ:=dC hlen
 have hset:=qE.drop hL hlen
 generalize b.bJ[w.toNat]=l at hx hrow hset hmemL
 have done:∀y:Sub,∃x z,(some (b,y):Option (aB×Sub))=some (x,z)/\(some (y,b):Option (Sub×aB))=some (z,x)/\∃m' L,x=⟨m',b.aH,L,b.A4⟩/\C7 m'/\pY m'/\qE L/\∀r∈cC L,oH m' r.Handle/\r.aM<=b.aH.aM:=
  fun y=>⟨_,_,rfl,rfl,b.Mem,b.bJ,rfl,hsm,hm,hL,hb.2⟩
 have hw1:aX ((l.Rows.length:Int) - 1)=(l.Rows.length:Int) - 1:=aL (by omega) (by omega)
 have hhas:FA b.bJ w s.Row=some (decide (0<=s.Row/\s.Row<=(l.Rows.length:Int) - 1)):=by
  simp_all [FA,CC,lR,eH]
 unfold rX nP
 rw [hhas,hx]
 simp only [aG,bE,cE,hw1]
 have hat:∃a:Bool,(if decide (0<=s.Row/\s.Row<=(l.Rows.length:Int) - 1)=true then (idx l.Rows s.Row).bind fun x15=>eY s b w (x15.Handle == s.H) else eY s b w false)=eY s b w a /\
   (if (!decide (0<=s.Row/\s.Row<=(l.Rows.length:Int) - 1))=true then eO b s true else (idx l.Rows s.Row).bind fun x11=>eO b s (x11.Handle != s.H))=eO b s (!a) /\
   (a=true->∃r,r∈l.Rows/\idx l.Rows s.Row=some r/\r.Handle=s.H/\0<=s.Row/\s.Row < l.Rows.length) /\
   (a=false->∀f:dE->Option (aB×Sub),(if (!decide (0<=s.Row/\s.Row<=(l.Rows.length:Int) - 1))=true then eP b w s l true else (idx l.Rows s.Row).bind fun x=>if (x.Handle != s.H)=true then eP b w s l true else f x)=eP b w s l true):=by
  by_cases q:0<=s.Row/\s.Row<=(l.Rows.length:Int) - 1
  ·have hr:idx l.Rows s.Row=some (l.Rows[s.Row.toNat]'(by omega)):=gT q.1 (by omega)
   by_cases q2:(l.Rows[s.Row.toNat]'(by omega)).Handle=s.H
   ·refine⟨true,?_,?_,fun _=>⟨_,dC _,hr,q2,q.1,by omega⟩,fun h=>by cases h⟩
    ·rw [b9 q,if_pos rfl,hr,aG,q2,beq_self_eq_true]
    ·rw [b9 q,if_neg (by simp),hr,aG,q2,bne_self_eq_false];rfl
   ·have n1:((l.Rows[s.Row.toNat]'(by omega)).Handle == s.H)=false:=by simpa using q2
    have n2:((l.Rows[s.Row.toNat]'(by omega)).Handle != s.H)=true:=by simpa using q2
    refine⟨false,?_,?_,(fun h=>by cases h),fun _ f=>?_⟩
    ·rw [b9 q,if_pos rfl,hr,aG,n1]
    ·rw [b9 q,if_neg (by simp),hr,aG,n2];rfl
    ·rw [b9 q,if_neg (by simp),hr,aG,n2,if_pos rfl]
  simp_all [dP]
 obtain⟨a,ha1,ha2,ha3,ha4⟩:=hat
 rw [ha1,ha2]
 unfold eY
 by_cases p0:s.Pc=0
 ·simp_all
 have p0':(s.Pc == 0)=false:=by grind
 simp only [p0',bC,if_false]
 by_cases p1:s.Pc=1
 ·simp only [p1,beq_self_eq_true,if_true]
  rcases aZK hx (by omega) s with ⟨e1,e2⟩ | ⟨k,hk,e1,e2⟩
  ·simp_all [a8]
  simp_all [if_neg,aP]
 have p1':(s.Pc == 1)=false:=by grind
 simp only [p1',bC,if_false]
 by_cases p2:s.Pc=2
 ·simp only [p2,beq_self_eq_true,if_true,lR,aG]
  by_cases hB:0<=s.B/\s.B<=2
  ·rw [b9 hB]
   simp only [gY,bC,if_false,if_true]
   cases a with
   | true =>
    have hz:idx b.A4 s.B=some (b.A4[s.B.toNat]'(by have:=hZ.1;omega)):=gT hB.1 (by have:=hZ.1;omega)
    simp only [eO,dX,gY,bC,if_false,if_true,hz,aG,qZ]
    by_cases q:(b.A4[s.B.toNat]'(by grind))=s.H
    ·simp_all
    ·have q':((b.A4[s.B.toNat]'(by grind)) == s.H)=false:=by grind
     simp only [q',bC,if_false]
     by_cases q3:aX (s.B+1)=3
     ·simp_all
     simp_all
   | false =>
    simp_all [eO,dX,cZ,bE,a8]
  simp_all [dP,eO,dX,cZ,bE,a8]
 have p2':(s.Pc == 2)=false:=by grind
 simp only [p2',bC,if_false,dX]
 by_cases p3:s.Pc=3
 ·simp only [p3,beq_self_eq_true,if_true]
  cases a with
  | false =>
   rw [ha4 rfl]
   simp_all [eP,cZ,bE,a8]
  | true =>
   obtain⟨r,hrm,hr,hrH,r0,r1⟩:=ha3 rfl
   obtain⟨v,e1,e2⟩:=aQ3 r s.E
   rw [b9 (show 0<=s.Row/\s.Row<=(l.Rows.length:Int) - 1 by omega)]
   simp only [gY,bC,if_false,if_true,hr,aG,hrH,bne_self_eq_false,hx,e1,e2]
   cases v with
   | false =>
    simp_all [eP,cZ,bE,a8]
   | true =>
    have hlive:oH b.Mem s.H:=by
     have:r∈cC b.bJ:=aHC.2 ⟨l,hmemL,hrm⟩
     have:=(hb.2 r this).1
     grind
    obtain⟨m',f1,f2,f3,f4⟩:=aJ2 hm hw hlive
    have ew:aX (s.Row+1)=s.Row+1:=aL (by omega) (by omega)
    have hdrop:HT b.bJ w s.Row=some (b.bJ.set w.toNat ⟨((cM l.Rows s.Row.toNat (l.Rows.drop (s.Row+1).toNat)).take (s.Row.toNat+(l.Rows.length - (s.Row+1).toNat))).drop 0⟩,true):=by
     unfold HT yV
     rw [UN hL.small.2.2.1 (fun s h=>by have:=hL.small.2.2.2 s h;omega),GO hL.small.1,b9 hL,hhas,b9 (show 0<=s.Row/\s.Row<=(l.Rows.length:Int) - 1 by omega)]
     simp only [aG,gY,bC,if_false,hx,ew]
     unfold zX
     rw [aK (by omega),if_neg (by simp;omega),aK (by omega),aK (by omega),aK (by omega),aK]
     ·rfl
     grind [eQ]
    simp only [eP,cZ,AG,ew,gY,bC,if_false,if_true]
    rw [aK (by omega),aK (by omega),aK (by omega),gL,if_pos hlive.1,aG,f1,f2,hdrop]
    have hk:s.Row.toNat < l.Rows.length:=by omega
    have eL:((cM l.Rows s.Row.toNat (l.Rows.drop (s.Row+1).toNat)).take (s.Row.toNat+(l.Rows.length - (s.Row+1).toNat))).drop 0=l.Rows.eraseIdx s.Row.toNat:=by
     rw [show(s.Row+1).toNat=s.Row.toNat+1 by omega];exact del_eq hk
    have er:l.Rows[s.Row.toNat]=r:=by
     grind [aP]
    rw [eL] at hdrop ⊢
    obtain⟨g1,g2⟩:=hset s.Row.toNat hk
    refine⟨_,_,rfl,rfl,m',_,rfl,f3,f4.1,g1,fun q hq=>?_⟩
    obtain⟨g3,g4⟩:=g2 q hq
    obtain⟨g5,g6⟩:=hb.2 q g3
    refine⟨f4.live g5 fun e=>?_,g6⟩
    grind
 simp_all [cZ,a8]
end Go.Gv
end
noncomputable section
namespace Go.Gv
theorem aEW.fits{b:aB}(h:aEW b):b.Mem.Heap.Bytes.length<=maxLen/\(fE b.Mem.aA).length<=1073741824/\b.aH.cV.length<=maxLen/\b.bJ.length<=maxLen/\(cC b.bJ).length<=1073741824/\b.A4.length<=maxLen:=by
 have hb:(1048576:Nat)<=maxLen:=by simp [maxLen]
 have g1:=h.1.1;have g2:=h.1.2.2.2.2;have g3:=h.2.1;have g4:=h.2.2.1;have g5:=h.2.2.2.1;have g6:=h.2.2.2.2
 omega
theorem step_eq{b:aB}(hb:sB b)(hs:aEW b){w:Int}(hw:0<=w/\w<=2)(s:Sub) :
  ∃x y,OS b w s=some (x,y)/\oA s b w=some (y,x)/\sB x:=by
 have hz:=hb.1.2.2.2.1
 have hl:=hb.1.2.2.1
 unfold OS oA
 cases hd:s.dJ with
 | true=>grind
 | false =>
  simp only [bC,if_false]
  by_cases k1:s.Kind=1
  ·obtain⟨x,y,e1,e2,m,rfl,h1,h2⟩:=alloc_eq hb.1.1 hw s
   simp only [k1,beq_self_eq_true,if_true,e1,e2,aG]
   exact⟨_,_,rfl,rfl,⟨h2.1,hb.1.2⟩,fun r hr=>⟨h2.live (hb.2 r hr).1 (by omega),(hb.2 r hr).2⟩⟩
  have k1':(s.Kind == 1)=false:=by grind
  simp only [k1',bC,if_false]
  by_cases k2:s.Kind=2
  ·obtain⟨x,y,e1,e2,L,rfl,h1,h2⟩:=aR7 hb hs hw s
   simp only [k2,beq_self_eq_true,if_true,e1,e2,aG]
   exact⟨_,_,rfl,rfl,⟨hb.1.1,hb.1.2.1,h1,hb.1.2.2.2⟩,h2⟩
  have k2':(s.Kind == 2)=false:=by grind
  simp only [k2',bC,if_false]
  by_cases k3:s.Kind=3
  ·obtain⟨x,y,e1,e2,c,rfl,h1,h2⟩:=aOK hb.1.2.1 s
   simp only [k3,beq_self_eq_true,if_true,e1,e2,aG]
   exact⟨_,_,rfl,rfl,⟨hb.1.1,h1,hb.1.2.2⟩,fun r hr=>⟨(hb.2 r hr).1,Int.le_trans (hb.2 r hr).2 h2⟩⟩
  have k3':(s.Kind == 3)=false:=by grind
  simp only [k3',bC,if_false]
  by_cases k4:s.Kind=4
  ·obtain⟨x,y,e1,e2,m,L,rfl,h1,h2,h3,h4⟩:=aOS hb hw s
   simp only [k4,beq_self_eq_true,if_true,e1,e2,aG]
   exact⟨_,_,rfl,rfl,⟨h2,hb.1.2.1,h3,hb.1.2.2.2⟩,h4⟩
  have k4':(s.Kind == 4)=false:=by grind
  simp only [k4',bC,if_false]
  by_cases k5:s.Kind=5
  ·obtain⟨x,y,e1,e2,c,rfl,h1,h2⟩:=a2I hb.1.2.1 hw s
   simp only [k5,beq_self_eq_true,if_true,e1,e2,aG]
   exact⟨_,_,rfl,rfl,⟨hb.1.1,h1,hb.1.2.2⟩,fun r hr=>⟨(hb.2 r hr).1,Int.le_trans (hb.2 r hr).2 h2⟩⟩
  have k5':(s.Kind == 5)=false:=by grind
  simp only [k5',bC,if_false,bE,a8,aG]
  grind
theorem sB.small{b:aB}(hb:sB b):aEW b:=by
 have h1:=hb.1.2.1.2.1;have h2:=hb.1.2.2.1.1;have h3:=hb.1.2.2.1.2.1;have h4:=hb.1.2.2.2.1
 exact⟨(pY.facts hb.1.1).2.2.2.2.2.1,by omega,by omega,by omega,by omega⟩
end Go.Gv
end
noncomputable section
namespace Go.Gv
def MN(s:Sub)(code:Int):Sub:={s with Code:=code,dJ:=true}
def JX(n:Int):Int:=if 1<=n/\n<=8 then 0 else if 1<=n/\n<=16 then 1 else if 1<=n/\n<=40 then 2 else -1
theorem aOT(n:Int):-1<=JX n/\JX n<=2:=by grind [JX]
theorem aSD(n:Int):CS n=some (JX n):=by
 have s1:∀k,0<=k/\k<=2->eU n k=some (if 1<=n/\n<=mK k then .stop (Out.ret k) else .next (k+1)):=fun k hk=>by
  simp only [eU]
  rw [if_pos (by simp;omega),R6,aG,cE,aG,aL (by omega) (by omega)]
  grind
 have z0:mK 0=8:=rfl
 have z1:mK 1=16:=rfl
 have z2:mK 2=40:=rfl
 unfold CS JX
 by_cases q0:1<=n/\n<=8
 ·rw [bG (by rw [s1 0 (by omega),if_pos (by omega)]),if_pos q0];rfl
 ·rw [bQ (by rw [s1 0 (by omega),if_neg (by omega)]),if_neg q0,show(0:Int)+1=1 from rfl]
  by_cases q1:1<=n/\n<=16
  ·rw [bG (by rw [s1 1 (by omega),if_pos (by omega)]),if_pos q1];rfl
  ·rw [bQ (by rw [s1 1 (by omega),if_neg (by omega)]),if_neg q1,show(1:Int)+1=2 from rfl]
   by_cases q2:1<=n/\n<=40
   ·rw [bG (by rw [s1 2 (by omega),if_pos (by omega)]),if_pos q2];rfl
   ·rw [bQ (by rw [s1 2 (by omega),if_neg (by omega)]),if_neg q2,show(2:Int)+1=3 from rfl,bG (body:=eU n) (r:=Out.brk ()) (by simp [eU])];rfl
def aG3(l:List Int):List Int×Int:=(l.dropLast,l.getLastD (-1))
theorem aB5{s:aO}(h:s.aQ.length<=1048576):qV s=some (⟨(aG3 s.aQ).1⟩,(aG3 s.aQ).2):=by
 unfold qV L6 aG3
 obtain⟨l⟩:=s
 rcases List.eq_nil_or_concat l with rfl | ⟨L,b,rfl⟩
 ·rfl
 ·simp only [List.concat_eq_append] at h ⊢
  have hl:(L ++ [b]).length=L.length+1:=by simp
  rw [hl,aL (by omega) (by omega),show((L.length+1:Nat):Int) - 1=(L.length:Int) by omega,if_neg (by simp;omega),aK (by omega),aP (by omega)]
  simp
def XP(m:Mem)(w c:Int):Mem×Int:=(⟨m.Heap,⟨m.aA.Global,m.aA.Own.set (w * 3+c).toNat ⟨(aG3 (gH m.aA.Own (w * 3+c).toNat)).1⟩⟩⟩,(aG3 (gH m.aA.Own (w * 3+c).toNat)).2)
def S9(m:Mem)(c:Int):Mem×Int:=(⟨m.Heap,⟨m.aA.Global.set c.toNat ⟨(aG3 (gH m.aA.Global c.toNat)).1⟩,m.aA.Own⟩⟩,(aG3 (gH m.aA.Global c.toNat)).2)
def ZM(h:Heap):Nat:=h.Class.findIdx (fun x=>decide (x = -1))
def Y0(m:Mem)(c:Int):Mem×Int:=if ZM m.Heap=6 then (m,-1) else
 (⟨⟨gB m.Heap.Bytes (ZM m.Heap) c (cX c).toNat,m.Heap.Class.set (ZM m.Heap) c⟩,⟨m.aA.Global.set c.toNat ⟨gH m.aA.Global c.toNat++(gS (ZM m.Heap) (cX c).toNat).drop 1⟩,m.aA.Own⟩⟩,(ZM m.Heap:Int) * 4)
theorem aWJ{h:Heap}(hs:eM h):ZM h<=6:=by rw [<-hs.2.1];exact List.findIdx_le_length
theorem a2M{h:Heap}(hs:eM h)(hq:ZM h≠6):ZM h < 6/\b8 h (ZM h) = -1:=by
 have h6:=hs.2.1
 have hlt:ZM h < 6:=by grind [aWJ]
 refine⟨hlt,?_⟩
 rw [<-S4 hs hlt]
 have:=List.findIdx_getElem (xs:=h.Class) (p:=fun x=>decide (x = -1)) (w:=by grind [ZM])
 exact of_decide_eq_true this
theorem aZL{h:Heap}(hs:eM h):∀j (hj:j < 6),j < ZM h->b8 h j≠-1:=fun j hj hlt=>by
 have:=List.not_of_lt_findIdx hlt
 grind [S4]
theorem a2N{h:Heap}(hh:UL h){c:Int}(hc:0<=c/\c<=2):qW h c=some (if ZM h=6 then (h,[]) else (⟨gB h.Bytes (ZM h) c (cX c).toNat,h.Class.set (ZM h) c⟩,gS (ZM h) (cX c).toNat)):=by
 have hs:=hh.1
 have h6:=hs.2.1
 have h384:=hs.1
 have hle:=aWJ hs
 have s1:∀k (hk:k < ZM h),eF h c (k:Int)=some (.next ((k+1:Nat):Int)):=fun k hk=>by
  have n:(h.Class[k] != -1)=true:=by
   grind [aZL,S4]
  simp only [eF,GI]
  rw [if_pos (by simp;omega),aP (by omega),aG,n,if_pos rfl,aL (by omega) (by omega)];rfl
 unfold qW
 by_cases hq:ZM h=6
 ·have a1:loop (eF h c) 0=some (Out.brk ()):=gR (ZM h) (fun k=>(k:Int)) _ s1 (by simp_all [eF])
  rw [a1,if_pos hq];rfl
 ·obtain⟨hlt,he⟩:=a2M hs hq
  rw [<-S4 hs hlt] at he
  generalize hqq:ZM h=q at *
  have a1:loop (eF h c) 0=some (Out.ret (⟨gB h.Bytes q c (cX c).toNat,h.Class.set q c⟩,gS q (cX c).toNat)):=gR q (fun k=>(k:Int)) _ s1 (by
   have e0:aX ((q:Int) * 64)=((q * 64:Nat):Int):=by grind [aL]
   have e1:aX (((q * 64:Nat):Int)+1)=((q * 64+1:Nat):Int):=by grind [aL]
   have e2:aX (((q * 64:Nat):Int)+2)=((q * 64+2:Nat):Int):=by grind [aL]
   have n:(h.Class[q] != -1)=false:=by grind
   simp only [eF,e0,e1,e2,JZ]
   rw [if_pos (by simp;omega),aP (by omega),aG,n,if_neg (by simp),aP (by omega),aG,aP (by simp;omega),aG,hO,aG,aP (by simp;omega),aG]
   have:=aE5 h384 hlt hc
   simp only [gB] at this
   rw [this];rfl)
  rw [a1,if_neg hq];rfl
theorem aSE{m:Mem}(hm:pY m){c:Int}(hc:0<=c/\c<=2):CU m c=some (Y0 m c):=by
 have h3:=hm.1.2.1
 have hpp:0 < cX c:=uY.2 hc
 have hp4:=mO c
 obtain⟨_,_,_,_,_,_,_,_,hsG,_⟩:=pY.facts hm
 unfold CU Y0
 rw [a2N hm.1.1 hc]
 by_cases hq:ZM m.Heap=6
 ·simp_all
 ·have hk:c.toNat < m.aA.Global.length:=by omega
  have hg0:=hsG _ (dC hk)
  have hx:idx m.aA.Global c=some m.aA.Global[c.toNat]:=gT hc.1 (by omega)
  have hz:idx (gS (ZM m.Heap) (cX c).toNat) 0=some ((ZM m.Heap:Int) * 4):=by
   grind [aP,gS]
  have hn:(((cX c).toNat:Int) == 0)=false:=by grind
  have ht:(gS (ZM m.Heap) (cX c).toNat).take (cX c).toNat=gS (ZM m.Heap) (cX c).toNat:=aHF (by grind [aE4])
  have hd:((gS (ZM m.Heap) (cX c).toNat).drop 1).length<=4:=by grind
  simp only [if_neg hq,aG,aE4,hn,bC,if_false,hx,hz,GJ,ht]
  grind [aK,dY]
def a2O(m:Mem)(s:Int):Int:=if 1<=lY m.Heap s/\lY m.Heap s<=6 then lY m.Heap s * 32+s else 0
theorem aZM{m:Mem}(hs:eM m.Heap){s:Int}(hc:0<=bR m.Heap s):yC m s=some (a2O m s):=by
 unfold yC L7 v8 a2O
 rw [oF hs hc,aG,cE,cE]
 have h1:=(LF hc).1
 simp only [b9 h1,aG,gY,bC,if_false]
 by_cases q:1<=lY m.Heap s/\lY m.Heap s<=6
 ·simp only [b9 q,gY,bC,if_false,if_pos q]
  grind [aL]
 grind
def Y1(b:aB)(s:Sub)(p:Mem×Int):aB×Sub:=
 if 0<=p.2 then ({b with Mem:=p.1},MN {s with Out:=a2O p.1 p.2} 0) else if s.Pc=3 then ({b with Mem:=p.1},MN s 3) else ({b with Mem:=p.1},{s with Pc:=s.Pc+1})
def aOU(b:aB)(w:Int)(s:Sub):aB×Sub:=
 if JX s.A < 0 then (b,MN s 2)
 else if s.Pc=0 then Y1 b s (XP b.Mem w (JX s.A))
 else if s.Pc=1\/s.Pc=3 then Y1 b s (S9 b.Mem (JX s.A))
 else if s.Pc=2 then Y1 b s (Y0 b.Mem (JX s.A))
 else (b,MN s 1)
theorem aSF{b:aB}(hm:pY b.Mem){w:Int}(hw:0<=w/\w<=2)(s:Sub):yD b w s=some (aOU b w s):=by
 obtain⟨hcnt,h3,h9,h1,h2,hsm,hcp,hlo,hsG,hsO⟩:=pY.facts hm
 have hs:=hm.1.1.1
 have hr:=aOT s.A
 unfold yD aOU
 rw [aSD]
 simp only [aG]
 by_cases c0:JX s.A < 0
 ·simp only [b9 c0,if_true,bE,if_pos c0];rfl
 generalize JX s.A=c at *
 have hc:0<=c/\c<=2:=by omega
 simp only [dP c0,bC,if_false,if_neg c0]
 have fin:∀(p:Mem×Int),-1<=p.2->(0<=p.2->eM p.1.Heap/\0<=bR p.1.Heap p.2)->s.Pc<=3/\0<=s.Pc->iK s p.2 ⟨p.1,b.aH,b.bJ,b.A4⟩=some (Y1 b s p):=by
  intro p hp hx hpc
  unfold iK Y1
  simp only [wB,OR,bE]
  by_cases x0:0<=p.2
  ·rw [dP (show ¬p.2 < 0 by omega),b9 x0]
   simp only [bC,if_false,if_true,if_pos x0,aZM (hx x0).1 (hx x0).2,aG];rfl
  ·rw [b9 (show p.2 < 0 by omega),dP x0]
   by_cases p3:s.Pc=3
   ·have p3':(s.Pc == 3)=true:=by grind
    simp only [p3',if_true,if_neg x0,if_pos p3,aG];rfl
   ·have p3':(s.Pc == 3)=false:=by grind
    have e:aX (s.Pc+1)=s.Pc+1:=aL (by omega) (by omega)
    grind
 have popL:∀l:List Int,-1<=(aG3 l).2\/(aG3 l).2∈l:=fun l=>by
  unfold aG3
  grind
 by_cases p0:s.Pc=0
 ·have hk:(w * 3+c).toNat < b.Mem.aA.Own.length:=by omega
  have hx:idx b.Mem.aA.Own (w * 3+c)=some b.Mem.aA.Own[(w * 3+c).toNat]:=gT (by omega) (by omega)
  obtain⟨l,t,x,e1,e2,e3,g1,g2,g3⟩:=aE8 hm hw hc
  have hl:=hsO _ (dC hk)
  rw [hx] at e1;cases e1
  rw [aB5 (by omega)] at e2
  have ep:XP b.Mem w c=(⟨b.Mem.Heap,⟨b.Mem.aA.Global,b.Mem.aA.Own.set (w * 3+c).toNat t⟩⟩,x):=by
   grind [XP,dY]
  have hx0:-1<=x:=by
   injection e2 with e2;injection e2 with e4 e5
   rcases popL b.Mem.aA.Own[(w * 3+c).toNat].aQ with h | h
   ·omega
   ·rw [<-e5];have:=hm.1.2.2.2.2.1 _ (List.mem_append_right _ (aHC.2 ⟨_,dC hk,h⟩));omega
  have p0':(s.Pc == 0)=true:=by grind
  have:=fin (XP b.Mem w c) (by grind) (by grind) (by omega)
  rw [ep] at this
  simp only [p0',if_true,if_pos p0,(N3 hw hc).1,aG,hx]
  grind [aB5]
 ·have p0':(s.Pc == 0)=false:=by grind
  simp only [p0',bC,if_false,wC,if_neg p0]
  have hk:c.toNat < b.Mem.aA.Global.length:=by omega
  have hx:idx b.Mem.aA.Global c=some b.Mem.aA.Global[c.toNat]:=gT (by omega) (by omega)
  obtain⟨l,t,x,e1,e2,e3,g1,g2,g3⟩:=UP hm hc
  have hl:=hsG _ (dC hk)
  rw [hx] at e1;cases e1
  rw [aB5 (by omega)] at e2
  have ep:S9 b.Mem c=(⟨b.Mem.Heap,⟨b.Mem.aA.Global.set c.toNat t,b.Mem.aA.Own⟩⟩,x):=by
   grind [S9,dY]
  have hx0:-1<=x:=by
   injection e2 with e2;injection e2 with e4 e5
   rcases popL b.Mem.aA.Global[c.toNat].aQ with h | h
   ·omega
   ·rw [<-e5];have:=hm.1.2.2.2.2.1 _ (ZA _ (aHC.2 ⟨_,dC hk,h⟩));omega
  have tg:0<=s.Pc/\s.Pc<=3->(idx b.Mem.aA.Global c).bind (fun x13=>(qV x13).bind fun x14=>iK s x14.2 ({b with Mem:=(⟨b.Mem.Heap,(⟨b.Mem.aA.Global.set c.toNat x14.1,b.Mem.aA.Own⟩:aA)⟩:Mem)}:aB))=some (Y1 b s (S9 b.Mem c)):=fun hpc=>by
   grind [aB5]
  by_cases p1:s.Pc=1
  ·grind
  ·have p1':(s.Pc == 1)=false:=by grind
   simp only [p1',bC,if_false]
   by_cases p3:s.Pc=3
   ·grind
   ·have p3':(s.Pc == 3)=false:=by grind
    have n13:¬(s.Pc=1\/s.Pc=3):=by omega
    simp only [p3',bC,if_false,if_neg n13]
    by_cases p2:s.Pc=2
    ·obtain⟨m',y,f1,f2,k1,k2,k3⟩:=aL9 hm hc
     have hg:=aSE hm hc
     rw [f1] at hg
     have hg':Y0 b.Mem c=(m',y):=by grind
     have hy:-1<=(Y0 b.Mem c).2:=by grind [Y0]
     grind
    ·have p2':(s.Pc == 2)=false:=by grind
     simp only [p2',bC,if_false,bE,if_neg p2,aG];rfl
end Go.Gv
end
noncomputable section
namespace Go.Gv
def wO(c:aH)(w:Int):sC:=c.cV.getD w.toNat ⟨false,0,false,0⟩
theorem N4{c:aH}(hc:QU c){w:Int}(hw:0<=w/\w<=2):idx c.cV w=some (wO c w):=by
 have:=hc.2.1
 grind [gT,wO]
def aMA(c:aH)(w e:Int):aH×Bool:=
 if (wO c w).On=false\/(wO c w).gP=true\/(wO c w).aM=e then (c,true)
 else if (wO c w).Seen=2 then (⟨c.aM,c.cV.set w.toNat {wO c w with gP:=true,Seen:=0}⟩,true)
 else (⟨c.aM,c.cV.set w.toNat {wO c w with Seen:=(wO c w).Seen+1}⟩,false)
theorem aWK{c:aH}(hc:QU c){w:Int}(hw:0<=w/\w<=2):POk c.aM (wO c w):=by
 have:=N4 hc hw
 have h2:=hc.2.1
 rw [gT hw.1 (by omega)] at this
 injection this with this
 rw [<-this]
 exact hc.2.2 _ (dC _)
theorem aWL{c:aH}(hc:QU c){w:Int}(hw:0<=w/\w<=2)(e:Int):FH c w e=some (aMA c w e):=by
 have hp:=aWK hc hw
 have hx:=N4 hc hw
 have hsm:=hc.small
 unfold FH CX aMA
 rw [lQ hsm.1,hQ,b9 hc,cE,b9 hw,hx]
 simp only [aG,gY,bC,if_false,pT,hx]
 generalize wO c w=p at *
 have ew:aX (p.Seen+1)=p.Seen+1:=aL (by have:=hp.2.1;omega) (by have:=hp.2.1;omega)
 grind
def aMB(c:aH)(e:Int):aH×Bool:=if c.aM=e/\e≠100000 then (⟨e+1,c.cV⟩,true) else (c,false)
theorem aWM{c:aH}(hc:QU c)(e:Int):NP c e=some (aMB c e):=by
 have hsm:=hc.small
 unfold NP CY aMB
 rw [lQ hsm.1,hQ,b9 hc]
 simp only [aG,gY,bC,if_false]
 by_cases h1:c.aM=e
 ·have he:=hc.1
  grind [aL]
 ·simp [h1]
def Y2(c:aH)(w e:Int):aH×Bool:=if 0<=e/\e<=c.aM then (⟨c.aM,c.cV.set w.toNat ⟨true,e,false,0⟩⟩,true) else (c,false)
theorem aSG{c:aH}(hc:QU c){w:Int}(hw:0<=w/\w<=2)(e:Int):JD c w e=some (Y2 c w e):=by
 have hsm:=hc.small
 unfold JD yE Y2
 rw [lQ hsm.1,hQ,b9 hc,cE,b9 hw,cE]
 simp only [aG,gY,bC,if_false]
 grind [N4]
def aJ3(c:aH)(w:Int):aH×Bool:=if (wO c w).On then (⟨c.aM,c.cV.set w.toNat ⟨false,0,false,0⟩⟩,true) else (c,false)
theorem aH7{c:aH}(hc:QU c){w:Int}(hw:0<=w/\w<=2):OT c w=some (aJ3 c w):=by
 have hsm:=hc.small
 have hx:=N4 hc hw
 unfold OT yF aJ3
 rw [lQ hsm.1,hQ,b9 hc,cE,b9 hw,hx]
 grind
def aE9(b:aB)(s:Sub):aB×Sub:=
 if s.Pc=0 then (b,{s with Pc:=1,E:=b.aH.aM,B:=0})
 else if s.Pc=1 then
  if 0<=s.B/\s.B<=2 then
   if (aMA b.aH s.B s.E).2 then ({b with aH:=(aMA b.aH s.B s.E).1},{s with Pc:=if s.B=2 then 2 else 1,B:=s.B+1})
   else ({b with aH:=(aMA b.aH s.B s.E).1},MN s 8)
  else (b,MN s 1)
 else if s.Pc=2 then ({b with aH:=(aMB b.aH s.E).1},MN {s with Out:=if (aMB b.aH s.E).2 then 1 else s.Out} 0)
 else (b,MN s 1)
theorem aMC{b:aB}(hc:QU b.aH)(s:Sub):rW b s=some (aE9 b s):=by
 unfold rW aE9
 rw [aWM hc,cE]
 simp only [bE,qX,qY,aG]
 by_cases p0:s.Pc=0
 ·grind
 ·have p0':(s.Pc == 0)=false:=by grind
  simp only [p0',bC,if_false,if_neg p0]
  by_cases p1:s.Pc=1
  ·have p1':(s.Pc == 1)=true:=by grind
   simp only [p1',if_true,if_pos p1]
   by_cases hB:0<=s.B/\s.B<=2
   ·have ew:aX (s.B+1)=s.B+1:=aL (by omega) (by omega)
    simp only [b9 hB,gY,bC,if_false,if_pos hB,aWL hc hB,aG,ew]
    grind [MN]
   ·simp only [dP hB,HB,if_true,if_neg hB];rfl
  ·have p1':(s.Pc == 1)=false:=by grind
   simp only [p1',bC,if_false,if_neg p1]
   by_cases p2:s.Pc=2
   ·have p2':(s.Pc == 2)=true:=by grind
    simp only [p2',if_true,if_pos p2]
    cases h:(aMB b.aH s.E).2 <;> rfl
   ·have p2':(s.Pc == 2)=false:=by grind
    simp only [p2',bC,if_false,if_neg p2];rfl
def a2P(b:aB)(w:Int)(s:Sub):aB×Sub:=
 if s.Pc=0 then (b,{s with Pc:=1,E:=b.aH.aM})
 else if s.Pc=1 then
  if (Y2 b.aH w s.E).2 then ({b with aH:=(Y2 b.aH w s.E).1},{s with Pc:=2}) else ({b with aH:=(Y2 b.aH w s.E).1},MN s 1)
 else if s.Pc=2 then if b.aH.aM=s.E then (b,MN s 0) else (b,{s with Pc:=0})
 else (b,MN s 1)
theorem aZN{b:aB}(hc:QU b.aH){w:Int}(hw:0<=w/\w<=2)(s:Sub):FI b w s=some (a2P b w s):=by
 unfold FI a2P
 rw [aSG hc hw]
 simp only [bE,aG]
 by_cases p0:s.Pc=0
 ·grind
 ·have p0':(s.Pc == 0)=false:=by grind
  simp only [p0',bC,if_false,if_neg p0]
  by_cases p1:s.Pc=1
  ·have p1':(s.Pc == 1)=true:=by grind
   simp only [p1',if_true,if_pos p1]
   cases h:(Y2 b.aH w s.E).2 <;> rfl
  ·have p1':(s.Pc == 1)=false:=by grind
   simp only [p1',bC,if_false,if_neg p1]
   by_cases p2:s.Pc=2
   ·have p2':(s.Pc == 2)=true:=by grind
    simp only [p2',if_true,if_pos p2]
    by_cases q:b.aH.aM=s.E
    ·have q':(b.aH.aM == s.E)=true:=by grind
     simp only [q',if_true,if_pos q];rfl
    grind
   ·have p2':(s.Pc == 2)=false:=by grind
    simp only [p2',bC,if_false,if_neg p2];rfl
def AJ(l:List bB)(w:Int):List dE:=(l.getD w.toNat ⟨[]⟩).Rows
theorem PB{l:List bB}(hl:qE l){w:Int}(hw:0<=w/\w<=2):idx l w=some ⟨AJ l w⟩:=by
 have:=hl.1
 rw [gT hw.1 (by omega)]
 simp [AJ,VQ,fT (show w.toNat < l.length by omega)]
theorem aH8{l:List bB}(hl:qE l){w:Int}(hw:0<=w/\w<=2):(AJ l w).length<=24:=by
 have h:=PB hl hw
 have h3:=hl.1
 rw [gT hw.1 (by omega)] at h
 injection h with h
 have:=hl.small.2.2.2 _ (dC (show w.toNat < l.length by omega))
 grind
def aJ4(b:aB)(w:Int)(s:Sub):aB×Sub:=
 if s.Pc=0 then (b,{s with Pc:=1,E:=b.aH.aM})
 else if s.Pc=1 then
  if 0<=s.E/\s.E<=b.aH.aM then
   if oH b.Mem s.A/\¬aW b.bJ (s.A % 32) then ({b with bJ:=b.bJ.set w.toNat ⟨AJ b.bJ w ++ [⟨s.A,s.E⟩]⟩},MN s 0) else (b,MN s 4)
  else (b,MN s 1)
 else (b,MN s 1)
theorem aOV{b:aB}(hb:sB b){w:Int}(hw:0<=w/\w<=2)(s:Sub):uP b w s=some (aJ4 b w s):=by
 have hL:=hb.1.2.2.1
 have hm:=hb.1.1
 obtain⟨h1,h2,h3,_⟩:=pY.facts hm
 have hx:=PB hL hw
 have hrow:=aH8 hL hw
 unfold uP aJ4
 rw [cE,GP hm.1.1.1 (by omega) (by grind [maxLen]) (by grind [maxLen]),gL]
 simp only [bE,aG,tJ,CV]
 by_cases p0:s.Pc=0
 ·grind
 ·have p0':(s.Pc == 0)=false:=by grind
  simp only [p0',bC,if_false,if_neg p0]
  by_cases p1:s.Pc=1
  ·have p1':(s.Pc == 1)=true:=by grind
   simp only [p1',if_true,if_pos p1]
   by_cases q1:0<=s.E/\s.E<=b.aH.aM
   ·simp only [b9 q1,gY,bC,if_false,if_pos q1]
    by_cases q2:oH b.Mem s.A
    ·have hh:=q2.1
     simp only [b9 q2,gY,bC,if_false,if_pos hh,QK hL,aG]
     by_cases q3:aW b.bJ (s.A % 32)
     ·simp only [b9 q3,if_true,if_neg (show ¬(oH b.Mem s.A/\¬aW b.bJ (s.A % 32)) from fun h=>h.2 q3)];rfl
     ·simp only [dP q3,bC,if_false,hx,aG,if_pos (show oH b.Mem s.A/\¬aW b.bJ (s.A % 32) from ⟨q2,q3⟩)]
      rw [aK (by simp;omega)];rfl
    ·simp only [dP q2,HB,if_true,if_neg (show ¬(oH b.Mem s.A/\¬aW b.bJ (s.A % 32)) from fun h=>q2 h.1)];rfl
   ·simp only [dP q1,HB,if_true,if_neg q1];rfl
  ·have p1':(s.Pc == 1)=false:=by grind
   simp only [p1',bC,if_false,if_neg p1];rfl
def QM(r:dE)(e:Int):Prop:=2<=e/\r.aM<=aX (e - 2)
instance (r:dE) (e:Int):Decidable (QM r e):=by unfold QM;infer_instance
theorem aFA(r:dE)(e:Int):IH r e=some (decide (QM r e)):=by
 unfold IH H8 QM
 grind
def HA(l:List dE)(e:Int)(k:Nat):Nat:=k+(l.drop k).findIdx (fun r=>decide (QM r e))
theorem aWN{l:List dE}(hl:l.length<=1000){from_ e:Int}:wD l from_ e=some (if HA l e from_.toNat < l.length then (HA l e from_.toNat:Int) else -1):=by
 have hst:(if 0 < from_ then from_ else 0)=(from_.toNat:Int):=by omega
 unfold wD
 rw [hst]
 have key:∀d k:Nat,l.length<=k+d->loop (eG l e) (k:Int)=some (if HA l e k < l.length then Out.ret (HA l e k:Int) else Out.brk ()):=by
  intro d
  induction d with
  | zero =>
   intro k hk
   rw [bG (r:=Out.brk ()) (by simp_all [eG,if_neg]),if_neg (by grind [HA])]
  | succ d ih =>
   intro k hk
   by_cases hkl:k < l.length
   ·have hd:l.drop k=l[k] :: l.drop (k+1):=IJ hkl
    by_cases hr:QM l[k] e
    ·have hs:HA l e k=k:=by grind [HA]
     simp_all [bG,eG,aP,aFA]
    ·have hs:HA l e k=HA l e (k+1):=by unfold HA;grind
     rw [bQ (s':=((k+1:Nat):Int)) (by simp only [eG];rw [if_pos (by simp;omega),aP hkl,aG,aFA _ e,aG,dP hr,if_neg (by simp),aL (by omega) (by omega)];rfl),ih (k+1) (by omega),hs]
   grind
 rw [key l.length from_.toNat (by omega)]
 split <;> rfl
def aQ4(m:Mem)(w h:Int):Mem:=
 if h / 32+1<=6 then
  if (gH m.aA.Own (w * 3+bR m.Heap (h % 32)).toNat).length < 2 then ⟨⟨st4 m.Heap.Bytes (iP (h % 32) (bR m.Heap (h % 32))).toNat (h / 32+1),m.Heap.Class⟩,⟨m.aA.Global,m.aA.Own.set (w * 3+bR m.Heap (h % 32)).toNat ⟨gH m.aA.Own (w * 3+bR m.Heap (h % 32)).toNat ++ [h % 32]⟩⟩⟩
  else ⟨⟨st4 m.Heap.Bytes (iP (h % 32) (bR m.Heap (h % 32))).toNat (h / 32+1),m.Heap.Class⟩,⟨m.aA.Global.set (bR m.Heap (h % 32)).toNat ⟨gH m.aA.Global (bR m.Heap (h % 32)).toNat ++ [h % 32]⟩,m.aA.Own⟩⟩
 else ⟨⟨st4 m.Heap.Bytes (iP (h % 32) (bR m.Heap (h % 32))).toNat (h / 32+1),m.Heap.Class⟩,m.aA⟩
theorem aFB{m:Mem}(hm:pY m){w h:Int}(hw:0<=w/\w<=2)(hv:oH m h):FG m w (h % 32)=some (aQ4 m w h):=by
 obtain⟨hcnt,h3,h9,h1,h2,hsm,hcp,hlo,hsG,hsO⟩:=pY.facts hm
 have hs:=hm.1.1.1
 have hh:=hv.1
 have hcl:=lP hv.2.1
 have hgo:=S5 hcl
 have hc2:0<=bR m.Heap (h % 32)/\bR m.Heap (h % 32)<=2:=by
  obtain⟨_,q,e⟩:=LF hcl
  rw [e];exact uY.1 (by omega)
 have hg6:1<=h / 32/\h / 32<=6:=by grind [lZ]
 have eo:iP (h % 32) (bR m.Heap (h % 32))=(((iP (h % 32) (bR m.Heap (h % 32))).toNat:Nat):Int):=by omega
 have ew:aX (h / 32+1)=h / 32+1:=aL (by omega) (by omega)
 unfold FG aQ4
 rw [rZ hs,aG,oF hs hcl,hv.2.2,aG,sL,aG,ew]
 generalize hgn:(iP (h % 32) (bR m.Heap (h % 32))).toNat=a at eo
 rw [eo,GQ (by omega) (by omega) (by omega)]
 simp only [aG,JC,JA,ew]
 generalize bR m.Heap (h % 32)=c at *
 by_cases q:h / 32+1<=6
 ·have hk:(w * 3+c).toNat < m.aA.Own.length:=by omega
  have hx:idx m.aA.Own (w * 3+c)=some m.aA.Own[(w * 3+c).toNat]:=gT (by omega) (by omega)
  have hk2:c.toNat < m.aA.Global.length:=by omega
  have hx2:idx m.aA.Global c=some m.aA.Global[c.toNat]:=gT (by omega) (by omega)
  have b1:=hsO _ (dC hk)
  have b2:=hsG _ (dC hk2)
  rw [b9 q,if_pos rfl,if_pos q]
  unfold RP
  rw [(N3 hw hc2).1]
  simp only [aG,hx,hx2,I9,RN,RO,<-dY hk,<-dY hk2]
  by_cases q2:m.aA.Own[(w * 3+c).toNat].aQ.length < 2
  ·have y1:(m.aA.Own[(w * 3+c).toNat].aQ.length:Int) < 2:=by omega
   simp only [b9 y1,if_true,if_pos q2]
   grind [aK]
  ·have y1:¬(m.aA.Own[(w * 3+c).toNat].aQ.length:Int) < 2:=by omega
   simp only [dP y1,bC,if_false,if_neg q2]
   grind [aK]
 simp_all [if_neg]
def aWO(z:List Int)(w:Int):Int:=z.getD w.toNat 0
theorem aSH{z:List Int}(hz:aET z){w:Int}(hw:0<=w/\w<=2):idx z w=some (aWO z w):=by
 have:=hz.1
 grind [gT,aWO]
def SL(l:List dE)(k:Int):dE:=l.getD k.toNat ⟨0,0⟩
theorem XQ{l:List dE}{k:Int}(h:0<=k/\k < l.length):idx l k=some (SL l k):=by
 grind [gT,SL]
def QN(l:List dE)(s:Sub):Prop:=0<=s.Row/\s.Row < l.length/\(SL l s.Row).Handle=s.H
instance (l:List dE) (s:Sub):Decidable (QN l s):=by unfold QN;infer_instance
def aFC(b:aB)(w:Int)(s:Sub):aB×Sub:=
 if s.Pc=0 then (b,{s with Pc:=1,E:=b.aH.aM,Row:=0})
 else if s.Pc=1 then
  if HA (AJ b.bJ w) s.E s.Row.toNat < (AJ b.bJ w).length then (b,{s with Pc:=2,Row:=(HA (AJ b.bJ w) s.E s.Row.toNat:Int),B:=0,H:=(SL (AJ b.bJ w) (HA (AJ b.bJ w) s.E s.Row.toNat:Int)).Handle})
  else (b,MN s 0)
 else if s.Pc=2 then
  if (0<=s.B/\s.B<=2)/\QN (AJ b.bJ w) s then
   if aWO b.A4 s.B=s.H then (b,{s with Pc:=1,Row:=s.Row+1}) else (b,{s with Pc:=if s.B=2 then 3 else 2,B:=s.B+1})
  else (b,MN s 1)
 else if s.Pc=3 then
  if QN (AJ b.bJ w) s/\QM (SL (AJ b.bJ w) s.Row) s.E then ({b with Mem:=aQ4 b.Mem w s.H,bJ:=b.bJ.set w.toNat ⟨(AJ b.bJ w).eraseIdx s.Row.toNat⟩},{s with Pc:=1,Out:=aX (s.Out+1)})
  else (b,MN s 1)
 else (b,MN s 1)
theorem aMD{l:List bB}(hl:qE l){w:Int}(hw:0<=w/\w<=2){r:dE}(hr:r∈AJ l w):r∈cC l:=by
 have h:=PB hl hw
 have h3:=hl.1
 rw [gT hw.1 (by omega)] at h
 injection h with h
 exact aHC.2 ⟨l[w.toNat],dC _,by grind⟩
theorem aWP{l:List dE}{k:Int}(h:0<=k/\k < l.length):SL l k∈l:=by
 have:=XQ h
 grind [gT]
theorem aME{b:aB}(hb:sB b){w:Int}(hw:0<=w/\w<=2)(s:Sub):rX b w s=some (aFC b w s):=by
 have hL:=hb.1.2.2.1
 have hm:=hb.1.1
 have hx:=PB hL hw
 have hrow:=aH8 hL hw
 have hfl:=fun r hr=>aMD hL hw (r:=r) hr
 unfold rX aFC
 rw [hx]
 simp only [aG,bE]
 generalize AJ b.bJ w=l at *
 by_cases p0:s.Pc=0
 ·grind
 have p0':(s.Pc == 0)=false:=by grind
 simp only [p0',bC,if_false,if_neg p0]
 by_cases p1:s.Pc=1
 ·have p1':(s.Pc == 1)=true:=by grind
  simp only [p1',if_true,if_pos p1,aWN (show l.length<=1000 by omega),aG]
  by_cases q:HA l s.E s.Row.toNat < l.length
  ·have n:¬(HA l s.E s.Row.toNat:Int) < 0:=by omega
   simp only [if_pos q,dP n,bC,if_false,XQ (l:=l) (k:=(HA l s.E s.Row.toNat:Int)) (by omega),aG]
  ·simp only [if_neg q,b9 (show(-1:Int) < 0 by omega),if_true];rfl
 have p1':(s.Pc == 1)=false:=by grind
 simp only [p1',bC,if_false,if_neg p1]
 have el:aX ((l.length:Int) - 1)=(l.length:Int) - 1:=aL (by omega) (by omega)
 by_cases p2:s.Pc=2
 ·have p2':(s.Pc == 2)=true:=by grind
  simp only [p2',if_true,if_pos p2,cE,el,aG,eO,qZ,bE]
  by_cases hB:0<=s.B/\s.B<=2
  ·simp only [b9 hB,gY,bC,if_false]
   by_cases hR:0<=s.Row/\s.Row<=(l.length:Int) - 1
   ·simp only [b9 hR,gY,bC,if_false,XQ (l:=l) (k:=s.Row) (by omega),aG]
    by_cases hH:(SL l s.Row).Handle=s.H
    ·have hH':((SL l s.Row).Handle != s.H)=false:=by grind
     have ha:(0<=s.B/\s.B<=2)/\QN l s:=⟨hB,hR.1,by omega,hH⟩
     have e1:aX (s.B+1)=s.B+1:=aL (by omega) (by omega)
     have e2:aX (s.Row+1)=s.Row+1:=aL (by omega) (by omega)
     simp only [hH',bC,if_false,if_pos ha,aSH hb.1.2.2.2 hB,aG,e1,e2]
     grind
    ·have hH':((SL l s.Row).Handle != s.H)=true:=by grind
     have ha:¬((0<=s.B/\s.B<=2)/\QN l s):=fun h=>hH h.2.2.2
     simp only [hH',if_true,if_neg ha,aG];rfl
   ·have ha:¬((0<=s.B/\s.B<=2)/\QN l s):=fun h=>hR ⟨h.2.1,by have:=h.2.2.1;omega⟩
    simp only [dP hR,HB,if_true,if_neg ha,aG];rfl
  ·have ha:¬((0<=s.B/\s.B<=2)/\QN l s):=fun h=>hB h.1
   simp only [dP hB,HB,if_true,if_neg ha,aG];rfl
 have p2':(s.Pc == 2)=false:=by grind
 simp only [p2',bC,if_false,if_neg p2]
 by_cases p3:s.Pc=3
 ·have p3':(s.Pc == 3)=true:=by grind
  simp only [p3',if_true,if_pos p3,cE,el,aG,eP,AG,bE]
  by_cases hR:0<=s.Row/\s.Row<=(l.length:Int) - 1
  ·simp only [b9 hR,gY,bC,if_false,XQ (l:=l) (k:=s.Row) (by omega),aG]
   by_cases hH:(SL l s.Row).Handle=s.H
   ·have hH':((SL l s.Row).Handle != s.H)=false:=by grind
    simp only [hH',bC,if_false,aFA,aG]
    by_cases hr:QM (SL l s.Row) s.E
    ·have ha:QN l s/\QM (SL l s.Row) s.E:=⟨⟨hR.1,by omega,hH⟩,hr⟩
     have e2:aX (s.Row+1)=s.Row+1:=aL (by omega) (by omega)
     have hlive:=(hb.2 _ (hfl _ (aWP (l:=l) (k:=s.Row) (by omega)))).1
     rw [hH] at hlive
     have et:(s.Row+1).toNat=s.Row.toNat+1:=by omega
     simp only [b9 hr,gY,bC,if_false,if_pos ha,e2,gL,if_pos hlive.1,aG,aFB hm hw hlive,et]
     grind [aK,del_eq]
    ·have ha:¬(QN l s/\QM (SL l s.Row) s.E):=fun h=>hr h.2
     simp only [dP hr,HB,if_true,if_neg ha,aG];rfl
   ·have hH':((SL l s.Row).Handle != s.H)=true:=by grind
    have ha:¬(QN l s/\QM (SL l s.Row) s.E):=fun h=>hH h.1.2.2
    simp only [hH',if_true,if_neg ha,aG];rfl
  ·have ha:¬(QN l s/\QM (SL l s.Row) s.E):=fun h=>hR ⟨h.1.1,by have:=h.1.2.1;omega⟩
   simp only [dP hR,HB,if_true,if_neg ha,aG];rfl
 ·have p3':(s.Pc == 3)=false:=by grind
  simp only [p3',bC,if_false,if_neg p3];rfl
def DW(b:aB)(w:Int)(s:Sub):aB×Sub:=
 if s.dJ then (b,s) else if s.Kind=1 then aOU b w s else if s.Kind=2 then aJ4 b w s else if s.Kind=3 then aE9 b s else if s.Kind=4 then aFC b w s else if s.Kind=5 then a2P b w s else (b,MN s 1)
theorem aQ5{b:aB}(hb:sB b){w:Int}(hw:0<=w/\w<=2)(s:Sub):OS b w s=some (DW b w s):=by
 unfold OS DW
 rw [aSF hb.1.1 hw,aOV hb hw,aMC hb.1.2.1,aME hb hw,aZN hb.1.2.1 hw]
 simp only [aG,bE]
 cases s.dJ
 ·simp only [bC,if_false,beq_iff_eq]
  split <;> (try rfl)
  split <;> (try rfl)
  split <;> (try rfl)
  split <;> (try rfl)
  split <;> rfl
 ·rfl
theorem aZO{b:aB}(hb:sB b){w:Int}(hw:0<=w/\w<=2)(s:Sub):sB (DW b w s).1:=by
 obtain⟨x,y,e1,_,h⟩:=step_eq hb hb.small hw s
 grind [aQ5]
end Go.Gv
end
noncomputable section
namespace Go.Gv
theorem aB6{b:List Int}{a:Nat}{n:Int}(h:a+4<=b.length){j:Nat}(hj:j < a\/a+4<=j):bt (MK b a n) j=bt b j:=by
 unfold MK
 rw [MM (by simp;omega),MM (by simp;omega),MM (by simp;omega),MM (by omega),if_neg (by omega),if_neg (by omega),if_neg (by omega),if_neg (by omega)]
theorem UL.put{h:Heap}(hh:UL h){s:Int}(hc:0<=bR h s){n:Int}(hn:0<=n/\n<=4294967295) :
  UL ⟨MK h.Bytes ((iP s (bR h s)).toNat+4) n,h.Class⟩/\∀t,0<=bR h t->lY ⟨MK h.Bytes ((iP s (bR h s)).toNat+4) n,h.Class⟩ t=lY h t:=by
 obtain⟨hs,hp⟩:=hh
 have h384:=hs.1
 have hs':eM ⟨MK h.Bytes ((iP s (bR h s)).toNat+4) n,h.Class⟩:=⟨by grind [XJ],hs.2.1,aR8 hs.2.2.1 _ hn,hs.2.2.2⟩
 obtain⟨p,i,p6,hi,es,ec,eo,ep⟩:=FP hc
 have hcl:0<=b8 h p/\b8 h p<=2:=uY.1 (by omega)
 have hroom:8+i * (aY (b8 h p)).toNat+8<=64/\∀j,j < (cX (b8 h p)).toNat->j * (aY (b8 h p)).toNat+4<=i * (aY (b8 h p)).toNat+4\/i * (aY (b8 h p)).toNat+12<=j * (aY (b8 h p)).toNat:=by
  grind [cX,aY]
 have hgen:∀q j,q < 6->j < (cX (b8 h q)).toNat->ld (MK h.Bytes ((iP s (bR h s)).toNat+4) n) (q * 64+8+j * (aY (b8 h q)).toNat) 4=ld h.Bytes (q * 64+8+j * (aY (b8 h q)).toNat) 4:=fun q j hq hj=>by
  have hz:=sM hs hq rfl hj
  refine O9 (by omega) (by grind [XJ]) fun k k1 k2=>?_
  by_cases e:q=p
  ·grind [aB6]
  grind [aB6]
 refine⟨⟨hs',fun q hq=>?_⟩,fun t ht=>?_⟩
 ·rw [FO hs' hq]
  have hold:=(FO hs hq).1 (hp q hq)
  by_cases e:q=p
  ·subst e
   have hcl':¬b8 h q < 0:=by omega
   unfold XL at hold ⊢
   have hcc:b8 ⟨MK h.Bytes ((iP s (bR h s)).toNat+4) n,h.Class⟩ q=b8 h q:=rfl
   rw [hcc]
   rw [if_neg hcl'] at hold ⊢
   obtain⟨⟨a1,a2,a3⟩,a4,a5⟩:=hold
   have bs:∀k,k < 8->bt (MK h.Bytes ((iP s (bR h s)).toNat+4) n) (q * 64+k)=bt h.Bytes (q * 64+k):=fun k hk=>aB6 (by omega) (by omega)
   have b0:=bs 0 (by omega);grind
  ·refine XL.same hq hs (by grind [XJ]) rfl (fun k hk=>aB6 (by omega) (by omega)) hold
 ·obtain⟨p',i',p6',hi',es',ec',eo',ep'⟩:=FP ht
  have e2:bR ⟨MK h.Bytes ((iP s (bR h s)).toNat+4) n,h.Class⟩ t=bR h t:=rfl
  grind [lY]
theorem pY.put{m:Mem}(hm:pY m){s:Int}(hc:0<=bR m.Heap s){n:Int}(hn:0<=n/\n<=4294967295):vA m ⟨⟨MK m.Heap.Bytes ((iP s (bR m.Heap s)).toNat+4) n,m.Heap.Class⟩,m.aA⟩ (-1):=by
 obtain⟨a,b⟩:=UL.put hm.1.1 hc hn
 refine⟨pY.heap hm a fun x hx=>⟨rfl,b x (pY.SK hm hx).1⟩,fun t ht _=>?_⟩
 have ht':=pZ.1 ht
 have e:=b t ht'.1
 exact⟨pZ.2 ⟨ht'.1,ht'.2.1,by grind⟩,e,rfl⟩
theorem start_eq{h:Heap}(hs:eM h){s:Int}(hc:0<=bR h s):WT s (bR h s)=some (iP s (bR h s)+4)/\HV s (bR h s)=some (iP s (bR h s)+4):=by
 have hg:=S5 hc
 unfold WT HV
 rw [sL,yH,aG,if_neg (by simp;omega),aL (by omega) (by omega)]
 simp
end Go.Gv
end
noncomputable section
namespace Go.Gv
theorem hb0(x:Int):(x == 0)=decide (x=0):=by grind
theorem PC(h:Int):vY h=some (decide (kT h)):=by
 grind [vY,zF,kT,iM]
theorem XR(h:Int):FD h=some (decide (kT h)):=by
 grind [FD,CL,kT,iN]
end Go.Gv
end
noncomputable section
namespace Go.Gv
theorem aMF{c:aH}(hc:QU c){w:Int}(hw:0<=w/\w<=2):∃r,OT c w=some r/\OK c w=some r/\QU r.1/\r.1.aM=c.aM:=by
 obtain⟨p,hp,hpk⟩:=aOJ hc hw
 unfold OT OK
 rw [lQ hc.small.1,EX hc.small.1,hQ,zO hc.small.2,lR,cE,b9 hc,b9 hw]
 simp only [aG,gY,bC,if_false,hp,yF,xR]
 cases p.On with
 | true =>
  simp only [gY,bC,if_false]
  have h0:=hc.1
  exact⟨_,rfl,rfl,hc.aJY ⟨by grind,by simp,fun _=>rfl⟩,rfl⟩
 | false=>simp_all
theorem aET.set{z:List Int}(hz:aET z)(k:Nat){h:Int}(hh:kT h):aET (z.set k h):=⟨by simpa using hz.1,fun q hq=>(sQ hq).elim (hz.2 q) (fun e=>e ▸ hh)⟩
theorem sB.clock{b:aB}(hb:sB b){cl:aH}(h:QU cl)(e:b.aH.aM<=cl.aM):sB ⟨b.Mem,cl,b.bJ,b.A4⟩:=⟨⟨hb.1.1,h,hb.1.2.2⟩,fun r hr=>⟨(hb.2 r hr).1,Int.le_trans (hb.2 r hr).2 e⟩⟩
theorem sB.mem{b:aB}(hb:sB b){m:Mem}(h:vA b.Mem m (-1)):sB ⟨m,b.aH,b.bJ,b.A4⟩:=⟨⟨h.1,hb.1.2⟩,fun r hr=>⟨h.live (hb.2 r hr).1 (by omega),(hb.2 r hr).2⟩⟩
end Go.Gv
end
noncomputable section
namespace Go.Gv
def aOW(kind a:Int):Sub:=⟨kind,a,0,0,0,0,0,0,0,false⟩
end Go.Gv
end
noncomputable section
namespace Go.Gv
def tL:List Int->Nat->List UInt8->List Int
 | b,_,[]=>b
 | b,a,c :: t=>tL (b.set a (c.toNat:Int)) (a+1) t
theorem SM:∀(t:List UInt8) (b:List Int) (a:Nat),(tL b a t).length=b.length
 | [],b,a=>rfl
 | c :: t,b,a=>by rw [tL,SM];simp
theorem aH9:∀(t:List UInt8) {b:List Int} (a:Nat),pX b->pX (tL b a t)
 | [],b,a,h=>h
 | c :: t,b,a,h=>aH9 t (a+1) (aL8 a h ⟨by omega,by have:=c.toNat_lt;omega⟩)
theorem XS:∀(t:List UInt8) {b:List Int} {a:Nat},a+t.length<=b.length->∀{j:Nat},(j < a\/a+t.length<=j)->bt (tL b a t) j=bt b j
 | [],b,a,h,j,hj=>rfl
 | c :: t, b, a, h, j, hj => by
  simp only [GU] at h hj
  rw [tL,XS t (by simp;omega) (by omega),MM (by omega),if_neg (by omega)]
theorem ZN(b:List Int)(a:Nat)(t:List UInt8)(hl:b.length<=100000)(h:a+t.length<=b.length):∀(r:List UInt8) (k:Nat) (c:List Int),c.length=b.length->t.drop k=r->k+r.length=t.length->loop (j6 b (a:Int) t) (c,(k:Int))=some (tL c (a+k) r)
 | [], k, c, hc, hr, hk => by
  refine bG ?_
  simp only [j6]
  rw [aK hc,if_neg (by grind)];rfl
 | x :: r, k, c, hc, hr, hk => by
  simp only [GU] at hk
  have hkt:k < t.length:=by omega
  have e:=IJ hkt
  rw [hr] at e
  injection e with e1 e2
  have st:j6 b (a:Int) t (c,(k:Int))=some (.next (c.set (a+k) (x.toNat:Int),((k+1:Nat):Int))):=by
   simp only [j6]
   rw [aK hc,if_pos (by simp;omega),aP hkt,aG,aL (x:=(a:Int)+k) (by omega) (by omega),show(a:Int)+k=((a+k:Nat):Int) by omega,aP (by omega),aG,aL (by omega) (by omega),<-e1];rfl
  rw [bQ st,ZN b a t hl h r (k+1) _ (by grind) e2.symm (by omega),tL];rfl
theorem aIA{b:List Int}{a:Nat}{t:List UInt8}(hl:b.length<=100000)(h:a+t.length<=b.length):lO b (a:Int) t=some (tL b a t):=by
 unfold lO
 rw [show(0:Int)=((0:Nat):Int) from rfl,ZN b a t hl h t 0 b rfl rfl (by omega),aG]
 grind [IZ,IY,aK,SM]
theorem UL.tL{h:Heap}(hh:UL h){s:Int}(hc:0<=bR h s){o:Nat}{t:List UInt8}(ht:((o+t.length:Nat):Int)<=mK (bR h s)) :
  UL ⟨Gv.tL h.Bytes ((iP s (bR h s)).toNat+4+o) t,h.Class⟩/\∀u,0<=bR h u->lY ⟨Gv.tL h.Bytes ((iP s (bR h s)).toNat+4+o) t,h.Class⟩ u=lY h u:=by
 obtain⟨hs,hp⟩:=hh
 have h384:=hs.1
 have hs':eM ⟨Gv.tL h.Bytes ((iP s (bR h s)).toNat+4+o) t,h.Class⟩:=⟨by grind [SM],hs.2.1,aH9 _ _ hs.2.2.1,hs.2.2.2⟩
 obtain⟨p,i,p6,hi,es,ec,eo,ep⟩:=FP hc
 have hcl:0<=b8 h p/\b8 h p<=2:=uY.1 (by omega)
 rw [ec] at ht
 have hroom:8+i * (aY (b8 h p)).toNat+4+(mK (b8 h p)).toNat<=64/\∀j,j < (cX (b8 h p)).toNat->j * (aY (b8 h p)).toNat+4<=i * (aY (b8 h p)).toNat+4\/i * (aY (b8 h p)).toNat+4+(mK (b8 h p)).toNat<=j * (aY (b8 h p)).toNat:=by
  grind [cX,aY,mK]
 have hot:o+t.length<=(mK (b8 h p)).toNat:=by omega
 have hgen:∀q j,q < 6->j < (cX (b8 h q)).toNat->ld (Gv.tL h.Bytes ((iP s (bR h s)).toNat+4+o) t) (q * 64+8+j * (aY (b8 h q)).toNat) 4=ld h.Bytes (q * 64+8+j * (aY (b8 h q)).toNat) 4:=fun q j hq hj=>by
  have hz:=sM hs hq rfl hj
  refine O9 (by omega) (by grind [SM]) fun k k1 k2=>?_
  by_cases e:q=p
  ·subst e
   have:=hroom.2 j hj
   exact XS _ (by omega) (by omega)
  ·exact XS _ (by omega) (by omega)
 refine⟨⟨hs',fun q hq=>?_⟩,fun u hu=>?_⟩
 ·rw [FO hs' hq]
  have hold:=(FO hs hq).1 (hp q hq)
  by_cases e:q=p
  ·subst e
   have hcl':¬b8 h q < 0:=by omega
   unfold XL at hold ⊢
   have hcc:b8 ⟨Gv.tL h.Bytes ((iP s (bR h s)).toNat+4+o) t,h.Class⟩ q=b8 h q:=rfl
   rw [hcc]
   rw [if_neg hcl'] at hold ⊢
   obtain⟨⟨a1,a2,a3⟩,a4,a5⟩:=hold
   have bs:∀k,k < 8->bt (Gv.tL h.Bytes ((iP s (bR h s)).toNat+4+o) t) (q * 64+k)=bt h.Bytes (q * 64+k):=fun k hk=>XS _ (by omega) (by omega)
   have b0:=bs 0 (by omega);grind
  ·refine XL.same hq hs (by grind [SM]) rfl (fun k hk=>XS _ (by omega) (by omega)) hold
 ·obtain⟨p',i',p6',hi',es',ec',eo',ep'⟩:=FP hu
  have e2:bR ⟨Gv.tL h.Bytes ((iP s (bR h s)).toNat+4+o) t,h.Class⟩ u=bR h u:=rfl
  grind [lY]
theorem pY.tL{m:Mem}(hm:pY m){s:Int}(hc:0<=bR m.Heap s){o:Nat}{t:List UInt8}(ht:((o+t.length:Nat):Int)<=mK (bR m.Heap s)):vA m ⟨⟨Gv.tL m.Heap.Bytes ((iP s (bR m.Heap s)).toNat+4+o) t,m.Heap.Class⟩,m.aA⟩ (-1):=by
 obtain⟨a,b⟩:=UL.tL hm.1.1 hc ht
 refine⟨pY.heap hm a fun x hx=>⟨rfl,b x (pY.SK hm hx).1⟩,fun t ht _=>?_⟩
 have ht':=pZ.1 ht
 have e:=b t ht'.1
 exact⟨pZ.2 ⟨ht'.1,ht'.2.1,by grind⟩,e,rfl⟩
def aMG:bP:=⟨0,0,0⟩
def VI(h:Heap)(s:Int):Nat:=(iP s (bR h s)).toNat+4
def a2Q(h:Heap)(s:Int):bP:=⟨ld h.Bytes (VI h s) 2,ld h.Bytes (VI h s+2) 4,ld h.Bytes (VI h s+6) 4⟩
def TQ(h:Heap)(x:Int):bP:=if lZ x/\0<=bR h (x % 32)/\10<=mK (bR h (x % 32)) then a2Q h (x % 32) else aMG
theorem Y3{h:Heap}{s:Int}(hcl:0<=bR h s)(h10:10<=mK (bR h s)):VI h s+10<=384/\16<=mK (bR h s):=by
 grind [bR,VI,FP,mK,cX,aY]
theorem aFD{h:Heap}(hs:eM h)(s:Int):CG h s=some (decide (10<=mK (bR h s))):=by
 grind [CG,jF,R7]
theorem VJ{h:Heap}(hs:eM h){s:Int}(hc:0<=bR h s):vR h s=some (VI h s:Int):=by
 have:=S5 hc
 grind [vR,VI,jF,start_eq]
theorem aSI{h:Heap}(hs:eM h){s:Int}(hc:0<=bR h s)(h10:10<=mK (bR h s)):K1 h s=some (a2Q h s):=by
 have hr:=(Y3 hc h10).1
 have h1:=hs.1
 unfold K1 a2Q
 rw [VJ hs hc,aG,show(2:Int)=((2:Nat):Int) from rfl,show(4:Int)=((4:Nat):Int) from rfl,rY hs.2.2.1 (by omega) (by omega) (by omega),aG,
  aL (by omega) (by omega),show(VI h s:Int)+((2:Nat):Int)=((VI h s+2:Nat):Int) by omega,rY hs.2.2.1 (by omega) (by omega) (by omega),aG,
  aL (by omega) (by omega),show(VI h s:Int)+6=((VI h s+6:Nat):Int) by omega,rY hs.2.2.1 (by omega) (by omega) (by omega)];rfl
theorem aIB{m:Mem}(hm:pY m)(x:Int):∃c,FC m x=some (TQ m.Heap x,c):=by
 have hs:=hm.1.1.1
 unfold FC TQ
 rw [iN,aG]
 by_cases hh:lZ x
 ·rw [b9 hh,if_neg (by simp),(lZ.mod hh).1,jF hs,aG]
  unfold CH
  by_cases hc:bR m.Heap (x % 32) < 0
  ·rw [b9 hc,if_pos rfl,if_neg (by omega)];exact⟨_,rfl⟩
  ·rw [dP hc,if_neg (by simp),(lZ.mod hh).1,aFD hs,aG]
   by_cases h10:10<=mK (bR m.Heap (x % 32))
   ·simp_all [aSI]
   ·rw [dP h10,if_pos (by rfl),if_neg (by omega)];exact⟨_,rfl⟩
 ·rw [dP hh,if_pos (by rfl),if_neg (fun q=>hh q.1)];exact⟨_,rfl⟩
def Y4(n:bP):Int:=if lZ n.Next then n.Next else 0
theorem aJ5(n:bP):fW n=some (Y4 n):=by
 unfold fW Y4
 rw [iN,aG]
 grind
theorem Y5(n:bP):kT (Y4 n):=by
 unfold Y4;split
 ·exact .inr (by assumption)
 ·exact .inl rfl
def aMH(m:Mem)(x:Int):Prop:=oH m x/\10<=mK (bR m.Heap (x % 32))
instance (m:Mem) (x:Int):Decidable (aMH m x):=by unfold aMH;infer_instance
theorem ZO{m:Mem}(hm:pY m)(x:Int):∃c,xQ m x=some c/\(c=0↔aMH m x):=by
 obtain⟨hcnt,h3,h9,h1,h2,hsm,hcp,hlo,hsG,hsO⟩:=pY.facts hm
 have hs:=hm.1.1.1
 unfold xQ aMH
 rw [JW hs (by omega) (by rw [h3];simp [maxLen]) (by rw [h9];simp [maxLen]),aG]
 by_cases hl:oH m x
 ·rw [b9 hl,if_neg (by simp),(lZ.mod hl.1).1,aFD hs,aG]
  by_cases h10:10<=mK (bR m.Heap (x % 32))
  ·rw [b9 h10,if_neg (by simp)];exact⟨_,rfl,by simp [hl,h10]⟩
  ·rw [dP h10,if_pos (by rfl)];exact⟨_,rfl,by simp [hl,h10]⟩
 simp_all
def aFE(n:Int):List UInt8:=[u8 (n / 256),u8 n]
theorem aOX{n:Int}(hn:0<=n/\n<=65535):kM n 2=some (aFE n):=by
 have hw:vL 2=some true:=by grind [vL,eH]
 unfold kM
 rw [hw]
 have e1:IntKind.u64.wrap (aX (8 * 2))=16:=by decide
 have e2:aCK .i64 1 16=65536:=by decide
 simp only [aG,gY,bC,if_false,e1,e2]
 rw [if_neg (by simp;omega),aK (by omega),dP (by omega)]
 simp only [sE,bC,if_false]
 rw [aK (by omega),show aX (2 - 1)=((1:Nat):Int) from by grind [aL]]
 have st:∀(m:Int) (c:List UInt8) (i:Nat),i < c.length->i < 4->0<=m->nY (m,c,(i:Int))=some (.next (m / 256,c.set i (u8 m),(i:Int) - 1)):=fun m c i hc hi h0=>by
  simp only [nY]
  rw [if_pos (by simp),aP hc,aG,show(8:Int)=((8:Nat):Int) from rfl,aQW h0 (by omega),aL (by omega) (by omega),JZ];rfl
 rw [bQ (st n _ 1 (by simp) (by omega) hn.1),show((1:Nat):Int) - 1=((0:Nat):Int) by rfl,
  bQ (st _ _ 0 (by simp) (by omega) (by omega)),bG (r:=aFE n)]
 ·rfl
 ·simp only [nY]
  rw [if_neg (by simp)]
  rfl
def a4K(n:bP):List UInt8:=aFE n.Key++DQ n.dO++DQ n.Next
def aSJ(n:bP):Prop:=(0<=n.Key/\n.Key<=99)/\(0<=n.dO/\n.dO<=65535)/\kT n.Next
instance (n:bP):Decidable (aSJ n):=by unfold aSJ;infer_instance
theorem aSK(n:bP):K3 n=some (decide (aSJ n)):=by
 grind [K3,aSJ,eH,XR,uE]
theorem aMI{x:Int}(h:kT x):0<=x/\x<=223:=by
 rcases h with h | h
 ·omega
 ·have:=h.1;omega
def aMJ(m:Mem)(x:Int)(n:bP):Mem:=if aSJ n/\aMH m x then ⟨⟨tL m.Heap.Bytes (VI m.Heap (x % 32)) (a4K n),m.Heap.Class⟩,m.aA⟩ else m
theorem aOY{m:Mem}(hm:pY m)(x:Int)(n:bP):∃c,HY m x n=some (aMJ m x n,c):=by
 obtain⟨hcnt,h3,h9,h1,h2,hsm,hcp,hlo,hsG,hsO⟩:=pY.facts hm
 have hs:=hm.1.1.1
 have hbl:m.Heap.Bytes.length<=maxLen:=by grind [maxLen]
 unfold HY aMJ
 rw [SH hsm,aG,MH hbl (by omega),b9 hm,aG,if_neg (by simp),aSK,aG]
 unfold y6
 by_cases hn:aSJ n
 ·rw [b9 hn,if_neg (by simp)]
  obtain⟨c,e,hc⟩:=ZO hm x
  rw [e,aG]
  by_cases hw:aMH m x
  ·have hcl:=lP hw.1.2.1
   have hr:=(Y3 hcl hw.2).1
   have hnx:=aMI hn.2.2
   have hk1:=hn.1.2
   have hv1:=hn.2.1.2
   obtain rfl:=hc.2 hw
   rw [if_pos (by rfl),(lZ.mod hw.1.1).1,VJ hs hcl,aG,aOX ⟨hn.1.1,by omega⟩,aG,O8 ⟨hn.2.1.1,by omega⟩,aG,aK (by simp [aFE,DQ]),
    O8 ⟨hnx.1,by omega⟩,aG,aK (by simp [aFE,DQ]),aIA (by omega) (by grind [aFE,DQ]),aG,if_pos ⟨hn,hw⟩]
   exact⟨_,rfl⟩
  ·rw [if_neg (by grind),if_neg (fun q=>hw q.2)];exact⟨_,rfl⟩
 simp_all
def aMK(m:Mem)(x y:Int):Mem:=if kT y/\aMH m x then ⟨⟨tL m.Heap.Bytes (VI m.Heap (x % 32)+6) (DQ y),m.Heap.Class⟩,m.aA⟩ else m
theorem aSL{m:Mem}(hm:pY m)(x y:Int):∃c,K2 m x y=some (Gv.aMK m x y,c):=by
 obtain⟨hcnt,h3,h9,h1,h2,hsm,hcp,hlo,hsG,hsO⟩:=pY.facts hm
 have hs:=hm.1.1.1
 have hbl:m.Heap.Bytes.length<=maxLen:=by grind [maxLen]
 unfold K2 Gv.aMK
 rw [SH hsm,aG,MH hbl (by omega),b9 hm,aG,if_neg (by simp),XR,aG]
 unfold CM
 by_cases hn:kT y
 ·rw [b9 hn,if_neg (by simp)]
  obtain⟨c,e,hc⟩:=ZO hm x
  rw [e,aG]
  by_cases hw:aMH m x
  ·have hcl:=lP hw.1.2.1
   have hr:=(Y3 hcl hw.2).1
   have hnx:=aMI hn
   obtain rfl:=hc.2 hw
   rw [if_pos (by rfl),(lZ.mod hw.1.1).1,VJ hs hcl,aG,O8 ⟨hnx.1,by omega⟩,aG,aL (by omega) (by omega),show(VI m.Heap (x % 32):Int)+6=((VI m.Heap (x % 32)+6:Nat):Int) by omega,
    aIA (by omega) (by grind [DQ]),aG,if_pos ⟨hn,hw⟩]
   exact⟨_,rfl⟩
  ·rw [if_neg (by grind),if_neg (fun q=>hw q.2)];exact⟨_,rfl⟩
 simp_all
theorem aWQ{m:Mem}(hm:pY m)(x:Int)(n:bP):vA m (aMJ m x n) (-1):=by
 unfold aMJ;split
 ·rename_i h
  have:=Y3 (lP h.2.1.2.1) h.2.2
  exact pY.tL hm (lP h.2.1.2.1) (o:=0) (by grind [a4K,aFE,DQ])
 ·exact⟨hm,fun s h _=>⟨h,rfl,rfl⟩⟩
theorem aWR{m:Mem}(hm:pY m)(x y:Int):vA m (Gv.aMK m x y) (-1):=by
 unfold Gv.aMK;split
 ·rename_i h
  have:=Y3 (lP h.2.1.2.1) h.2.2
  exact pY.tL hm (lP h.2.1.2.1) (o:=6) (by grind [DQ])
 ·exact⟨hm,fun s h _=>⟨h,rfl,rfl⟩⟩
end Go.Gv
end
noncomputable section
namespace Go.Gv
def aWS:Heap:=⟨List.replicate 384 0,[-1,-1,-1,-1,-1,-1]⟩
def a2R:aA:=⟨List.replicate 3 ⟨[]⟩,List.replicate 9 ⟨[]⟩⟩
def aQ6:aB:=⟨⟨aWS,a2R⟩,⟨0,List.replicate 3 ⟨false,0,false,0⟩⟩,List.replicate 3 ⟨[]⟩,List.replicate 3 0⟩
theorem aBH:HF=some aWS:=by
 unfold HF
 have key:loop rE (0,[])=some (List.replicate 6 (-1)):=gR (f:=rE) 6 (fun k=>((k:Int),List.replicate k (-1))) _ (fun k hk=>by
  simp only [rE]
  rw [if_pos (by simp;omega),aK (by simp;omega),aL (by omega) (by omega),List.replicate_succ'];rfl) (by simp [rE])
 rw [aK (by omega),key];rfl
theorem a2S:tC [-1] 6=some [-1,-1,-1,-1,-1,-1]:=by
 unfold tC
 rw [if_neg (by simp),show LQ (IntKind.u64.wrap (([-1]:List Int).length:Int)) (IntKind.u64.wrap 6)=some (0,6) by kernel_rfl]
 simp only [aG]
 rw [if_neg (by simp),dP (by omega)]
 simp only [nJ,bC,if_false]
 rw [show IntKind.i64.wrap 6=6 from wrap_i64 (by omega) (by omega),aK (by omega),
  show(cM (List.replicate (Int.toNat 6) 0) 0 [-1],((min ([-1]:List Int).length ((List.replicate (Int.toNat 6) (0:Int)).length - 0):Nat):Int))=([-1,0,0,0,0,0],1) by kernel_rfl,
  bQ (body:=j4) (s':=([-1,-1,0,0,0,0],2)) (by kernel_rfl),bQ (body:=j4) (s':=([-1,-1,-1,-1,0,0],4)) (by kernel_rfl),
  bQ (body:=j4) (s':=([-1,-1,-1,-1,-1,-1],6)) (by kernel_rfl),bG (body:=j4) (r:=[-1,-1,-1,-1,-1,-1]) (by kernel_rfl)]
 rfl
theorem aBI:HK=some aWS:=by
 unfold HK
 rw [aK (by omega),a2S];rfl
theorem aFF:HH=some aQ6/\HL=some aQ6:=by
 unfold HH HL RB RF LN LR LO LS LP LU RC RG
 rw [aBH,aBI,aK (by omega),aK (by omega),aK (by omega),aK (by omega),aK (by omega)]
 exact⟨rfl,rfl⟩
theorem aWT:sB aQ6:=of_decide_eq_true (by kernel_rfl)
end Go.Gv
end
noncomputable section
namespace Go.Gv
def AK{α:Type}(o:Option α)(Q:α->Prop):Prop:=∃x,o=some x/\Q x
abbrev a0R{σ ρ:Type}(I:σ->Prop)(Q:ρ->Prop):Step σ ρ->Prop
 | .next s=>I s
 | .stop r=>Q r
namespace AK
variable {α β σ ρ:Type} {Q:α->Prop}
theorem ret{x:α}(h:Q x):AK (some x) Q:=⟨x,rfl,h⟩
theorem bind{P:β->Prop}{o:Option β}{f:β->Option α}(h:AK o P)(hf:∀x,P x->AK (f x) Q):AK (o.bind f) Q:=by
 obtain⟨x,e,hx⟩:=h
 grind
theorem need{p:Prop}[Decidable p]{k:Option α}(h:p)(hk:AK k Q):AK (Gv.need p k) Q:=by grind [aK]
theorem ite{c:Prop}[Decidable c]{a b:Option α}(h1:c->AK a Q)(h2:¬c->AK b Q):AK (if c then a else b) Q:=by
 grind
theorem mono{P:α->Prop}{o:Option α}(h:AK o P)(hf:∀x,P x->Q x):AK o Q:=by obtain⟨x,e,hx⟩:=h;exact⟨x,e,hf x hx⟩
theorem idx{l:List β}{i:Int}(h:0<=i/\i < l.length):AK (Gv.idx l i) (fun x=>x∈l):=⟨_,gT h.1 h.2,dC _⟩
theorem loop{Q:ρ->Prop}{f:σ->Option (Step σ ρ)}{s:σ}(μ:σ->Nat)(Inv:σ->Prop)(h0:Inv s)(hb:∀s,Inv s->AK (f s) (a0R (fun s'=>Inv s'/\μ s' < μ s) (fun r=>Q r))):AK (Gv.loop f s) Q:=by
 have key:∀n s,μ s < n->Inv s->AK (Gv.loop f s) Q:=by
  intro n
  induction n with
  | zero=>omega
  | succ n ih =>
   intro s h hs
   obtain⟨q,e,hq⟩:=hb s hs
   cases q with
   | next s'=>grind [bQ]
   | stop r=>rw [bG e];exact⟨r,rfl,hq⟩
 exact key _ s (Nat.lt_succ_self _) h0
theorem of{o:Option α}{x:α}(h:o=some x):AK o (fun y=>y=x):=⟨x,h,rfl⟩
end AK
def Cu(b:List UInt8)(i:Int):Prop:=(0<=i/\i<=b.length)/\b.length<=1048576
theorem aWU(x:Int):0<=gI .and .i64 x 255/\gI .and .i64 x 255<=255:=by
 have e:gI .and .i64 x 255=IntKind.i64.wrap ((BitVec.ofInt 64 x &&& BitVec.ofInt 64 255).toNat:Int):=rfl
 grind [Nat.and_le_right,wrap_i64]
noncomputable section
variable {b:List UInt8} {i h:Int} (hc:Cu b i)
include hc
theorem aML:AK (qC ⟨b,i,h⟩) (fun x=>(0<=x.1/\x.1<=255)/\Cu b x.2.1):=by
 unfold qC BC
 obtain⟨⟨a1,a2⟩,a3⟩:=hc
 refine .ite (fun q=>?_) (fun q=>?_)
 ·have q':=of_decide_eq_true q
  simp only at q'
  refine .bind (.idx ⟨a1,q'⟩) fun x _=>.ret ⟨aWU _,?_⟩
  grind [Cu,aL]
 ·exact .ret ⟨aWU _,⟨a1,a2⟩,a3⟩
theorem below{n:Int}(hn:n<=1000000):AK (eT ⟨b,i,h⟩ n) (fun x=>(0<=x.1/\(x.1 < n\/n<=0/\x.1=0))/\Cu b x.2.1):=by
 unfold eT
 refine .ite (fun q=>?_) (fun q=>?_)
 ·have q':=of_decide_eq_true q
  exact .ret ⟨by simp;omega,hc⟩
 ·have q0:0 < n:=by grind
  refine .ite (fun q=>?_) (fun q=>?_)
  ·refine .bind (aML hc) fun x ⟨hx,h1⟩=>.need (by omega) (.ret ⟨?_,h1⟩)
   simp only [NV hx.1]
   exact⟨Int.emod_nonneg _ (by omega),.inl (Int.emod_lt_of_pos _ q0)⟩
  ·refine .bind (aML hc) fun x ⟨hx,h1⟩=>.bind (aML h1) fun y ⟨hy,h2⟩=>.bind (aML h2) fun z ⟨hz,h3⟩=>.bind (aML h3) fun w ⟨hw,h4⟩=>.need (by omega) (.ret ⟨?_,h4⟩)
   have e:aX (aX (aX (aX (x.1 * 16777216)+aX (y.1 * 65536))+aX (z.1 * 256))+w.1)=x.1 * 16777216+y.1 * 65536+z.1 * 256+w.1:=by
    grind [aL]
   simp only [e]
   rw [NV (by omega)]
   exact⟨Int.emod_nonneg _ (by omega),.inl (Int.emod_lt_of_pos _ q0)⟩
theorem a4L{n:Int}(hn:n<=1000000):AK (Q9 ⟨b,i,h⟩ n) (fun x=>Cu b x.2.1):=
 .bind (below hc hn) fun _ ⟨_,h1⟩=>.ret h1
theorem aIC{l:List Int}(hl:0 < l.length)(hl2:l.length<=1000):AK (l7 ⟨b,i,h⟩ l) (fun x=>x.1∈l/\Cu b x.2.1):=
 .bind (below hc (by omega)) fun x ⟨hx,h1⟩=>.bind (.idx (by omega)) fun y hy=>.ret ⟨hy,h1⟩
end
theorem a55{code:List UInt8}(hl:code.length<=1048576):AK (OD code) (fun x=>Cu code x.1):=by
 unfold OD
 refine .bind (P:=fun _=>True) (.loop (fun s=>code.length - s.2.toNat) (fun s=>0<=s.2/\s.2<=code.length) ⟨by simp,by simp⟩ ?_) fun x _=>.ret ⟨⟨by simp,by simp⟩,hl⟩
 rintro⟨a,k⟩ ⟨h1,h2⟩
 simp only [T2,D9]
 simp only at h1 h2
 have nx:k < code.length->AK ((idx code k).bind fun x7=>some (Step.next (gI .and .i64 (aX ((aX ((aX (a * 131))+(x7.toNat:Int)))+7)) 1073741823,aX (k+1)))) (a0R (ρ:=Int) (fun s'=>(0<=s'.2/\s'.2<=code.length)/\code.length - s'.2.toNat < code.length - k.toNat) (fun r=>True)):=fun hk=>by
  refine .bind (.idx ⟨h1,hk⟩) fun x _=>.ret ?_
  grind [aL]
 refine .ite (fun q=>?_) (fun q=>?_)
 ·have q':=of_decide_eq_true q
  exact .ite (fun _=>nx q') (fun _=>.ret trivial)
 ·rw [if_neg (by simp)];exact .ret trivial
end Go.Gv
end
noncomputable section
namespace Go.Gv
theorem Y6{b:aB}(hb:sB b){w:Int}(hw:0<=w/\w<=2)(s:Sub):oA s b w=some ((DW b w s).2,(DW b w s).1):=by
 obtain⟨x,y,e1,e2,h⟩:=step_eq hb hb.small hw s
 grind [aQ5]
end Go.Gv
end
noncomputable section
namespace Go.Gv
def kU:aE:=⟨false,⟨false,[]⟩,0,0,0,0,0,0,0,0,aMG,false,0,⟨0,0,0,0,0,0,0,0,0,false⟩,[],[],[],[],[],[]⟩
def mP(k:List bT)(i:Int):bT:=k.getD i.toNat ⟨0,0,0⟩
def VK(j:aE)(c:Int):aE:={j with Pc:=16,Code:=c}
def aBJ(a b:Int):Int:=Int.tmod (aX (a+b)) 65536
def KA(j:aE)(x:aU):Bool×aE:=if 6 < (aEY j.aJ x).length then (false,VK j 1) else (true,{j with aJ:=aEY j.aJ x})
def aJ6(j:aE)(is:Bool)(v:Int):aE:={j with eA:=j.eA ++ [⟨is,v⟩],Pc:=1,At:=j.At+1}
def aWV(j:aE)(c:iG)(v:Int):aE:=if (KA j ⟨c.Key,false,aBJ v c.dO⟩).1 then aJ6 (KA j ⟨c.Key,false,aBJ v c.dO⟩).2 true (aBJ v c.dO) else (KA j ⟨c.Key,false,aBJ v c.dO⟩).2
def aG4(j:aE)(c:iG)(v:Int)(is:Bool):aE:=if c.Kind=4 then aWV j c (if is then v else 0) else aJ6 j is (if is then v else 0)
def jY(j:aE):iG:=j.Batch.bK.getD j.At.toNat ⟨0,0,0⟩
def PD(j:aE):Prop:=j.At < j.Batch.bK.length
instance (j:aE):Decidable (PD j):=by unfold PD;infer_instance
def aOZ(j:aE):aE:=
 if PD j then
  if (jY j).Kind=2\/(jY j).Kind=3 then
   if (KA j ⟨(jY j).Key,(jY j).Kind == 3,(jY j).dO⟩).1 then {(KA j ⟨(jY j).Key,(jY j).Kind == 3,(jY j).dO⟩).2 with At:=j.At+1,eA:=j.eA ++ [⟨false,0⟩]}
   else (KA j ⟨(jY j).Key,(jY j).Kind == 3,(jY j).dO⟩).2
  else if (aG1 j.aJ (jY j).Key).2 then aG4 j (jY j) (aG1 j.aJ (jY j).Key).1.dO (!(aG1 j.aJ (jY j).Key).1.GX)
  else {j with Pc:=2,bT:=FM (jY j).Key}
 else {j with Pc:=6,K:=0,Sub:=aOW 1 16}
def aID(b:aB)(k:List bT)(w:Int)(j:aE):aE:=
 if j.Pc=2 then
  if (mP k j.bT).fO≠0 then VK j 7
  else {j with fM:=(mP k j.bT).fM,H:=(mP k j.bT).Head,Found:=false,Node:=aMG,Pc:=if (mP k j.bT).Head=0 then 5 else 3}
 else if j.Pc=3 then {j with Node:=TQ b.Mem.Heap j.H,Pc:=4}
 else if j.Pc=4 then
  if ¬((wO b.aH w).On=true/\(wO b.aH w).gP=false) then VK j 6
  else if PD j then {j with Found:=j.Node.Key == (jY j).Key,H:=Y4 j.Node,Pc:=if j.Node.Key=(jY j).Key\/Y4 j.Node=0 then 5 else 3}
  else VK j 1
 else
  if (mP k j.bT).fO≠0\/(mP k j.bT).fM≠j.fM then VK j 7
  else if (G9 j.Reads j.bT j.fM).2=false then VK {j with Reads:=(G9 j.Reads j.bT j.fM).1} 7
  else if PD j then aG4 {j with Reads:=(G9 j.Reads j.bT j.fM).1} (jY j) j.Node.dO j.Found
  else VK {j with Reads:=(G9 j.Reads j.bT j.fM).1} 1
def aO0(b:aB)(w:Int)(j:aE):aB×aE:=
 if FL j.aJ j.aJ.length<=j.K then (b,{j with Pc:=7,K:=0})
 else ((DW b w j.Sub).1,
  if (DW b w j.Sub).2.dJ=false then {j with Sub:=(DW b w j.Sub).2}
  else if (DW b w j.Sub).2.Code≠0\/¬lZ (DW b w j.Sub).2.Out\/6<=j.fL.length then VK {j with Sub:=(DW b w j.Sub).2} (DW b w j.Sub).2.Code
  else {j with fL:=j.fL ++ [(DW b w j.Sub).2.Out],K:=j.K+1,Sub:=aOW 1 16})
def gU(j:aE):Int:=(C8 j.aJ).getD j.K.toNat 0
def aFG(j:aE):aE:={j with aW:=if gU j∈j.aW then j.aW else j.aW ++ [gU j],K:=j.K+1}
def aG5(k:List bT)(w:Int)(j:aE):List bT×aE×Bool:=
 if j.K < (C8 j.aJ).length then
  if (mP k (gU j)).fO≠0\/(j.Reads.any fun s=>s.bT == gU j && s.fM != (mP k (gU j)).fM)=true then (k,VK j 7,false)
  else if (mP k (gU j)).fM=1000000 then (k,VK j 3,false)
  else if (C8 j.aJ).length<=j.K+1 then (k.set (gU j).toNat {mP k (gU j) with fO:=w+1},{aFG j with Pc:=8,K:=0},true)
  else (k.set (gU j).toNat {mP k (gU j) with fO:=w+1},aFG j,false)
 else (k,{j with Pc:=8,K:=0},true)
def rdN(j:aE):Seen:=j.Reads.getD j.K.toNat ⟨0,0⟩
def aSM(k:List bT)(w:Int)(j:aE):aE:=
 if j.Reads.length<=j.K then {j with Pc:=9,K:=0}
 else if ((mP k (rdN j).bT).fO≠0/\(mP k (rdN j).bT).fO≠w+1)\/(mP k (rdN j).bT).fM≠(rdN j).fM then VK j 7
 else {j with K:=j.K+1}
def plF(j:aE)(x:aU):aE:=if x.GX then {j with Pc:=9,K:=j.K+1} else {j with Pc:=12}
def XZ(j:aE):aU:=j.aJ.getD j.K.toNat ⟨0,false,0⟩
def aMM(j:aE):Int:=j.fL.getD (FL j.aJ j.K).toNat 0
def aFH(j:aE):aE:=if lZ j.H/\j.cG.length < 6 then {j with cG:=j.cG ++ [j.H]} else j
def aG6(b:aB)(k:List bT)(j:aE):aB×List bT×aE:=
 if j.aJ.length<=j.K then (b,k,{j with Pc:=14})
 else if j.Pc=9 then (b,k,if (mP k (FM (XZ j).Key)).Head=0 then plF {j with Pc:=10,H:=(mP k (FM (XZ j).Key)).Head,fF:=0} (XZ j) else {j with Pc:=10,H:=(mP k (FM (XZ j).Key)).Head,fF:=0})
 else if j.Pc=10 then
  (b,k,if (TQ b.Mem.Heap j.H).Key=(XZ j).Key then {j with Pc:=11,Node:=TQ b.Mem.Heap j.H}
   else if Y4 (TQ b.Mem.Heap j.H)=0 then plF {j with Node:=TQ b.Mem.Heap j.H} (XZ j)
   else {j with H:=Y4 (TQ b.Mem.Heap j.H),fF:=j.H,Node:=TQ b.Mem.Heap j.H})
 else if j.Pc=11 then
  if j.fF=0 then (b,k.set (FM (XZ j).Key).toNat {mP k (FM (XZ j).Key) with Head:=Y4 j.Node},plF (aFH j) (XZ j))
  else ({b with Mem:=Gv.aMK b.Mem j.fF (Y4 j.Node)},k,plF (aFH j) (XZ j))
 else if j.fL.length<=FL j.aJ j.K then (b,k,VK j 1)
 else if j.Pc=12 then ({b with Mem:=aMJ b.Mem (aMM j) ⟨(XZ j).Key,(XZ j).dO,(mP k (FM (XZ j).Key)).Head⟩},k,{j with Pc:=13})
 else (b,k.set (FM (XZ j).Key).toNat {mP k (FM (XZ j).Key) with Head:=aMM j},{j with Pc:=9,K:=j.K+1})
def aMN(j:aE):aE:=if j.K < j.cG.length then {j with Sub:=aOW 2 (j.cG.getD j.K.toNat 0)} else j
def DR(j:aE):Int:=j.aW.getD 0 0
def aG7(k:List bT)(j:aE):List bT×aE:=
 if 0 < j.aW.length then
  (k.set (DR j).toNat (if j.Pc=14 then ⟨(mP k (DR j)).Head,if 1000000 < (mP k (DR j)).fM+1 then 1000000 else (mP k (DR j)).fM+1,0⟩ else {mP k (DR j) with fO:=0}),{j with aW:=j.aW.drop 1})
 else if j.Pc=16 then (k,{j with Pc:=17})
 else (k,aMN {j with Pc:=15,K:=0})
def aO2(b:aB)(w:Int)(j:aE):aB×aE:=
 if j.cG.length<=j.K then (b,{j with Pc:=18})
 else ((DW b w j.Sub).1,if (DW b w j.Sub).2.dJ then aMN {j with K:=j.K+1,Sub:=(DW b w j.Sub).2} else {j with Sub:=(DW b w j.Sub).2})
def aWW(m:Mem)(w x:Int):Mem:=if oH m x then aQ4 m w x else m
def aO3(b:aB)(w:Int)(j:aE):aB×aE:=
 if j.fL.length=0 then (b,{j with Pc:=18})
 else (if aW b.bJ (j.fL.getD 0 0 % 32) then b else {b with Mem:=aWW b.Mem w (j.fL.getD 0 0)},{j with fL:=j.fL.drop 1})
def aMO(b:aB)(w:Int)(j:aE):aB×aE:=
 ((DW b w j.Sub).1, if (DW b w j.Sub).2.dJ = false then {j with Sub := (DW b w j.Sub).2}
  else if j.Pc=0 then {j with Pc:=1,Sub:=(DW b w j.Sub).2}
  else if j.Pc=20 then {j with Pc:=21,Sub:=aOW 4 0}
  else {j with Pc:=19,Sub:=(DW b w j.Sub).2})
def tlE(w:Int)(j:aE):LM:=⟨3,w,j.aS,j.Code,[],if j.Code=0 then j.eA else []⟩
structure TR where
 b:aB
 k:List bT
 j:aE
 l:List LM
def doF(b:aB)(k:List bT)(w:Int)(j:aE):TR:=
 if j.Pc=0\/j.Pc=20\/j.Pc=21 then ⟨(aMO b w j).1,k,(aMO b w j).2,[]⟩
 else if j.Pc=1 then ⟨b,k,aOZ j,[]⟩
 else if 2<=j.Pc/\j.Pc<=5 then ⟨b,k,aID b k w j,[]⟩
 else if j.Pc=6 then ⟨(aO0 b w j).1,k,(aO0 b w j).2,[]⟩
 else if j.Pc=7 then ⟨b,(aG5 k w j).1,(aG5 k w j).2.1,if (aG5 k w j).2.2 then [⟨2,w,j.aS,0,[],[]⟩] else []⟩
 else if j.Pc=8 then ⟨b,k,aSM k w j,[]⟩
 else if 9<=j.Pc/\j.Pc<=13 then ⟨(aG6 b k j).1,(aG6 b k j).2.1,(aG6 b k j).2.2,[]⟩
 else if j.Pc=14\/j.Pc=16 then ⟨b,(aG7 k j).1,(aG7 k j).2,[]⟩
 else if j.Pc=15 then ⟨(aO2 b w j).1,k,(aO2 b w j).2,[]⟩
 else if j.Pc=17 then ⟨(aO3 b w j).1,k,(aO3 b w j).2,[]⟩
 else if j.Pc=18 then ⟨{b with aH:=(aJ3 b.aH w).1},k,{j with Pc:=19},[]⟩
 else if j.Pc=19 then ⟨b,k,kU,[tlE w j]⟩
 else ⟨b,k,VK j 1,[]⟩
def dQ(t:Table)(w:Int):aE:=t.aN.getD w.toNat kU
def XT(t:Table)(w:Int):List Batch:=(t.gZ.getD w.toNat ⟨[]⟩).List
def JY(b:Batch)(s:Int):aE:=⟨true,b,s,if b.Collect then 20 else 0,0,0,0,0,0,0,aMG,false,0,if b.Collect then aOW 3 0 else aOW 5 0,[],[],[],[],[],[]⟩
def aWY(t:Table)(w:Int)(b:Batch):Table:=⟨t.aB,t.cS,t.aN.set w.toNat (JY b (t.aS+1)),t.gZ.set w.toNat ⟨(XT t w).drop 1⟩,t.Log ++ [⟨1,w,t.aS+1,0,b.bK,[]⟩],t.aS+1⟩
def aFI(t:Table)(w:Int)(r:TR):Table:=⟨r.b,r.k,t.aN.set w.toNat r.j,t.gZ,t.Log++r.l,t.aS⟩
def PE(t:Table)(w:Int):Table:=
 if (dQ t w).iY then aFI t w (doF t.aB t.cS w (dQ t w))
 else if (XT t w).length=0\/t.aS=1000000 then t else aWY t w ((XT t w).getD 0 ⟨false,[]⟩)
def TS(c:iG):Prop:=(1<=c.Kind/\c.Kind<=4)/\(0<=c.Key/\c.Key<=99)/\(0<=c.dO/\c.dO<=65535)/\(c.Kind=2\/c.Kind=4\/c.dO=0)
instance (c:iG):Decidable (TS c):=by unfold TS;infer_instance
def TU(b:Batch):Prop:=(b.Collect=true->b.bK=[])/\b.bK.length<=6/\(∀c∈b.bK,TS c)/\(b.Collect=false->1<=b.bK.length)
instance (b:Batch):Decidable (TU b):=by unfold TU;infer_instance
def QuV(q:aI):Prop:=q.List.length<=12/\∀b∈q.List,TU b
instance (q:aI):Decidable (QuV q):=by unfold QuV;infer_instance
def VL(l:List aI):Prop:=l.length=3/\∀q∈l,QuV q
instance (l:List aI):Decidable (VL l):=by unfold VL;infer_instance
def BkV(b:bT):Prop:=kT b.Head/\(0<=b.fM/\b.fM<=1000000)/\(0<=b.fO/\b.fO<=3)
def WrV(l:List aU):Prop:=l.length<=6/\(∀x∈l,(0<=x.Key/\x.Key<=99)/\(0<=x.dO/\x.dO<=65535))/\l.Pairwise (fun x y=>x.Key < y.Key)
structure JB (j:aE):Prop where
 busy:j.iY=true
 bat:TU j.Batch
 h:kT j.H
 prev:kT j.fF
 bkt:0<=j.bT/\j.bT<=1
 at_:0<=j.At/\j.At<=j.Batch.bK.length
 k:0<=j.K/\j.K<=6
 new:j.fL.length<=6/\∀x∈j.fL,lZ x
 old:j.cG.length<=6/\∀x∈j.cG,lZ x
 reads:(∀s∈j.Reads,0<=s.bT/\s.bT<=1)/\(j.Reads.map Seen.bT).Nodup
 wr:WrV j.aJ
 held:(∀x∈j.aW,0<=x/\x<=1)/\j.aW.Nodup
 res:(j.eA.length:Int)=j.At
 node:0<=j.Node.dO/\j.Node.dO<=4294967295
structure TV (t:Table):Prop where
 base:sB t.aB
 bk:t.cS.length=2/\∀x∈t.cS,BkV x
 aBM:t.aN.length=3/\∀j∈t.aN,j=kU\/JB j
 todo:VL t.gZ
 ser:0<=t.aS/\t.aS<=1000000
end Go.Gv
end
noncomputable section
namespace Go.Gv
theorem aIE{j:aE}(hw:j.aJ.length<=1000)(x:aU):pH j x=some (KA j x):=by
 unfold pH KA
 rw [YZ hw,aG]
 by_cases h:6 < (aEY j.aJ x).length
 ·rw [if_pos (by simp;omega),if_pos h];rfl
 grind
theorem Y7(j:aE)(x:aU):(KA j x).2.eA=j.eA/\(KA j x).2.At=j.At:=by
 grind [KA,VK]
theorem aIF{j:aE}(hw:j.aJ.length<=1000)(hr:j.eA.length<=1000)(ha:0<=j.At/\j.At<=1000)(c:iG)(v:Int)(is:Bool):pI j c v is=some (aG4 j c v is):=by
 have key:∀u,lB j c is u=some (if c.Kind=4 then aWV j c u else aJ6 j is u):=fun u=>by
  unfold lB
  by_cases hk:c.Kind=4
  ·rw [if_pos (by grind),if_pos hk]
   unfold U2 aWV
   rw [aG,show Int.tmod (aX (u+c.dO)) 65536=aBJ u c.dO from rfl,aIE hw,aG]
   obtain⟨e1,e2⟩:=Y7 j ⟨c.Key,false,aBJ u c.dO⟩
   cases h:(KA j ⟨c.Key,false,aBJ u c.dO⟩).1
   ·simp
   ·rw [if_neg (by simp),if_pos rfl]
    grind [lA,oR,aJ6,aK,aL]
  ·rw [if_neg (by grind),if_neg hk]
   grind [lA,oR,aJ6,aK,aL]
 unfold pI aG4
 grind
theorem aFJ{j:aE}(hl:j.Batch.bK.length<=1000)(ha:0<=j.At):nQ j=some (if PD j then (jY j,true,j) else (⟨0,0,0⟩,false,j)):=by
 unfold nQ jY
 rw [eH,aG,aL (by omega) (by omega)]
 by_cases hc:PD j
 ·have h:j.At < j.Batch.bK.length:=hc
  rw [b9 (by omega),if_neg (by simp),if_pos hc,gT ha h,aG]
  grind
 ·have h:¬j.At < j.Batch.bK.length:=hc
  grind
theorem aW0{j:aE}(hl:j.Batch.bK.length<=1000)(hw:j.aJ.length<=1000)(hr:j.eA.length<=1000)(ha:0<=j.At/\j.At<=1000):CF j=some (aOZ j):=by
 unfold CF aOZ
 rw [aFJ hl ha.1,aG]
 by_cases h:PD j
 ·rw [if_pos h,if_pos h]
  have put:i6 (jY j,true,j) true j=some (if (KA j ⟨(jY j).Key,(jY j).Kind == 3,(jY j).dO⟩).1 then {(KA j ⟨(jY j).Key,(jY j).Kind == 3,(jY j).dO⟩).2 with At:=j.At+1,eA:=j.eA ++ [⟨false,0⟩]} else (KA j ⟨(jY j).Key,(jY j).Kind == 3,(jY j).dO⟩).2):=by
   unfold i6
   rw [if_pos rfl,aIE hw,aG]
   obtain⟨e1,e2⟩:=Y7 j ⟨(jY j).Key,(jY j).Kind == 3,(jY j).dO⟩
   cases (KA j ⟨(jY j).Key,(jY j).Kind == 3,(jY j).dO⟩).1
   ·rw [if_neg (by simp),if_neg (by simp)]
   ·rw [if_pos rfl,if_pos rfl,aK (by rw [e1];simp;omega)]
    simp only [e1,e2]
    rw [aL (by omega) (by omega)]
  have get:i6 (jY j,true,j) false j=some (if (aG1 j.aJ (jY j).Key).2 then aG4 j (jY j) (aG1 j.aJ (jY j).Key).1.dO (!(aG1 j.aJ (jY j).Key).1.GX) else {j with Pc:=2,bT:=FM (jY j).Key}):=by
   unfold i6 CE
   rw [if_neg (by simp),aBE hw,aG]
   cases (aG1 j.aJ (jY j).Key).2
   ·rw [if_neg (by simp),if_neg (by simp),MI];rfl
   ·rw [if_pos rfl,if_pos rfl,aIF hw hr ha];rfl
  grind
 ·rw [if_neg h,if_neg h];rfl
theorem wH{t:Table}{w:Int}(h3:t.aN.length=3)(hw:0<=w/\w<=2):idx t.aN w=some (dQ t w):=by
 grind [gT,dQ]
theorem VM{k:List bT}{i:Int}(h2:k.length=2)(hi:0<=i/\i<=1):idx k i=some (mP k i):=by
 grind [gT,mP]
theorem XU{α:Type}{l:List α}{i:Int}{x:α}(h:0<=i/\i < l.length):idx (l.set i.toNat x) i=some x:=by
 grind [gT]
theorem aB7{t:Table}{w:Int}(h3:t.aN.length=3)(hw:0<=w/\w<=2):dQ t w∈t.aN:=by
 grind [dQ]
def aMP(t:Table)(w:Int)(j:aE):Table:={t with aN:=t.aN.set w.toNat j}
noncomputable section
variable {t:Table} {w:Int} (h3:t.aN.length=3) (h2:t.cS.length=2) (hb:sB t.aB) (hw:0<=w/\w<=2) (hj:JB (dQ t w))
include h3 h2 hb hw hj
theorem SN:(dQ t w).Batch.bK.length<=1000/\(dQ t w).aJ.length<=1000/\(dQ t w).eA.length<=1000/\(0<=(dQ t w).At/\(dQ t w).At<=1000)/\(dQ t w).Reads.length<=2:=by
 have h1:=hj.bat.2.1;have h4:=hj.at_;have h5:=hj.res;have h6:=hj.wr.1
 refine⟨by omega,by omega,by omega,by omega,?_⟩
 have hn:=hj.reads.2
 have hm:∀x∈(dQ t w).Reads.map Seen.bT,x=0\/x=1:=fun x hx=>by
  obtain⟨s,hs,rfl⟩:=List.mem_map.1 hx
  have:=hj.reads.1 s hs;omega
 have hl:((dQ t w).Reads.map Seen.bT).length<=2:=by
  match h:(dQ t w).Reads.map Seen.bT,hn,hm with
  | [],_,_=>simp
  | [_],_,_=>simp
  | [_,_],_,_=>simp
  | x :: y :: z :: r, hn, hm =>
   (simp_all;omega)
 grind
theorem aZP:yX t w=some (aMP t w (aID t.aB t.cS w (dQ t w))):=by
 obtain⟨s1,s2,s3,s4,s5⟩:=SN h3 h2 hb hw hj
 have hjob:=wH h3 hw
 unfold yX z7 aID aMP
 rw [hjob,aG,VM h2 hj.bkt,aG,aG,aFJ s1 s4.1,aG]
 generalize hjj:dQ t w=j at *
 have e62:(if PD j then (jY j,true,j) else ((⟨0,0,0⟩:iG),false,j)).2.2=j:=by grind
 have set2:∀x y:aE,(t.aN.set w.toNat x).set w.toNat y=t.aN.set w.toNat y:=fun x y=>aHE ..
 have iset:∀x:aE,idx (t.aN.set w.toNat x) w=some x:=fun x=>XU ⟨hw.1,by omega⟩
 simp only [e62]
 by_cases p2:j.Pc=2
 ·have p2':(j.Pc == 2)=true:=by grind
  simp only [p2',if_true,if_pos p2]
  by_cases hl:(mP t.cS j.bT).fO=0
  ·have e:((mP t.cS j.bT).fO != 0)=false:=by grind
   simp only [e,bC,if_false,if_neg (not_not_intro hl)]
   by_cases hh:(mP t.cS j.bT).Head=0
   ·have e:((mP t.cS j.bT).Head == 0)=true:=by grind
    simp only [e,if_true,if_pos hh];rfl
   ·have e:((mP t.cS j.bT).Head == 0)=false:=by grind
    simp only [e,bC,if_false,if_neg hh];rfl
  ·have e:((mP t.cS j.bT).fO != 0)=true:=by grind
   simp only [e,if_true,if_pos hl];rfl
 ·have p2':(j.Pc == 2)=false:=by grind
  simp only [p2',bC,if_false,if_neg p2]
  by_cases p3:j.Pc=3
  ·have p3':(j.Pc == 3)=true:=by grind
   simp only [p3',if_true,if_pos p3]
   obtain⟨c,e⟩:=aIB hb.1.1 j.H
   rw [e];rfl
  ·have p3':(j.Pc == 3)=false:=by grind
   simp only [p3',bC,if_false,if_neg p3]
   by_cases p4:j.Pc=4
   ·have p4':(j.Pc == 4)=true:=by grind
    simp only [p4',if_true,if_pos p4]
    rw [N4 hb.1.2.1 hw,aG]
    simp only [zZ,mM]
    have hp:(if (wO t.aB.aH w).On=true then some (!(wO t.aB.aH w).gP) else some false)=some (decide ((wO t.aB.aH w).On=true/\(wO t.aB.aH w).gP=false)):=by
     cases (wO t.aB.aH w).On <;> cases (wO t.aB.aH w).gP <;> rfl
    rw [hp,aG]
    by_cases hpin:(wO t.aB.aH w).On=true/\(wO t.aB.aH w).gP=false
    ·simp only [b9 hpin,gY,bC,if_false,if_neg (not_not_intro hpin)]
     by_cases hc:PD j
     ·simp only [if_pos hc,gY,bC,if_false,aJ5,aG,z5,qN,iset,set2]
      grind
     ·simp only [if_neg hc,HB,if_true];rfl
    ·simp only [dP hpin,HB,if_true,if_pos hpin];rfl
   ·have p4':(j.Pc == 4)=false:=by grind
    simp only [p4',bC,if_false,if_neg p4]
    have tail:hY t w (if PD j then (jY j,true,j) else ((⟨0,0,0⟩:iG),false,j)) false=some (aMP t w (if (G9 j.Reads j.bT j.fM).2=false then VK {j with Reads:=(G9 j.Reads j.bT j.fM).1} 7
      else if PD j then aG4 {j with Reads:=(G9 j.Reads j.bT j.fM).1} (jY j) j.Node.dO j.Found
      else VK {j with Reads:=(G9 j.Reads j.bT j.fM).1} 1)):=by
     simp only [hY,z6,e62,iset,aG,set2,bC,if_false]
     rw [aBF (by omega),aG]
     cases hs:(G9 j.Reads j.bT j.fM).2
     ·rfl
     ·simp only [gY,bC,if_false,reduceCtorEq]
      by_cases hc:PD j
      ·simp only [if_pos hc,gY,bC,if_false]
       rw [aIF (j:={j with Reads:=(G9 j.Reads j.bT j.fM).1}) s2 s3 s4];rfl
      ·simp only [if_neg hc,HB,if_true];rfl
    have ab:hY t w (if PD j then (jY j,true,j) else ((⟨0,0,0⟩:iG),false,j)) true=some (aMP t w (VK j 7)):=by
     simp only [hY,e62,iset,aG,set2,if_true];rfl
    by_cases hl:(mP t.cS j.bT).fO=0
    ·have e:((mP t.cS j.bT).fO != 0)=false:=by grind
     simp only [e,bC,if_false]
     by_cases hv:(mP t.cS j.bT).fM=j.fM
     ·have e:((mP t.cS j.bT).fM != j.fM)=false:=by grind
      rw [e,tail,if_neg (show ¬((mP t.cS j.bT).fO≠0\/(mP t.cS j.bT).fM≠j.fM) from fun q=>q.elim (fun h=>h hl) fun h=>h hv)];rfl
     ·have e:((mP t.cS j.bT).fM != j.fM)=true:=by grind
      rw [e,ab,if_pos (.inr hv)];rfl
    ·have e:((mP t.cS j.bT).fO != 0)=true:=by grind
     simp only [e,if_true]
     rw [ab,if_pos (.inl hl)];rfl
end
end Go.Gv
end
noncomputable section
namespace Go.Gv
def SO(t:Table)(w:Int)(p:aB×aE):Table:={t with aB:=p.1,aN:=t.aN.set w.toNat p.2}
noncomputable section
variable {t:Table} {w:Int} (h3:t.aN.length=3) (h2:t.cS.length=2) (hb:sB t.aB) (hw:0<=w/\w<=2) (hj:JB (dQ t w))
include h3 h2 hb hw hj
theorem aW1:qM t w=some (SO t w (aMO t.aB w (dQ t w))):=by
 unfold qM aMO SO
 rw [wH h3 hw,aG,Y6 hb hw,aG]
 generalize dQ t w=j at *
 generalize DW t.aB w j.Sub=r
 cases hd:r.2.dJ
 ·rfl
 ·simp only [hd,gY,bC,if_false,reduceCtorEq]
  by_cases p0:j.Pc=0
  ·grind
  ·have e:(j.Pc == 0)=false:=by grind
   simp only [e,bC,if_false,if_neg p0]
   by_cases p20:j.Pc=20
   ·have e:(j.Pc == 20)=true:=by grind
    simp only [e,if_true,if_pos p20];rfl
   grind
theorem aSN:vS t w=some (SO t w (aO0 t.aB w (dQ t w))):=by
 obtain⟨s1,s2,s3,s4,s5⟩:=SN h3 h2 hb hw hj
 have hjob:=wH h3 hw
 have hk:=hj.k
 have hn:=hj.new.1
 unfold vS aO0 SO
 rw [hjob,aG,XI s2,aG]
 generalize hjj:dQ t w=j at *
 have set2:∀x y:aE,(t.aN.set w.toNat x).set w.toNat y=t.aN.set w.toNat y:=fun x y=>aHE ..
 have iset:∀x:aE,idx (t.aN.set w.toNat x) w=some x:=fun x=>XU ⟨hw.1,by omega⟩
 unfold wY
 by_cases hp:FL j.aJ j.aJ.length<=j.K
 ·grind
 ·rw [dP hp,if_neg (by simp),if_neg hp,hjob,aG,Y6 hb hw,aG]
  generalize DW t.aB w j.Sub=r
  cases hd:r.2.dJ
  ·rfl
  ·have ab:fX w true {t with aB:=r.1,aN:=t.aN.set w.toNat {j with Sub:=r.2}}=some {t with aB:=r.1,aN:=t.aN.set w.toNat (VK {j with Sub:=r.2} r.2.Code)}:=by
    simp_all [fX,cH,VK]
   have go:j.fL.length < 6->fX w false {t with aB:=r.1,aN:=t.aN.set w.toNat {j with Sub:=r.2}}=some {t with aB:=r.1,aN:=t.aN.set w.toNat {j with fL:=j.fL ++ [r.2.Out],K:=j.K+1,Sub:=aOW 1 16}}:=fun h6=>by
    simp only [fX,bC,if_false,iset,aG,set2,wX,j5,wW]
    rw [aK (by simp;omega),aL (by omega) (by omega)];rfl
   simp only [hd,gY,bC,if_false,reduceCtorEq]
   by_cases hc:r.2.Code=0
   ·have e:(r.2.Code != 0)=false:=by grind
    simp only [e,bC,if_false,iN,aG]
    grind
   grind
theorem aW2:oS t w=some (aMP t w (aSM t.cS w (dQ t w))):=by
 have hjob:=wH h3 hw
 have hk:=hj.k
 have hr:=hj.reads.1
 unfold oS qR aSM aMP
 rw [hjob,aG,aG]
 generalize hjj:dQ t w=j at *
 by_cases hp:(j.Reads.length:Int)<=j.K
 ·grind
 ·have hi:j.K.toNat < j.Reads.length:=by omega
  have er:rdN j=j.Reads[j.K.toNat]:=by grind [rdN]
  have hbk:=hr j.Reads[j.K.toNat] (dC hi)
  rw [if_neg (by grind),if_neg hp,aG,gT hk.1 (by omega),aG,<-er]
  rw [<-er] at hbk
  unfold qQ qP
  rw [VM h2 hbk,aG,aL (by omega) (by omega)]
  have ab:eK t w true=some {t with aN:=t.aN.set w.toNat (VK j 7)}:=by
   simp_all [eK,cH,VK]
  have go:eK t w false=some {t with aN:=t.aN.set w.toNat {j with K:=j.K+1}}:=by
   simp only [eK,bC,if_false,hjob,aG]
   grind [aL]
  grind
theorem aG8{l:List Seen}(hl:l.length<=1000)(f:Seen->Bool)(g:Seen->Option Bool)(hg:∀x,g x=some (f x)):g9 l g=some (l.any f):=by
 have e:g=fun x=>some (f x):=funext hg
 rw [e]
 unfold g9
 rcases ZL (s:=l) (p:=f) (by omega) with ⟨j,h,h1,h2,h3⟩ | ⟨h1,h3⟩
 ·rw [h3,aG,b9 (by omega)]
  congr 1
  exact(List.any_eq_true.2 ⟨l[j],dC h,h2⟩).symm
 ·rw [h3,aG,dP (by omega)]
  congr 1
  refine(List.any_eq_false.2 fun x hx=>?_).symm
  obtain⟨i,hi,rfl⟩:=aCE hx
  simp [h1 i hi]
def a4M(t:Table)(w:Int)(p:List bT×aE×Bool):Table:={t with cS:=p.1,aN:=t.aN.set w.toNat p.2.1,Log:=t.Log++if p.2.2 then [⟨2,w,(dQ t w).aS,0,[],[]⟩] else []}
theorem aZQ(hl:t.Log.length<=1000000):y5 t w=some (a4M t w (aG5 t.cS w (dQ t w))):=by
 obtain⟨s1,s2,s3,s4,s5⟩:=SN h3 h2 hb hw hj
 have hjob:=wH h3 hw
 have hk:=hj.k
 have hd:=hj.held
 have hwr:=hj.wr
 unfold y5 aG5 a4M
 rw [hjob,aG,aBG (by have:=hwr.1;omega) (fun x hx=>(hwr.2.1 x hx).1),aG]
 generalize hjj:dQ t w=j at *
 have set2:∀x y:aE,(t.aN.set w.toNat x).set w.toNat y=t.aN.set w.toNat y:=fun x y=>aHE ..
 have iset:∀x:aE,idx (t.aN.set w.toNat x) w=some x:=fun x=>XU ⟨hw.1,by omega⟩
 have hheld:j.aW.length<=2:=by
  match h:j.aW,hd with
  | [],_=>simp
  | [_],_=>simp
  | [_,_],_=>simp
  | x :: y :: z :: r, ⟨hm, hn⟩ =>
   (simp_all;omega)
 by_cases hp:j.K < (C8 j.aJ).length
 ·have hi:j.K.toNat < (C8 j.aJ).length:=by omega
  have er:gU j=(C8 j.aJ)[j.K.toNat]:=by grind [gU]
  have hbk:0<=gU j/\gU j<=1:=by grind [aE0,dC]
  rw [if_pos (by grind),if_pos hp,gT hk.1 hp,aG,<-er,VM h2 hbk,aG]
  have ab:gK t w (C8 j.aJ) (gU j) true=some {t with aN:=t.aN.set w.toNat (VK j 7)}:=by
   simp_all [gK,cH,VK]
  have en:∀x:aE,x.K=j.K->x.aS=j.aS->mF t w (C8 j.aJ) (gU j) (mP t.cS (gU j)) (t.aN.set w.toNat x) =
    some {t with cS:=t.cS.set (gU j).toNat {mP t.cS (gU j) with fO:=w+1},aN:=t.aN.set w.toNat (if (C8 j.aJ).length<=j.K+1 then {x with K:=0,Pc:=8} else {x with K:=j.K+1}),Log:=t.Log++if (C8 j.aJ).length<=j.K+1 then [⟨2,w,j.aS,0,[],[]⟩] else []}:=fun x hx hs=>by
   simp only [mF,mE,qO,iset,set2,aG,hx,hs]
   rw [aL (by omega) (by omega),aL (by omega) (by omega)]
   by_cases hq:((C8 j.aJ).length:Int)<=j.K+1
   ·rw [if_pos (by grind),aK (by simp;omega),if_pos hq,if_pos hq]
   grind
  have go:gK t w (C8 j.aJ) (gU j) false=some (if (mP t.cS (gU j)).fM=1000000 then {t with aN:=t.aN.set w.toNat (VK j 3)} else
    {t with cS:=t.cS.set (gU j).toNat {mP t.cS (gU j) with fO:=w+1},aN:=t.aN.set w.toNat (if (C8 j.aJ).length<=j.K+1 then {aFG j with K:=0,Pc:=8} else aFG j),Log:=t.Log++if (C8 j.aJ).length<=j.K+1 then [⟨2,w,j.aS,0,[],[]⟩] else []}):=by
   unfold gK
   rw [if_neg (by simp),VM h2 hbk,aG]
   by_cases hv:(mP t.cS (gU j)).fM=1000000
   ·simp_all [cH,VK]
   ·have e:((mP t.cS (gU j)).fM == 1000000)=false:=by grind
    simp only [e,bC,if_false,if_neg hv,hjob,aG]
    rw [contains_eq (by grind [maxLen]),aG]
    by_cases hm:gU j∈j.aW
    ·rw [b9 hm,if_neg (by simp)]
     have:=en j rfl rfl
     rw [show t.aN.set w.toNat j=t.aN by
      rw [<-hjj];unfold dQ
      rw [VQ,fT (show w.toNat < t.aN.length by omega)]
      simp] at this
     simp_all [aFG]
    ·rw [dP hm,if_pos (by rfl),aK (by simp;omega)]
     unfold AD
     rw [en {j with aW:=j.aW ++ [gU j]} rfl rfl]
     unfold aFG
     rw [if_neg hm]
  have fin:∀B:Bool,gK t w (C8 j.aJ) (gU j) B=some (if B=true then {t with aN:=t.aN.set w.toNat (VK j 7)} else if (mP t.cS (gU j)).fM=1000000 then {t with aN:=t.aN.set w.toNat (VK j 3)} else
    {t with cS:=t.cS.set (gU j).toNat {mP t.cS (gU j) with fO:=w+1},aN:=t.aN.set w.toNat (if (C8 j.aJ).length<=j.K+1 then {aFG j with K:=0,Pc:=8} else aFG j),Log:=t.Log++if (C8 j.aJ).length<=j.K+1 then [⟨2,w,j.aS,0,[],[]⟩] else []}):=fun B=>by
   cases B
   ·simp only [bC,if_false];exact go
   ·simp only [if_true];exact ab
  have cf:g9 j.Reads (fun y0=>tE y0 (gU j) (mP t.cS (gU j)))=some (j.Reads.any fun s=>s.bT == gU j && s.fM != (mP t.cS (gU j)).fM):=
   aG8 h3 h2 hb hw (by grind) (by omega) _ _ fun x=>by
    unfold tE nR
    cases x.bT == gU j <;> rfl
  by_cases hl0:(mP t.cS (gU j)).fO=0
  ·have e:((mP t.cS (gU j)).fO != 0)=false:=by grind
   simp only [e,bC,if_false]
   rw [cf,aG,fin]
   by_cases hany:(j.Reads.any fun s=>s.bT == gU j && s.fM != (mP t.cS (gU j)).fM)=true
   ·grind
   ·rw [if_neg hany,if_neg (show ¬((mP t.cS (gU j)).fO≠0\/(j.Reads.any fun s=>s.bT == gU j && s.fM != (mP t.cS (gU j)).fM)=true) from fun q=>q.elim (fun a=>a hl0) hany)]
    by_cases hv:(mP t.cS (gU j)).fM=1000000
    ·rw [if_pos hv,if_pos hv];simp
    ·rw [if_neg hv,if_neg hv]
     by_cases hq:((C8 j.aJ).length:Int)<=j.K+1
     ·simp only [if_pos hq];rfl
     ·simp only [if_neg hq];rfl
  grind
 ·rw [if_neg (by grind),if_neg hp]
  unfold mE qO
  rw [hjob,aG,if_pos (by simp;omega),aK (by simp;omega),aG];rfl
end
end Go.Gv
end
noncomputable section
namespace Go.Gv
def aO4(t:Table)(w:Int)(p:aB×List bT×aE):Table:={t with aB:=p.1,cS:=p.2.1,aN:=t.aN.set w.toNat p.2.2}
theorem aFK{j:aE}(hk:0<=j.K/\j.K<=100)(x:aU):m6 j x=some (plF j x):=by
 unfold m6 plF
 cases x.GX
 ·rfl
 ·simp only [if_true];grind [aL]
theorem aW3{j:aE}(hk:0<=j.K):j7 j=some (aMN j):=by
 unfold j7 aMN
 by_cases h:j.K < j.cG.length
 ·have hi:j.K.toNat < j.cG.length:=by omega
  rw [if_pos (by grind),if_pos h,gT hk h,aG]
  simp only [j5,aG,pJ,VQ,fT hi,Option.getD_some];rfl
 grind
theorem aO5{m:Mem}(hm:pY m){w:Int}(hw:0<=w/\w<=2)(x:Int):∃c,HZ m w x=some (aWW m w x,c):=by
 obtain⟨hcnt,h3,h9,h1,h2,hsm,hcp,hlo,hsG,hsO⟩:=pY.facts hm
 have hbl:m.Heap.Bytes.length<=maxLen:=by grind [maxLen]
 unfold HZ aWW
 rw [MH hbl (by omega),b9 hm,aG,if_neg (by simp),lR,b9 hw,aG]
 unfold y7
 rw [if_neg (by simp),JW hm.1.1.1 (by omega) (by omega) (by omega),aG]
 by_cases hl:oH m x
 ·obtain⟨m',e1,e2,_,_⟩:=aJ2 hm hw hl
  simp_all [aFB]
 simp_all [SH]
theorem aZR{α:Type}{l:List α}{a b:Nat}(hab:a<=b)(hb:b<=l.length):((cM l a (l.drop b)).take (a+(l.length - b))).drop 0=l.take a++l.drop b:=by
 have h1:(l.take a).length=a:=by grind
 have h2:(l.drop b).length=l.length - b:=by simp
 unfold cM
 rw [MP,aHF (l:=l.drop b) (by omega),<-tN,show a+(l.length - b)=(l.take a++l.drop b).length by grind]
 grind
theorem aMQ{l:List Int}(h:0 < l.length)(hl:l.length<=1000):nS l 0 1=some (l.drop 1):=by
 unfold nS
 rw [aK (by omega),if_neg (by simp),aK (by omega),aK (by omega),aK (by decide),aZR (by decide) (show Int.toNat 1<=l.length from h),aK]
 ·rfl
 ·rw [eQ (by simp)]
  simp only [rD,AL,GV,Int.toNat_zero]
  omega
noncomputable section
variable {t:Table} {w:Int} (h3:t.aN.length=3) (h2:t.cS.length=2) (hb:sB t.aB) (hw:0<=w/\w<=2) (hj:JB (dQ t w))
include h3 h2 hb hw hj
theorem aW4:vU t w=some (aO4 t w (aG6 t.aB t.cS (dQ t w))):=by
 obtain⟨s1,s2,s3,s4,s5⟩:=SN h3 h2 hb hw hj
 have hjob:=wH h3 hw
 have hk:=hj.k
 have hwr:=hj.wr
 have hol:=hj.old.1
 unfold vU xD aG6 aO4
 rw [hjob,aG,aG]
 generalize hjj:dQ t w=j at *
 have set2:∀x y:aE,(t.aN.set w.toNat x).set w.toNat y=t.aN.set w.toNat y:=fun x y=>aHE ..
 have iset:∀x:aE,idx (t.aN.set w.toNat x) w=some x:=fun x=>XU ⟨hw.1,by omega⟩
 by_cases hp:(j.aJ.length:Int)<=j.K
 ·grind
 ·have hi:j.K.toNat < j.aJ.length:=by omega
  have er:XZ j=j.aJ[j.K.toNat]:=by grind [XZ]
  have hx:=hwr.2.1 j.aJ[j.K.toNat] (dC hi)
  rw [<-er] at hx
  have hbk:0<=FM (XZ j).Key/\FM (XZ j).Key<=1:=by unfold FM;omega
  rw [if_neg (by grind),if_neg hp,aG,gT hk.1 (by omega),aG,<-er]
  unfold xC
  rw [MI,aG,VM h2 hbk,aG,hjob,aG]
  generalize XZ j=x at *
  generalize hbb:FM x.Key=bi at *
  have ex:(⟨x.Key,x.GX,x.dO⟩:aU)=x:=rfl
  rw [ex]
  by_cases p9:j.Pc=9
  ·have e:(j.Pc == 9)=true:=by grind
   simp only [e,if_true,if_pos p9]
   by_cases hh:(mP t.cS bi).Head=0
   ·have e:((mP t.cS bi).Head == 0)=true:=by grind
    simp only [e,if_true,if_pos hh]
    grind [aFK]
   grind
  ·have e : (j.Pc == 9) = false := by grind
   simp only [e,bC,if_false,if_neg p9]
   by_cases p10:j.Pc=10
   ·have e:(j.Pc == 10)=true:=by grind
    simp only [e,if_true,if_pos p10]
    obtain⟨c,e⟩:=aIB hb.1.1 j.H
    rw [e,aG]
    simp only
    by_cases hkey:(TQ t.aB.Mem.Heap j.H).Key=x.Key
    ·grind
    ·have e:((TQ t.aB.Mem.Heap j.H).Key == x.Key)=false:=by grind
     simp only [e,bC,if_false,if_neg hkey,aJ5,aG]
     by_cases hs:Y4 (TQ t.aB.Mem.Heap j.H)=0
     ·have e:(Y4 (TQ t.aB.Mem.Heap j.H) == 0)=true:=by grind
      simp only [e,if_true,if_pos hs]
      grind [aFK]
     simp_all [wZ]
   ·have e:(j.Pc == 10)=false:=by grind
    simp only [e,bC,if_false,if_neg p10]
    by_cases p11:j.Pc=11
    ·have e:(j.Pc == 11)=true:=by grind
     simp only [e,if_true,if_pos p11]
     have cut:∀u:Table,u.aN=t.aN->lD w x.Key x.GX x.dO u=some {u with aN:=t.aN.set w.toNat (plF (aFH j) x)}:=fun u hu=>by
      have hju:idx u.aN w=some j:=by grind
      have last:∀v:Table,∀y:aE,idx v.aN w=some y->(0<=y.K/\y.K<=100)->lC w x.Key x.GX x.dO v=some {v with aN:=v.aN.set w.toNat (plF y x)}:=fun v y hy hyk=>by
       simp_all [lC,aFK]
      unfold lD oT xA aFH
      rw [hju,aG,iN,aG]
      by_cases hh:lZ j.H
      ·rw [b9 hh,if_pos rfl]
       by_cases h6:j.cG.length < 6
       ·rw [b9 (by omega),if_pos rfl,aG,aK (by simp;omega),last _ {j with cG:=j.cG ++ [j.H]} (by grind) (by grind),if_pos ⟨hh,h6⟩]
        grind
       grind
      grind
     by_cases hpv:j.fF=0
     ·simp_all [aJ5]
     ·have e:(j.fF == 0)=false:=by grind
      simp only [e,bC,if_false,if_neg hpv,aJ5,aG]
      obtain⟨c,e⟩:=aSL hb.1.1 j.fF (Y4 j.Node)
      grind [xB]
    ·have e:(j.Pc == 11)=false:=by grind
     simp only [e,bC,if_false,if_neg p11]
     have hpn:0<=FL j.aJ j.K:=by grind [FL]
     have hbs:t.cS.set bi.toNat (mP t.cS bi)=t.cS:=by
      grind [mP,aHD]
     unfold GC
     rw [XI s2,aG]
     by_cases hn:(j.fL.length:Int)<=FL j.aJ j.K
     ·rw [if_pos (by grind),if_pos hn]
      simp only [cH,aG,hbs];rfl
     ·have hi2:(FL j.aJ j.K).toNat < j.fL.length:=by omega
      have en:aMM j=j.fL[(FL j.aJ j.K).toNat]:=by grind [aMM]
      rw [if_neg (by grind),if_neg hn,gT hpn (by omega),<-en]
      by_cases p12:j.Pc=12
      ·have e:(j.Pc == 12)=true:=by grind
       simp only [e,if_true,if_pos p12,aG]
       obtain⟨c,e⟩:=aOY hb.1.1 (aMM j) ⟨x.Key,x.dO,(mP t.cS bi).Head⟩
       grind [AE]
      ·have e:(j.Pc == 12)=false:=by grind
       simp only [e,bC,if_false,if_neg p12,aG]
       grind [aL]
def aQ7(t:Table)(w:Int)(p:List bT×aE):Table:={t with cS:=p.1,aN:=t.aN.set w.toNat p.2}
theorem aSO(hk1:∀x∈t.cS,BkV x):tF t w=some (aQ7 t w (aG7 t.cS (dQ t w))):=by
 have hjob:=wH h3 hw
 have hd:=hj.held
 unfold tF aG7 aQ7
 rw [hjob,aG]
 generalize hjj:dQ t w=j at *
 have hheld:j.aW.length<=2:=by
  match h:j.aW,hd with
  | [],_=>simp
  | [_],_=>simp
  | [_,_],_=>simp
  | x :: y :: z :: r, ⟨hm, hn⟩ =>
   (simp_all;omega)
 by_cases hp:0 < j.aW.length
 ·have er:DR j=j.aW[0]:=by grind [DR]
  have hbk:=hd.1 j.aW[0] (dC hp)
  rw [<-er] at hbk
  have hbv:BkV (mP t.cS (DR j)):=by
   grind [mP]
  have hver:=hbv.2.1
  rw [if_pos (by grind),if_pos hp,show(0:Int)=((0:Nat):Int) from rfl,aP hp,aG,<-er,VM h2 hbk,aG]
  have un:∀k,j8 t w k=some {t with cS:=k,aN:=t.aN.set w.toNat {j with aW:=j.aW.drop 1}}:=fun k=>by
   grind [j8,aMQ]
  by_cases p14:j.Pc=14
  ·have e:(j.Pc == 14)=true:=by grind
   simp only [e,if_true,if_pos p14]
   grind [aL]
  ·have e:(j.Pc == 14)=false:=by simpa using p14
   simp only [e,bC,if_false,if_neg p14]
   rw [un]
 ·rw [if_neg (by simpa using hp),if_neg hp]
  by_cases p16:j.Pc=16
  ·have e:(j.Pc == 16)=true:=by simpa using p16
   simp only [e,if_true,if_pos p16]
  ·have e:(j.Pc == 16)=false:=by simpa using p16
   simp only [e,bC,if_false,if_neg p16]
   rw [aW3 (j:={j with Pc:=15,K:=0}) (Int.le_refl _)];rfl
theorem aO6:tG t w=some (SO t w (aO2 t.aB w (dQ t w))):=by
 have hjob:=wH h3 hw
 have hk:=hj.k
 unfold tG uF aO2 SO
 rw [hjob,aG,aG]
 generalize hjj:dQ t w=j at *
 by_cases hp:(j.cG.length:Int)<=j.K
 ·grind
 ·rw [if_neg (by grind),if_neg hp,aG,Y6 hb hw,aG]
  generalize DW t.aB w j.Sub=r
  cases hd:r.2.dJ
  ·simp
  ·simp only [hd,if_true]
   grind [aL,aW3]
theorem drop_eq:y8 t w=some (SO t w (aO3 t.aB w (dQ t w))):=by
 have hjob:=wH h3 hw
 have hn:=hj.new
 unfold y8 aO3 SO
 rw [hjob,aG]
 generalize hjj:dQ t w=j at *
 by_cases hp:j.fL.length=0
 ·grind
 ·have hp0:0 < j.fL.length:=by omega
  have er:j.fL.getD 0 0=j.fL[0]:=by grind
  have hh:=hn.2 j.fL[0] (dC hp0)
  rw [<-er] at hh
  rw [if_neg (by grind),if_neg hp,show(0:Int)=((0:Nat):Int) from rfl,aP hp0,aG,<-er,show((0:Nat):Int)=0 from rfl,aMQ hp0 (by omega),aG,(lZ.mod hh).1,QL hb.1.2.2.1,aG]
  by_cases hl:aW t.aB.bJ (j.fL.getD 0 0 % 32)
  ·grind
  ·rw [dP hl,if_pos (by rfl),if_neg hl]
   obtain⟨c,e⟩:=aO5 hb.1.1 hw (j.fL.getD 0 0)
   rw [e];rfl
theorem aO7(hl:t.Log.length<=1000000):qT t w=some {t with aN:=t.aN.set w.toNat kU,Log:=t.Log ++ [tlE w (dQ t w)]}:=by
 have hjob:=wH h3 hw
 unfold qT tlE
 rw [hjob,aG]
 generalize hjj:dQ t w=j at *
 by_cases hc:j.Code=0
 ·have e:(j.Code == 0)=true:=by grind
  simp only [e,if_true,if_pos hc]
  rw [aK (by simp;omega)];rfl
 ·have e:(j.Code == 0)=false:=by grind
  simp only [e,bC,if_false,if_neg hc]
  rw [aK (by simp;omega)];rfl
end
end Go.Gv
end
noncomputable section
namespace Go.Gv
theorem aSP{b:aB}(hb:sB b){w:Int}(hw:0<=w/\w<=2):∃c,y9 b w=some (c,{b with aH:=(aJ3 b.aH w).1}):=by
 obtain⟨r,e1,e2,_,_⟩:=aMF hb.1.2.1 hw
 rw [aH7 hb.1.2.1 hw] at e1
 simp_all [y9]
noncomputable section
variable {t:Table} {w:Int} (h3:t.aN.length=3) (h2:t.cS.length=2) (hb:sB t.aB) (hw:0<=w/\w<=2)
include h3 h2 hb hw
theorem aZS(hq3:t.gZ.length=3)(hqv:∀q∈t.gZ,q.List.length<=12/\∀b∈q.List,TU b)(hs:0<=t.aS/\t.aS<=1000000)(hl:t.Log.length<=1000000) :
  vK t w=some (if (XT t w).length=0\/t.aS=1000000 then t else aWY t w ((XT t w).getD 0 ⟨false,[]⟩)):=by
 have hqi:w.toNat < t.gZ.length:=by omega
 have hq:idx t.gZ w=some ⟨XT t w⟩:=by
  simp_all [gT,XT]
 have hqm:(⟨XT t w⟩:aI)∈t.gZ:=by
  unfold XT
  rw [VQ,fT hqi]
  exact dC _
 have hqq:=hqv _ hqm
 simp only at hqq
 unfold vK
 rw [hq,aG]
 simp only
 by_cases h0:(XT t w).length=0
 ·simp_all [kZ]
 ·have e:(((XT t w).length:Int) == 0)=false:=by grind
  rw [if_neg (by rw [e];simp)]
  unfold kZ
  by_cases hm:t.aS=1000000
  ·grind
  ·have e:(t.aS == 1000000)=false:=by grind
   have hp0:0 < (XT t w).length:=by omega
   have er:(XT t w).getD 0 ⟨false,[]⟩=(XT t w)[0]:=by grind
   have hbv:=hqq.2 (XT t w)[0] (dC hp0)
   rw [<-er] at hbv
   rw [if_neg (by rw [e];simp),hq,aG]
   simp only
   have i0:idx (XT t w) 0=some ((XT t w)[0]):=aP hp0
   rw [i0,aG,<-er,if_neg (fun q=>q.elim h0 hm)]
   unfold GY
   rw [aK (by omega),aG]
   generalize hbb:(XT t w).getD 0 ⟨false,[]⟩=b at *
   simp only [j5,aG]
   unfold wT
   have fin:∀x:aE,x.aS=t.aS+1->x.Batch.Collect=b.Collect->kY t w ⟨XT t w⟩ b x=some ⟨t.aB,t.cS,t.aN.set w.toNat {x with Batch:=⟨x.Batch.Collect,b.bK⟩,Reads:=[],aJ:=[],eA:=[],fL:=[],aW:=[],cG:=[]},t.gZ.set w.toNat ⟨(XT t w).drop 1⟩,t.Log ++ [⟨1,w,t.aS+1,0,b.bK,[]⟩],t.aS+1⟩:=fun x hx _=>by
    unfold kY o8 wS
    rw [wH h3 hw,aG,aK (by have:=hbv.2.1;simp;omega),aG,aK (by simp;omega),hx,aL (by omega) (by omega)];rfl
   have e1:aX (t.aS+1)=t.aS+1:=aL (by omega) (by omega)
   unfold aWY JY
   cases hc:b.Collect
   ·rw [if_neg (by simp),fin _ (by omega) (by grind)]
    simp only [e1,hc,bC,if_false]
    have eb:(⟨false,b.bK⟩:Batch)=b:=by cases b;grind
    rw [eb];rfl
   ·rw [if_pos rfl]
    simp only [j5,aG]
    rw [fin _ (by omega) (by grind)]
    simp only [e1,hc,if_true]
    have eb:(⟨true,b.bK⟩:Batch)=b:=by cases b;grind
    rw [eb];rfl
end
theorem PF(t:Table)(w:Int)(p:aB×aE):aFI t w ⟨p.1,t.cS,p.2,[]⟩=SO t w p:=by grind [aFI,SO]
theorem aW5{t:Table}(hv:TV t)(hl:t.Log.length<=1000000){w:Int}(hw:0<=w/\w<=2):zA t w=some (PE t w):=by
 have h3:=hv.aBM.1
 have h2:=hv.bk.1
 have hb:=hv.base
 have hjob:=wH h3 hw
 have hjv:=hv.aBM.2 _ (aB7 h3 hw)
 unfold zA PE
 rw [hjob,aG]
 cases hbusy:(dQ t w).iY
 ·simp only [HB,if_true,bC,if_false]
  rw [aZS h3 h2 hb hw hv.todo.1 hv.todo.2 hv.ser hl];rfl
 ·have hj : JB (dQ t w) := hjv.resolve_left fun e => by rw [e] at hbusy; cases hbusy
  simp only [gY,bC,if_false,if_true]
  unfold doF
  by_cases p0:(dQ t w).Pc=0\/(dQ t w).Pc=20\/(dQ t w).Pc=21
  ·rw [if_pos p0,PF]
   have go:iD t w (dQ t w) true=some (SO t w (aMO t.aB w (dQ t w))):=by
    simp_all [iD,aW1]
   grind
  ·rw [if_neg p0]
   have e0:((dQ t w).Pc == 0)=false:=by simp;omega
   have e20:((dQ t w).Pc == 20)=false:=by simp;omega
   have e21:((dQ t w).Pc == 21)=false:=by simp;omega
   simp only [e0,e20,e21,bC,if_false]
   unfold iD
   simp only [bC,if_false,eH,aG]
   by_cases p1:(dQ t w).Pc=1
   ·have e:((dQ t w).Pc == 1)=true:=by grind
    simp_all [SN,aW0,aFI]
   ·have e : ((dQ t w).Pc == 1) = false := by grind
    simp only [e,bC,if_false,if_neg p1]
    by_cases p2:2<=(dQ t w).Pc/\(dQ t w).Pc<=5
    ·simp_all [aZP,aFI,aMP]
    ·simp only [dP p2,bC,if_false,if_neg p2]
     by_cases p6:(dQ t w).Pc=6
     ·simp_all [aSN,PF]
     ·have e : ((dQ t w).Pc == 6) = false := by grind
      simp only [e,bC,if_false,if_neg p6]
      by_cases p7:(dQ t w).Pc=7
      ·have e:((dQ t w).Pc == 7)=true:=by grind
       simp only [e,if_true,if_pos p7]
       rw [aZQ h3 h2 hb hw hj hl];rfl
      ·have e : ((dQ t w).Pc == 7) = false := by grind
       simp only [e,bC,if_false,if_neg p7]
       by_cases p8:(dQ t w).Pc=8
       ·simp_all [aW2,aFI,aMP]
       ·have e : ((dQ t w).Pc == 8) = false := by grind
        simp only [e,bC,if_false,if_neg p8]
        by_cases p9:9<=(dQ t w).Pc/\(dQ t w).Pc<=13
        ·simp_all [aW4,aFI,aO4]
        ·simp only [dP p9,bC,if_false,if_neg p9]
         by_cases p14:(dQ t w).Pc=14\/(dQ t w).Pc=16
         ·rw [if_pos p14]
          have go:jQ t w (dQ t w) true=some (aQ7 t w (aG7 t.cS (dQ t w))):=by
           unfold jQ
           rw [if_pos rfl,aSO h3 h2 hb hw hj hv.bk.2];rfl
          grind [aQ7,aFI]
         ·have e14:((dQ t w).Pc == 14)=false:=by simp;omega
          have e16:((dQ t w).Pc == 16)=false:=by simp;omega
          simp only [e14,e16,bC,if_false,if_neg p14]
          unfold jQ
          simp only [bC,if_false]
          by_cases p15:(dQ t w).Pc=15
          ·simp_all [aO6,PF]
          ·have e:((dQ t w).Pc == 15)=false:=by grind
           simp only [e,bC,if_false,if_neg p15]
           by_cases p17:(dQ t w).Pc=17
           ·simp_all [drop_eq,PF]
           ·have e:((dQ t w).Pc == 17)=false:=by grind
            simp only [e,bC,if_false,if_neg p17]
            by_cases p18:(dQ t w).Pc=18
            ·have e:((dQ t w).Pc == 18)=true:=by grind
             simp only [e,if_true,if_pos p18]
             grind [aSP,aFI]
            ·have e:((dQ t w).Pc == 18)=false:=by grind
             simp only [e,bC,if_false,if_neg p18]
             by_cases p19:(dQ t w).Pc=19
             ·have e:((dQ t w).Pc == 19)=true:=by grind
              simp only [e,if_true,if_pos p19]
              rw [aO7 h3 h2 hb hw hj hl];rfl
             simp_all [aFI,cH,VK]
end Go.Gv
end
noncomputable section
namespace Go.Gv
def aMR(o:List aU)(x:aU):List aU:=o.takeWhile (fun y=>!decide (x.Key < y.Key)) ++ [x]++o.dropWhile (fun y=>!decide (x.Key < y.Key))
theorem aIG(y:aU)(r:List aU)(x:aU):aMR (y :: r) x=if x.Key < y.Key then x :: y :: r else y :: aMR r x:=by
 grind [aMR,List.takeWhile_cons,List.dropWhile_cons]
theorem aMS(o:List aU)(x z:aU):z∈aMR o x↔z=x\/z∈o:=by
 induction o with
 | nil=>simp [aMR]
 | cons y r ih =>
  grind [aIG]
theorem aMT{o:List aU}{x:aU}(hs:o.Pairwise (fun a b=>a.Key < b.Key))(hx:∀y∈o,y.Key≠x.Key):(aMR o x).Pairwise (fun a b=>a.Key < b.Key):=by
 induction o with
 | nil=>simp [aMR]
 | cons y r ih =>
  grind [aIG,List.pairwise_cons,aMS]
theorem aW6{l:List aU}(h:WrV l){x:aU}(hx:(0<=x.Key/\x.Key<=99)/\(0<=x.dO/\x.dO<=65535))(hl:(aEY l x).length<=6):WrV (aEY l x):=by
 refine⟨hl,fun y hy=>?_,?_⟩
 ·rcases(aMS _ _ _).1 (show y∈aMR _ x from hy) with rfl | hy
  ·exact hx
  ·exact h.2.1 y (List.mem_filter.1 hy).1
 ·exact aMT (h.2.2.sublist List.filter_sublist) fun y hy=>by
   grind
theorem aW7{a b:Int}(ha:0<=a/\a<=4294967295)(hb:0<=b/\b<=65535):0<=aBJ a b/\aBJ a b<=65535:=by
 grind [aBJ,aL]
noncomputable section
variable {j:aE} (hj:JB j)
include hj
theorem JB.ab(c:Int):JB (VK j c):=⟨hj.busy,hj.bat,hj.h,hj.prev,hj.bkt,hj.at_,hj.k,hj.new,hj.old,hj.reads,hj.wr,hj.held,hj.res,hj.node⟩
theorem JB.pc(p:Int):JB {j with Pc:=p}:=⟨hj.busy,hj.bat,hj.h,hj.prev,hj.bkt,hj.at_,hj.k,hj.new,hj.old,hj.reads,hj.wr,hj.held,hj.res,hj.node⟩
theorem JB.sub(s:Sub):JB {j with Sub:=s}:=⟨hj.busy,hj.bat,hj.h,hj.prev,hj.bkt,hj.at_,hj.k,hj.new,hj.old,hj.reads,hj.wr,hj.held,hj.res,hj.node⟩
theorem JB.kk{k:Int}(h:0<=k/\k<=6):JB {j with K:=k}:=⟨hj.busy,hj.bat,hj.h,hj.prev,hj.bkt,hj.at_,h,hj.new,hj.old,hj.reads,hj.wr,hj.held,hj.res,hj.node⟩
theorem JB.nd{n:bP}(h:0<=n.dO/\n.dO<=4294967295):JB {j with Node:=n}:=⟨hj.busy,hj.bat,hj.h,hj.prev,hj.bkt,hj.at_,hj.k,hj.new,hj.old,hj.reads,hj.wr,hj.held,hj.res,h⟩
theorem JB.hh{x:Int}(h:kT x):JB {j with H:=x}:=⟨hj.busy,hj.bat,h,hj.prev,hj.bkt,hj.at_,hj.k,hj.new,hj.old,hj.reads,hj.wr,hj.held,hj.res,hj.node⟩
theorem JB.pv{x:Int}(h:kT x):JB {j with fF:=x}:=⟨hj.busy,hj.bat,hj.h,h,hj.bkt,hj.at_,hj.k,hj.new,hj.old,hj.reads,hj.wr,hj.held,hj.res,hj.node⟩
theorem JB.rd2:j.Reads.length<=2:=by
 have hn:=hj.reads.2
 have hm:∀x∈j.Reads.map Seen.bT,x=0\/x=1:=fun x hx=>by
  obtain⟨s,hs,rfl⟩:=List.mem_map.1 hx
  have:=hj.reads.1 s hs;omega
 have hl:(j.Reads.map Seen.bT).length<=2:=by
  match h:j.Reads.map Seen.bT,hn,hm with
  | [],_,_=>simp
  | [_],_,_=>simp
  | [_,_],_,_=>simp
  | x :: y :: z :: r, hn, hm =>
   (simp_all;omega)
 grind
theorem JB.cmd(h:PD j):TS (jY j):=by
 have ha:=hj.at_
 have hi:j.At.toNat < j.Batch.bK.length:=by grind [PD]
 unfold jY
 rw [VQ,fT hi]
 exact hj.bat.2.2.1 _ (dC hi)
theorem JB.aJ6(h:PD j)(is:Bool)(v:Int):JB (Gv.aJ6 j is v):=by
 have h':j.At < j.Batch.bK.length:=h
 have ha:=hj.at_;have hr:=hj.res
 exact⟨hj.busy,hj.bat,hj.h,hj.prev,hj.bkt,⟨by show 0<=j.At+1;omega,by show j.At+1<=(j.Batch.bK.length:Int);omega⟩,hj.k,hj.new,hj.old,hj.reads,hj.wr,hj.held,by show(((j.eA ++ [_]).length:Nat):Int)=j.At+1;simp;omega,hj.node⟩
theorem JB.rcw{x:aU}(hx:(0<=x.Key/\x.Key<=99)/\(0<=x.dO/\x.dO<=65535)):JB (KA j x).2:=by
 unfold KA
 split
 ·exact hj.ab 1
 ·exact⟨hj.busy,hj.bat,hj.h,hj.prev,hj.bkt,hj.at_,hj.k,hj.new,hj.old,hj.reads,aW6 hj.wr hx (by omega),hj.held,hj.res,hj.node⟩
theorem aFL(x:aU):(KA j x).2.Batch=j.Batch:=by grind [KA,VK]
theorem JB.ans(h:PD j){c:iG}(hc:TS c){v:Int}(hv:0<=v/\v<=4294967295)(is:Bool):JB (aG4 j c v is):=by
 unfold aG4
 split
 ·have hv':0<=(if is then v else 0)/\(if is then v else 0)<=4294967295:=by omega
  generalize (if is then v else 0)=u at hv'
  unfold aWV
  have hr:=hj.rcw (x:=⟨c.Key,false,aBJ u c.dO⟩) ⟨hc.2.1,aW7 hv' hc.2.2.1⟩
  split
  ·refine hr.aJ6 ?_ _ _
   grind [PD,aFL,Y7]
  ·exact hr
 ·exact hj.aJ6 h _ _
theorem JB.jnx:JB (aOZ j):=by
 unfold aOZ
 split
 ·rename_i h
  have hc:=hj.cmd h
  have h':j.At < j.Batch.bK.length:=h
  have ha:=hj.at_;have hr:=hj.res
  split
  ·have hr':=hj.rcw (x:=⟨(jY j).Key,(jY j).Kind == 3,(jY j).dO⟩) ⟨hc.2.1,hc.2.2.1⟩
   split
   ·refine⟨hr'.busy,hr'.bat,hr'.h,hr'.prev,hr'.bkt,⟨by grind,?_⟩,hr'.k,hr'.new,hr'.old,hr'.reads,hr'.wr,hr'.held,by grind,hr'.node⟩
    grind [aFL]
   ·exact hr'
  ·split
   ·refine hj.ans h hc ?_ _
    unfold aG1
    split
    ·rename_i x hf
     have:=hj.wr.2.1 x (List.mem_of_find?_eq_some hf)
     grind
    simp
   ·exact⟨hj.busy,hj.bat,hj.h,hj.prev,by show 0<=FM _/\FM _<=1;unfold FM;rw [if_pos hc.2.1];omega,hj.at_,hj.k,hj.new,hj.old,hj.reads,hj.wr,hj.held,hj.res,hj.node⟩
 ·exact((hj.pc 6).kk (k:=0) (by omega)).sub _
theorem JB.spt(b v:Int)(hb:0<=b/\b<=1):JB {j with Reads:=(G9 j.Reads b v).1}:=by
 refine⟨hj.busy,hj.bat,hj.h,hj.prev,hj.bkt,hj.at_,hj.k,hj.new,hj.old,?_,hj.wr,hj.held,hj.res,hj.node⟩
 show(∀s∈(G9 j.Reads b v).1,0<=s.bT/\s.bT<=1)/\((G9 j.Reads b v).1.map Seen.bT).Nodup
 unfold G9
 split
 ·exact hj.reads
 ·rename_i hf
  refine⟨fun s hs=>?_,?_⟩
  ·rcases gC.1 hs with hs | hs
   ·exact hj.reads.1 s hs
   grind
  ·rw [wI,List.nodup_append]
   refine⟨hj.reads.2,by simp,fun a ha c hc=>?_⟩
   grind
theorem JB.pl(h:j.K < j.aJ.length)(x:aU):JB (plF j x):=by
 have hk:=hj.k;have hw:=hj.wr.1
 unfold plF
 split
 ·exact(hj.pc 9).kk (k:=j.K+1) (by omega)
 ·exact hj.pc 12
theorem JB.a58:JB (aFH j):=by
 unfold aFH
 split
 ·rename_i h
  refine⟨hj.busy,hj.bat,hj.h,hj.prev,hj.bkt,hj.at_,hj.k,hj.new,⟨by grind,fun x hx=>?_⟩,hj.reads,hj.wr,hj.held,hj.res,hj.node⟩
  rcases gC.1 hx with hx | hx
  ·exact hj.old.2 x hx
  grind
 ·exact hj
theorem JB.rtn:JB (aMN j):=by
 unfold aMN
 split
 ·exact hj.sub _
 ·exact hj
end
theorem aZT{l:List Int}(h:pX l){a:Nat}(ha:a+4<=l.length):0<=ld l a 4/\ld l a 4<=4294967295:=by
 rw [ld4 ha]
 have b:∀k,k < l.length->0<=bt l k/\bt l k<=255:=fun k hk=>by rw [<-aOO hk];exact h _ (dC hk)
 grind
theorem aMU{m:Mem}(hm:pY m)(x:Int):0<=(TQ m.Heap x).dO/\(TQ m.Heap x).dO<=4294967295:=by
 unfold TQ
 split
 ·rename_i h
  have hr:=(Y3 h.2.1 h.2.2).1
  have h1:=hm.1.1.1.1
  exact aZT hm.1.1.1.2.2.1 (by omega)
 ·show(0:Int)<=0/\(0:Int)<=4294967295;omega
theorem aW8(l:List aU)(n:Int):FL l n<=l.length:=by
 grind [FL]
theorem aZU{k:List bT}{i:Int}(h2:k.length=2)(hi:0<=i/\i<=1):mP k i∈k:=by
 grind [mP]
theorem aB8{k:List bT}(h:k.length=2/\∀x∈k,BkV x)(i:Nat){y:bT}(hy:BkV y):(k.set i y).length=2/\∀x∈k.set i y,BkV x:=
 ⟨by grind,fun x hx=>(sQ hx).elim (h.2 x) fun e=>e ▸ hy⟩
theorem a2T{b:aB}(hb:sB b){w x:Int}(hw:0<=w/\w<=2)(hx:lZ x)(hn:¬aW b.bJ (x % 32)):sB {b with Mem:=aWW b.Mem w x}:=by
 unfold aWW
 by_cases hl:oH b.Mem x
 ·obtain⟨m',e1,e2,_,h⟩:=aJ2 hb.1.1 hw hl
  rw [aFB hb.1.1 hw hl] at e1
  injection e1 with e1
  rw [if_pos hl,e1]
  refine⟨⟨h.1,hb.1.2⟩,fun r hr=>⟨h.live (hb.2 r hr).1 ?_,(hb.2 r hr).2⟩⟩
  intro e
  exact hn ⟨r,hr,(hb.2 r hr).1.1,e⟩
 simp_all
structure TRV (r:TR):Prop where
 b:sB r.b
 k:r.k.length=2/\∀x∈r.k,BkV x
 j:r.j=kU\/JB r.j
theorem aBK{c:Prop}[Decidable c]{a b:TR}(h1:c->TRV a)(h2:¬c->TRV b):TRV (if c then a else b):=by
 grind
theorem a2U{b:aB}{k:List bT}{w:Int}{j:aE}(hb:sB b)(hk:k.length=2/\∀x∈k,BkV x)(hw:0<=w/\w<=2)(hj:JB j):TRV (doF b k w j):=by
 have hkk:=hj.k;have hwr:=hj.wr;have hrd:=hj.rd2;have hbs:=aZO hb hw j.Sub
 have bkv:∀{i},0<=i/\i<=1->BkV (mP k i):=fun hi=>hk.2 _ (aZU hk.1 hi)
 unfold doF
 refine aBK (fun _=>?_) fun _=>?_
 ·refine⟨hbs,hk,.inr ?_⟩
  unfold aMO
  split
  ·exact hj.sub _
  ·split
   ·exact(hj.pc 1).sub _
   ·split
    ·exact(hj.pc 21).sub _
    ·exact(hj.pc 19).sub _
 refine aBK (fun _=>?_) fun _=>?_
 ·exact⟨hb,hk,.inr hj.jnx⟩
 refine aBK (fun _=>?_) fun _=>?_
 ·refine ⟨hb, hk, .inr ?_⟩
  unfold aID
  have hbk:=bkv hj.bkt
  split
  ·split
   ·exact hj.ab _
   ·have h1:JB {j with fM:=(mP k j.bT).fM}:=⟨hj.busy,hj.bat,hj.h,hj.prev,hj.bkt,hj.at_,hj.k,hj.new,hj.old,hj.reads,hj.wr,hj.held,hj.res,hj.node⟩
    have h2:JB {j with fM:=(mP k j.bT).fM,Found:=false}:=⟨hj.busy,hj.bat,hj.h,hj.prev,hj.bkt,hj.at_,hj.k,hj.new,hj.old,hj.reads,hj.wr,hj.held,hj.res,hj.node⟩
    exact((h2.hh hbk.1).nd (n:=aMG) (by show(0:Int)<=0/\(0:Int)<=4294967295;omega)).pc _
  ·split
   ·exact(hj.nd (aMU hb.1.1 _)).pc _
   ·split
    ·split
     ·exact hj.ab _
     ·split
      ·have h1:JB {j with Found:=j.Node.Key == (jY j).Key}:=⟨hj.busy,hj.bat,hj.h,hj.prev,hj.bkt,hj.at_,hj.k,hj.new,hj.old,hj.reads,hj.wr,hj.held,hj.res,hj.node⟩
       exact(h1.hh (Y5 _)).pc _
      ·exact hj.ab _
    ·split
     ·exact hj.ab _
     ·have hs:=hj.spt j.bT j.fM hj.bkt
      split
      ·exact hs.ab _
      ·split
       ·rename_i h
        exact hs.ans h (hj.cmd h) hj.node _
       ·exact hs.ab _
 refine aBK (fun _=>?_) fun _=>?_
 ·unfold aO0
  split
  ·exact⟨hb,hk,.inr ((hj.pc 7).kk (k:=0) (by omega))⟩
  ·rename_i hp
   have:=aW8 j.aJ j.aJ.length
   have:=hwr.1
   refine⟨hbs,hk,.inr ?_⟩
   simp only
   split
   ·exact hj.sub _
   ·split
    ·exact(hj.sub _).ab _
    ·rename_i hq
     have q1:lZ (DW b w j.Sub).2.Out:=Classical.byContradiction fun q=>hq (.inr (.inl q))
     have q2:j.fL.length < 6:=by
      omega
     refine⟨hj.busy,hj.bat,hj.h,hj.prev,hj.bkt,hj.at_,⟨by grind,by grind⟩,⟨by grind,fun x hx=>?_⟩,hj.old,hj.reads,hj.wr,hj.held,hj.res,hj.node⟩
     rcases gC.1 hx with hx | hx
     ·exact hj.new.2 x hx
     grind
 refine aBK (fun _=>?_) fun _=>?_
 ·have ht:=aZH j.aJ
  unfold aG5
  split
  ·rename_i hp
   have hi:j.K.toNat < (C8 j.aJ).length:=by omega
   have er:gU j=(C8 j.aJ)[j.K.toNat]:=by grind [gU]
   have hbk:0<=gU j/\gU j<=1:=by grind [aE0,dC]
   have hbv:=bkv hbk
   have hset:=aB8 hk (gU j).toNat (y:={mP k (gU j) with fO:=w+1}) ⟨hbv.1,hbv.2.1,by grind⟩
   have hlh:JB (aFG j):=by
    refine⟨hj.busy,hj.bat,hj.h,hj.prev,hj.bkt,hj.at_,⟨by show 0<=j.K+1;omega,by show j.K+1<=6;omega⟩,hj.new,hj.old,hj.reads,hj.wr,?_,hj.res,hj.node⟩
    show(∀x∈(if gU j∈j.aW then j.aW else j.aW ++ [gU j]),0<=x/\x<=1)/\(if gU j∈j.aW then j.aW else j.aW ++ [gU j]).Nodup
    split
    ·exact hj.held
    ·rename_i hm
     refine⟨fun x hx=>?_,?_⟩
     ·rcases gC.1 hx with hx | hx
      ·exact hj.held.1 x hx
      grind
     ·rw [List.nodup_append]
      exact⟨hj.held.2,by simp,fun a ha c hc e=>by grind⟩
   split
   ·exact⟨hb,hk,.inr (hj.ab _)⟩
   ·split
    ·exact⟨hb,hk,.inr (hj.ab _)⟩
    ·split
     ·exact⟨hb,hset,.inr ((hlh.pc 8).kk (k:=0) (by omega))⟩
     ·exact⟨hb,hset,.inr hlh⟩
  ·exact⟨hb,hk,.inr ((hj.pc 8).kk (k:=0) (by omega))⟩
 refine aBK (fun _=>?_) fun _=>?_
 ·refine⟨hb,hk,.inr ?_⟩
  unfold aSM
  split
  ·exact(hj.pc 9).kk (k:=0) (by omega)
  ·split
   ·exact hj.ab _
   ·exact hj.kk (k:=j.K+1) (by omega)
 refine aBK (fun _=>?_) fun _=>?_
 ·have hwl:=hwr.1
  unfold aG6
  split
  ·exact⟨hb,hk,.inr (hj.pc 14)⟩
  ·rename_i hp
   have hi:j.K.toNat < j.aJ.length:=by omega
   have er:XZ j=j.aJ[j.K.toNat]:=by grind [XZ]
   have hx:=hwr.2.1 j.aJ[j.K.toNat] (dC hi)
   rw [<-er] at hx
   have hbk:0<=FM (XZ j).Key/\FM (XZ j).Key<=1:=by unfold FM;omega
   have hbv:=bkv hbk
   have l0:kT 0:=.inl rfl
   split
   ·have h1:=((hj.pc 10).hh hbv.1).pv l0
    refine⟨hb,hk,.inr ?_⟩
    simp only
    split
    ·exact h1.pl (by grind) _
    ·exact h1
   ·split
    ·have h1:=hj.nd (aMU hb.1.1 j.H)
     refine⟨hb,hk,.inr ?_⟩
     simp only
     split
     ·exact h1.pc 11
     ·split
      ·exact h1.pl (by grind) _
      ·exact(h1.hh (Y5 _)).pv hj.h
    ·split
     ·have h1:=hj.a58
      have hkl:(aFH j).K < (aFH j).aJ.length:=by
       grind [aFH]
      split
      ·exact⟨hb,aB8 hk _ ⟨Y5 _,hbv.2⟩,.inr (h1.pl hkl _)⟩
      ·exact⟨hb.mem (aWR hb.1.1 _ _),hk,.inr (h1.pl hkl _)⟩
     ·split
      ·exact⟨hb,hk,.inr (hj.ab _)⟩
      ·rename_i hn
       have hpn:0<=FL j.aJ j.K:=by grind [FL]
       have hi2:(FL j.aJ j.K).toNat < j.fL.length:=by omega
       have en:aMM j=j.fL[(FL j.aJ j.K).toNat]:=by grind [aMM]
       have hnew:lZ (aMM j):=by rw [en];exact hj.new.2 _ (dC hi2)
       split
       ·exact⟨hb.mem (aWQ hb.1.1 _ _),hk,.inr (hj.pc 13)⟩
       ·exact⟨hb,aB8 hk _ ⟨.inr hnew,hbv.2⟩,.inr ((hj.pc 9).kk (k:=j.K+1) (by omega))⟩
 refine aBK (fun _=>?_) fun _=>?_
 ·unfold aG7
  split
  ·rename_i hp
   have er:DR j=j.aW[0]:=by grind [DR]
   have hbk:=hj.held.1 j.aW[0] (dC hp)
   rw [<-er] at hbk
   have hbv:=bkv hbk
   have hver:=hbv.2.1
   refine⟨hb,aB8 hk _ ?_,.inr ⟨hj.busy,hj.bat,hj.h,hj.prev,hj.bkt,hj.at_,hj.k,hj.new,hj.old,hj.reads,hj.wr,⟨fun x hx=>hj.held.1 x (aCF hx),hj.held.2.sublist (List.drop_sublist _ _)⟩,hj.res,hj.node⟩⟩
   split
   ·refine⟨hbv.1,?_,by simp⟩
    grind
   ·exact⟨hbv.1,hbv.2.1,by simp⟩
  ·split
   ·exact⟨hb,hk,.inr (hj.pc 17)⟩
   ·exact⟨hb,hk,.inr (((hj.pc 15).kk (k:=0) (by omega)).rtn)⟩
 refine aBK (fun _=>?_) fun _=>?_
 ·have hol:=hj.old.1
  unfold aO2
  split
  ·exact⟨hb,hk,.inr (hj.pc 18)⟩
  ·refine⟨hbs,hk,.inr ?_⟩
   simp only
   split
   ·exact((hj.kk (k:=j.K+1) (by omega)).sub _).rtn
   ·exact hj.sub _
 refine aBK (fun _=>?_) fun _=>?_
 ·unfold aO3
  split
  ·exact⟨hb,hk,.inr (hj.pc 18)⟩
  ·rename_i hp
   have hp0:0 < j.fL.length:=by omega
   have er:j.fL.getD 0 0=j.fL[0]:=by grind
   have hh:=hj.new.2 j.fL[0] (dC hp0)
   rw [<-er] at hh
   refine⟨?_,hk,.inr ⟨hj.busy,hj.bat,hj.h,hj.prev,hj.bkt,hj.at_,hj.k,⟨by show(j.fL.drop 1).length<=6;have:=hj.new.1;simp;omega,fun x hx=>hj.new.2 x (aCF hx)⟩,hj.old,hj.reads,hj.wr,hj.held,hj.res,hj.node⟩⟩
   grind [a2T]
 refine aBK (fun _=>?_) fun _=>?_
 ·obtain⟨r,e1,e2,h1,h2⟩:=aMF hb.1.2.1 hw
  rw [aH7 hb.1.2.1 hw] at e1
  injection e1 with e1
  refine⟨hb.clock (by grind) (by grind),hk,.inr (hj.pc 19)⟩
 refine aBK (fun _=>?_) fun _=>?_
 ·exact⟨hb,hk,.inl rfl⟩
 ·exact⟨hb,hk,.inr (hj.ab 1)⟩
theorem aW9{b:Batch}(hb:TU b)(s:Int):JB (JY b s):=
 ⟨rfl,hb,.inl rfl,.inl rfl,by simp [JY],by simp [JY],by simp [JY],by simp [JY],by simp [JY],by simp [JY],⟨by simp [JY],by simp [JY],by simp [JY]⟩,by simp [JY],by simp [JY],by show(0:Int)<=0/\(0:Int)<=4294967295;omega⟩
theorem TV.step{t:Table}(hv:TV t){w:Int}(hw:0<=w/\w<=2):TV (PE t w):=by
 have hjv:=hv.aBM.2 _ (aB7 hv.aBM.1 hw)
 have setj:∀{x:aE},(x=kU\/JB x)->(t.aN.set w.toNat x).length=3/\∀j∈t.aN.set w.toNat x,j=kU\/JB j:=fun hx=>
  ⟨by simpa using hv.aBM.1,fun j hj=>(sQ hj).elim (hv.aBM.2 j) fun e=>e ▸ hx⟩
 unfold PE
 split
 ·rename_i hbusy
  have hj:JB (dQ t w):=hjv.resolve_left fun e=>by rw [e] at hbusy;cases hbusy
  have h:=a2U hv.base hv.bk hw hj
  exact⟨h.b,h.k,setj h.j,hv.todo,hv.ser⟩
 ·split
  ·exact hv
  ·rename_i hq
   have hqi:w.toNat < t.gZ.length:=by have:=hv.todo.1;omega
   have hqm:(⟨XT t w⟩:aI)∈t.gZ:=by
    unfold XT
    rw [VQ,fT hqi]
    exact dC _
   have hqq:(XT t w).length<=12/\∀b∈XT t w,TU b:=hv.todo.2 _ hqm
   have hp0:0 < (XT t w).length:=by
    omega
   have er:(XT t w).getD 0 ⟨false,[]⟩=(XT t w)[0]:=by grind
   have hbv:=hqq.2 (XT t w)[0] (dC hp0)
   rw [<-er] at hbv
   have hs:=hv.ser
   have hsn:t.aS≠1000000:=fun e=>hq (.inr e)
   unfold aWY
   refine⟨hv.base,hv.bk,setj (.inr (aW9 hbv _)),⟨by simpa using hv.todo.1,fun q hq'=>?_⟩,⟨by grind,by grind⟩⟩
   rcases sQ hq' with h | h
   ·exact hv.todo.2 q h
   ·subst h
    exact⟨by grind,fun b hb=>hqq.2 b (aCF hb)⟩
end Go.Gv
end
noncomputable section
namespace Go.Gv
theorem aO8(c:iG):OE c=some (decide (TS c)):=by
 unfold OE EC EB
 simp only [cE,aG]
 by_cases h1:1<=c.Kind/\c.Kind<=4
 ·by_cases h2:0<=c.Key/\c.Key<=99
  ·simp only [b9 h1,b9 h2,gY,bC,if_false]
   have dv:(c.Kind=2\/c.Kind=4)->decide (0<=c.dO/\c.dO<=65535)=decide (TS c):=fun k=>by
    rw [FR,decide_eq_true_eq,decide_eq_true_eq]
    exact⟨fun h=>⟨h1,h2,h,by omega⟩,fun h=>h.2.2.1⟩
   by_cases k2:c.Kind=2
   ·grind
   ·have e:(c.Kind == 2)=false:=by grind
    by_cases k4:c.Kind=4
    ·grind
    ·have e4:(c.Kind == 4)=false:=by grind
     simp only [e,e4,bC,if_false]
     congr 1
     rw [FR,beq_iff_eq,decide_eq_true_eq]
     constructor
     ·intro h;exact⟨h1,h2,by omega,.inr (.inr h)⟩
     ·rintro⟨_,_,_,h | h | h⟩ <;> omega
  simp_all [dP,TS]
 ·simp only [dP h1,HB,if_true]
  grind [TS]
theorem aO9(c:iG):OG c=some (decide (TS c)):=by
 have key:∀B:Bool,sD c B=some (decide ((1<=c.Kind/\c.Kind<=4)/\(0<=c.Key/\c.Key<=99)/\((B=true/\(0<=c.dO/\c.dO<=65535))\/c.dO=0))):=fun B=>by
  unfold sD nX
  simp only [eH,aG]
  grind
 unfold OG
 have fin:∀B:Bool,(B=true↔c.Kind=2\/c.Kind=4)->sD c B=some (decide (TS c)):=fun B hB=>by
  rw [key]
  congr 1
  rw [FR,decide_eq_true_eq,decide_eq_true_eq]
  grind [TS]
 grind
theorem aFM{b:Batch}(hl:b.bK.length<=1000):BG b=some (decide (TU b)):=by
 unfold BG
 cases hc:b.Collect
 ·rw [if_neg (by simp)]
  have hs:∀k (hk:k < b.bK.length),mZ b (k:Int)=if TS b.bK[k] then some (.next ((k+1:Nat):Int)) else some (.stop (Out.ret false)):=fun k hk=>by
   simp only [mZ]
   rw [if_pos (by simp;omega),aP hk,aG,aO8,aG,aL (by omega) (by omega)]
   simp
  have key:loop (mZ b) 0=_:=jS (f:=mZ b) b.bK (fun k=>(k:Int)) TS (Out.brk ()) (Out.ret false) (fun k hk hp=>by grind) (fun k hk hp=>by grind) (by simp [mZ])
  rw [key]
  by_cases q:∀x∈b.bK,TS x
  ·rw [if_pos q]
   simp only [aG,PL,PK,cE]
   congr 1;rw [FR,decide_eq_true_eq,decide_eq_true_eq]
   exact⟨fun a=>⟨fun h=>(by grind),by omega,q,fun _=>by omega⟩,fun a=>by have:=a.2.2.2 hc;have:=a.2.1;omega⟩
  ·rw [if_neg q,dP (show ¬TU b from fun a=>q a.2.2.1)];rfl
 ·rw [if_pos rfl]
  congr 1;rw [FR,beq_iff_eq,decide_eq_true_eq]
  constructor
  ·intro h
   have h0:b.bK=[]:=lM (by omega)
   exact⟨fun _=>h0,by omega,by grind,fun h=>by grind⟩
  ·intro h
   rw [h.1 hc];rfl
def BsV(l:List Batch):Prop:=∀b∈l,TU b
instance (l:List Batch):Decidable (BsV l):=by unfold BsV;infer_instance
theorem aFN{l:List aI}(hl:l.length<=1000)(hb:∀q∈l,∀b∈q.List,b.bK.length<=1000):BH l=some (decide (VL l)):=by
 unfold BH
 have inner:∀k (hk:k < l.length),l[k].List.length<=12->loop (m0 l (k:Int)) 0=some (if BsV l[k].List then Out.brk () else Out.ret false):=by
  intro k hk h12
  have hs:∀j (hj:j < l[k].List.length),m0 l (k:Int) (j:Int)=if TU l[k].List[j] then some (.next ((j+1:Nat):Int)) else some (.stop (Out.ret false)):=by
   intro j hj
   simp only [m0]
   rw [aP hk,aG,if_pos (by simp;omega),aG,aP hj,aG,aFM (hb _ (dC hk) _ (dC hj)),aG,aL (by omega) (by omega)]
   simp
  have:=jS (f:=m0 l (k:Int)) l[k].List (fun j=>(j:Int)) TU (Out.brk ()) (Out.ret false) (fun j hj hp=>by grind) (fun j hj hp=>by grind) (by
   simp_all [m0,aP])
  refine Eq.trans this ?_
  congr 1
 have hs:∀k (hk:k < l.length),m4 l (k:Int)=if QuV l[k] then some (.next ((k+1:Nat):Int)) else some (.stop (Out.ret false)):=by
  intro k hk
  simp only [m4]
  rw [if_pos (by simp;omega),aP hk,aG]
  by_cases h12:l[k].List.length<=12
  ·rw [if_neg (by simp;omega),inner k hk h12]
   by_cases q:BsV l[k].List
   ·rw [if_pos q,if_pos (show QuV l[k] from ⟨h12,q⟩)]
    simp only [aG,PO,PN]
    grind [aL]
   ·rw [if_neg q,if_neg (show ¬QuV l[k] from fun a=>q a.2)];rfl
  ·rw [if_pos (by simp;omega),if_neg (show ¬QuV l[k] from fun a=>h12 a.1)]
 have key:loop (m4 l) 0=_:=jS (f:=m4 l) l (fun k=>(k:Int)) QuV (Out.brk ()) (Out.ret false) (fun k hk hp=>by grind) (fun k hk hp=>by grind) (by simp [m4])
 rw [key]
 by_cases q:∀x∈l,QuV x
 ·rw [if_pos q]
  simp only [aG,PQ,PM]
  congr 1;rw [FR];simp only [beq_iff_eq,decide_eq_true_eq]
  exact⟨fun a=>⟨by omega,q⟩,fun a=>by have:=a.1;omega⟩
 ·rw [if_neg q,dP (show ¬VL l from fun a=>q a.2)];rfl
theorem Y8{α:Type}{l:List α}{f:Int->Option (Step Int (Out Unit Int))}{p:α->Bool}{m:(Out Unit Int)->Option Int}(hl:l.length<=4611686018427387904)
  (hf:∀k:Nat,f (k:Int)=if h:k < l.length then (if p l[k] then some (.stop (Out.ret (k:Int))) else some (.next ((k+1:Nat):Int))) else some (.stop (Out.brk ()))) (m1:∀r,m (.ret r)=some r) (m2:m (.brk ())=some (-1)) :
  ((loop f 0).bind m).bind (fun x1=>some (decide (0<=x1)))=some (l.any p):=by
 rcases XE (f:=f) (p:=p) hl hf l.length 0 (by omega) with ⟨j,h,_,h2,h3,h4⟩ | ⟨h1,h2⟩
 ·rw [show(0:Int)=((0:Nat):Int) from rfl,h4,aG,m1,aG,b9 (by omega)]
  grind
 ·rw [show(0:Int)=((0:Nat):Int) from rfl,h2,aG,m2,aG,dP (by omega)]
  congr 1
  refine(List.any_eq_false.2 fun x hx=>?_).symm
  obtain⟨i,hi,rfl⟩:=aCE hx
  grind
theorem aJ7{l:List iG}(hl:l.length<=1000){f:iG->Bool}{g:iG->Option Bool}(hg:∀x∈l,g x=some (f x)):o7 l g=some (l.any f):=
 Y8 (f:=o6 l g) (m:=AS) (by omega) (fun k=>by
  simp only [o6]
  by_cases h:k < l.length
  ·rw [dif_pos h,if_pos (by simp;omega),aP h,aG,hg _ (dC h),aG,aL (by omega) (by omega)];rfl
  grind) (fun _=>rfl) rfl
theorem aFO{l:List Batch}(hl:l.length<=1000){f:Batch->Bool}{g:Batch->Option Bool}(hg:∀x∈l,g x=some (f x)):mU l g=some (l.any f):=
 Y8 (f:=mT l g) (m:=wJ) (by omega) (fun k=>by
  simp only [mT]
  by_cases h:k < l.length
  ·rw [dif_pos h,if_pos (by simp;omega),aP h,aG,hg _ (dC h),aG,aL (by omega) (by omega)];rfl
  grind) (fun _=>rfl) rfl
theorem aBL{l:List aI}(hl:l.length<=1000){f:aI->Bool}{g:aI->Option Bool}(hg:∀x∈l,g x=some (f x)):l9 l g=some (l.any f):=
 Y8 (f:=l8 l g) (m:=tT) (by omega) (fun k=>by
  simp only [l8]
  by_cases h:k < l.length
  ·rw [dif_pos h,if_pos (by simp;omega),aP h,aG,hg _ (dC h),aG,aL (by omega) (by omega)];rfl
  grind) (fun _=>rfl) rfl
theorem aJ8{α:Type}{l:List α}{P:α->Prop}[DecidablePred P]:(!(l.any fun x=>!decide (P x)))=decide (∀x∈l,P x):=by
 grind
theorem aPA{b:Batch}(hl:b.bK.length<=1000):HI b=some (decide (TU b)):=by
 unfold HI
 cases hc:b.Collect
 ·rw [if_neg (by simp),eH,aG]
  by_cases h:1<=(b.bK.length:Int)/\(b.bK.length:Int)<=6
  ·rw [b9 h,if_pos rfl,aJ7 hl (f:=fun x=>!decide (TS x)) (fun x _=>by grind [IW,aO9]),aG,aJ8]
   unfold rF
   congr 1;rw [FR,decide_eq_true_eq,decide_eq_true_eq]
   exact⟨fun a=>⟨fun h=>(by grind),by omega,a,fun _=>by omega⟩,fun a=>a.2.2.1⟩
  ·rw [dP h,if_neg (by simp)]
   grind [rF,TU]
 ·rw [if_pos rfl]
  congr 1;rw [FR,beq_iff_eq,decide_eq_true_eq]
  constructor
  ·intro h
   have h0:b.bK=[]:=lM (by omega)
   exact⟨fun _=>h0,by omega,by grind,fun h=>by grind⟩
  ·intro h
   rw [h.1 hc];rfl
theorem aPB{l:List aI}(hl:l.length<=1000)(hq:∀q∈l,q.List.length<=1000)(hb:∀q∈l,∀b∈q.List,b.bK.length<=1000):HJ l=some (decide (VL l)):=by
 have e1:∀q∈l,BN q=some (!decide (QuV q)):=fun q hm=>by
  unfold BN sZ
  by_cases h:q.List.length<=12
  ·rw [if_neg (by simp;omega),aFO (hq q hm) (f:=fun x=>!decide (TU x)) (fun x hx=>by grind [DX,aPA]),aG]
   congr 1
   rw [<-Bool.not_not ((q.List.any fun x=>!decide (TU x))),aJ8]
   congr 1
   rw [FR,decide_eq_true_eq,decide_eq_true_eq]
   exact⟨fun a=>⟨h,a⟩,fun a=>a.2⟩
  ·rw [if_pos (by simp;omega),dP (show ¬QuV q from fun a=>h a.1)];rfl
 unfold HJ yL
 by_cases h:l.length=3
 ·rw [if_pos (by simp;omega),aBL hl e1,aG,aJ8]
  congr 1;rw [FR,decide_eq_true_eq,decide_eq_true_eq]
  exact⟨fun a=>⟨h,a⟩,fun a=>a.2⟩
 ·rw [if_neg (by simp;omega),dP (show ¬VL l from fun a=>h a.1)]
theorem aQ8{b:Batch}(h:b.bK.length<=1000):ED b=some b/\BO b=some b:=by
 unfold ED BO OF o8
 rw [aK (by simp;omega)]
 simp
theorem aMV{l:List aI}(hl:l.length<=1000)(hq:∀q∈l,q.List.length<=1000)(hb:∀q∈l,∀b∈q.List,b.bK.length<=1000):BL l=some l/\BS l=some l:=by
 constructor
 ·unfold BL
  rw [aE1 l]
  ·rfl
  ·intro k hk
   have h1:=hq _ (dC hk)
   simp only [BK]
   rw [if_pos (by simp;omega),S8 l[k].List]
   ·simp only [aG,KS,KR]
    rw [aK (by simp;omega),aL (by omega) (by omega)];rfl
   ·intro i hi
    simp only [BJ,BI]
    rw [aP hk,aG,if_pos (by simp;omega),aG,aP hi,aG,(aQ8 (hb _ (dC hk) _ (dC hi))).1,aG,aK (by simp;omega),aL (by omega) (by omega)];rfl
   simp_all [BJ,aP]
  grind [BK]
 ·unfold BS
  rw [aE1 l]
  ·rfl
  ·intro k hk
   have h1:=hq _ (dC hk)
   simp only [BR]
   rw [if_pos (by simp;omega),aP hk,aG,S8 l[k].List]
   ·simp only [aG,KV,KU]
    rw [aK (by simp;omega),aL (by omega) (by omega)];rfl
   ·intro i hi
    simp only [BQ,BP]
    rw [if_pos (by simp;omega),aP hi,aG,(aQ8 (hb _ (dC hk) _ (dC hi))).2,aG,aK (by simp;omega),aL (by omega) (by omega)];rfl
   grind [BQ]
  grind [BR]
def aQ9:Table:=⟨⟨⟨⟨[],[]⟩,⟨[],[]⟩⟩,⟨0,[]⟩,[],[]⟩,[],[],[],[],0⟩
def GS(t:List aI):Table:=⟨aQ6,List.replicate 2 ⟨0,0,0⟩,List.replicate 3 kU,t,[],0⟩
theorem ZP{t:List aI}(hl:t.length<=1000)(hq:∀q∈t,q.List.length<=1000)(hb:∀q∈t,∀b∈q.List,b.bK.length<=1000):EE t=some (if VL t then GS t else aQ9)/\EF t=some (if VL t then GS t else aQ9):=by
 unfold EE EF
 rw [aFN hl hb,aPB hl hq hb]
 simp only [aG]
 by_cases h:VL t
 ·simp only [b9 h,gY,bC,if_false,if_pos h,aFF.1,aFF.2,aG,(aMV hl hq hb).1,(aMV hl hq hb).2]
  rw [aK (by omega),aK (by omega)]
  exact⟨rfl,rfl⟩
 ·simp only [dP h,HB,if_true,if_neg h]
  exact⟨rfl,rfl⟩
theorem aIH{t:List aI}(h:VL t):TV (GS t):=
 ⟨aWT,⟨rfl,fun x hx=>by simp [GS] at hx;subst hx;exact⟨.inl rfl,by simp,by simp⟩⟩,⟨rfl,fun j hj=>by grind [GS]⟩,h,by show(0:Int)<=0/\(0:Int)<=1000000;omega⟩
def ZQ(t:Table)(p:Int):Table:=if 0<=p/\p<=2 then PE t p else t
def aMW(t:Table)(l:List Int):Table:=l.foldl ZQ t
theorem tM{P:TR->Prop}{c:Prop}[Decidable c]{a b:TR}(h1:c->P a)(h2:¬c->P b):P (if c then a else b):=by
 grind
theorem aZV(b:aB)(k:List bT)(w:Int)(j:aE):(doF b k w j).l.length<=1:=by
 unfold doF
 refine tM (P:=fun r=>r.l.length<=1) (fun _=>jK _) fun _=>tM (P:=fun r=>r.l.length<=1) (fun _=>jK _) fun _=>tM (P:=fun r=>r.l.length<=1) (fun _=>jK _) fun _=>tM (P:=fun r=>r.l.length<=1) (fun _=>jK _) fun _=>tM (P:=fun r=>r.l.length<=1) (fun _=>?_) fun _=>tM (P:=fun r=>r.l.length<=1) (fun _=>jK _) fun _=>tM (P:=fun r=>r.l.length<=1) (fun _=>jK _) fun _=>tM (P:=fun r=>r.l.length<=1) (fun _=>jK _) fun _=>tM (P:=fun r=>r.l.length<=1) (fun _=>jK _) fun _=>tM (P:=fun r=>r.l.length<=1) (fun _=>jK _) fun _=>tM (P:=fun r=>r.l.length<=1) (fun _=>jK _) fun _=>tM (P:=fun r=>r.l.length<=1) (fun _=>jA _) fun _=>jK _
 grind
theorem aSQ(t:Table)(p:Int):(ZQ t p).Log.length<=t.Log.length+1:=by
 unfold ZQ PE
 split
 ·split
  ·have:=aZV t.aB t.cS p (dQ t p)
   show(t.Log++_).length<=_
   grind
  ·split
   ·omega
   ·show(t.Log++_).length<=_
    simp
 ·omega
theorem aMX{t:Table}(h:TV t)(p:Int):TV (ZQ t p):=by
 unfold ZQ
 split
 ·exact h.step (by assumption)
 ·exact h
theorem aFP{P:Table->Prop}(hs:∀t w,TV t->(0<=w/\w<=2)->P t->P (PE t w)):∀(l:List Int) {t:Table},TV t->P t->TV (aMW t l)/\P (aMW t l)
 | [],t,h,hp=>⟨h,hp⟩
 | p :: l,t,h,hp=>aFP hs l (aMX h p) (by grind [ZQ])
theorem aII{x:vJ}{n:Nat}(hn:((x.iX.take ((if 400 < (x.iX.length:Int) then 400 else (x.iX.length:Int)).toNat)).drop 0)=x.iX.take n)(h400:(x.iX.take n).length<=400):∀(d k:Nat) (t:Table),k+d=(x.iX.take n).length->TV t->t.Log.length<=k->loop (nT x) ((k:Int),t)=some (aMW t ((x.iX.take n).drop k))
 | 0, k, t, hk, hv, hl => by
  rw [List.drop_of_length_le (by omega)]
  refine bG ?_
  simp only [nT,hn]
  rw [if_neg (by grind)];rfl
 | d + 1, k, t, hk, hv, hl => by
  have hkl:k < (x.iX.take n).length:=by omega
  have st:nT x ((k:Int),t)=some (.next (((k+1:Nat):Int),ZQ t (x.iX.take n)[k])):=by
   simp only [nT,hn]
   rw [if_pos (by grind),aP hkl,aG,lR,aG]
   unfold tH ZQ
   rw [aL (by omega) (by omega)]
   by_cases hp:0<=(x.iX.take n)[k]/\(x.iX.take n)[k]<=2
   ·rw [b9 hp,if_pos rfl,aW5 hv (by omega) hp,if_pos hp];rfl
   grind
  rw [bQ st,aII hn h400 d (k+1) _ (by omega) (aMX hv _) (by grind [aSQ]),IJ hkl];rfl
theorem aJ9{x:vJ}(hl:x.gZ.length<=1000)(hq:∀q∈x.gZ,q.List.length<=1000)(hb:∀q∈x.gZ,∀b∈q.List,b.bK.length<=1000)(ht:VL x.gZ):CN x=some (aMW (GS x.gZ) (x.iX.take 400)):=by
 unfold CN
 rw [(ZP hl hq hb).2,if_pos ht,aG,if_neg (by simp [GS])]
 have hn:((x.iX.take ((if 400 < (x.iX.length:Int) then 400 else (x.iX.length:Int)).toNat)).drop 0)=x.iX.take 400:=by
  (simp_all;omega)
 rw [aK (by omega),show(0:Int)=((0:Nat):Int) from rfl,aII hn (by grind) (x.iX.take 400).length 0 _ (by omega) (aIH ht) (by simp [GS]),aG]
 rfl
end Go.Gv
end
noncomputable section
namespace Go.Gv
def QuS(m:Int)(q:aI):Prop:=(q.List.length:Int)<=m/\∀x∈q.List,x.bK.length<=1000
noncomputable section
variable {b:List UInt8} {i h:Int} (hc:Cu b i)
include hc
theorem a4N:AK (E4 ⟨b,i,h⟩) (fun x=>Cu b x.2.1):=by
 unfold E4 BE BD
 refine .bind (aIC hc (by decide) (by decide)) fun x1 ⟨_,h1⟩=>.bind (below h1 (by omega)) fun x2 ⟨_,h2⟩=>.ite (fun _=>.ite (fun _=>?_) fun _=>.ret h2) fun _=>.ite (fun _=>?_) fun _=>.ret h2
 ·exact .bind (below h2 (by omega)) fun x7 ⟨_,h7⟩=>.bind (aIC h7 (by simp) (by simp)) fun x8 ⟨_,h8⟩=>.ret h8
 ·exact .bind (below h2 (by omega)) fun x7 ⟨_,h7⟩=>.bind (aIC h7 (by simp) (by simp)) fun x8 ⟨_,h8⟩=>.ret h8
theorem aZW:AK (KQ ⟨b,i,h⟩) (fun x=>Cu b x.2.1):=by
 unfold KQ o4
 refine .bind (a4N hc) fun x1 h1=>.bind (below h1 (by omega)) fun x7 ⟨_,h7⟩=>.ite (fun _=>?_) fun _=>.ite (fun _=>?_) fun _=>.ite (fun _=>?_) fun _=>.ret h7
 ·exact .bind (aIC h7 (by decide) (by decide)) fun x8 ⟨_,h8⟩=>.ret h8
 ·exact .bind (aIC h7 (by decide) (by decide)) fun x8 ⟨_,h8⟩=>.ret h8
 ·exact .bind (aIC h7 (by decide) (by decide)) fun x8 ⟨_,h8⟩=>.ret h8
theorem a2V:AK (HD ⟨b,i,h⟩) (fun x=>x.1.bK.length<=1000/\Cu b x.2.1):=by
 unfold HD
 refine .bind (a4L hc (by omega)) fun x1 h1=>.ite (fun _=>.ret ⟨by simp,h1⟩) fun _=>.bind (below h1 (by omega)) fun x2 ⟨hx,h2⟩=>?_
 rw [aL (by omega) (by omega)]
 refine .bind (P:=fun x=>x.2.2.length<=1000/\Cu b x.1) (.loop (fun s=>s.1.toNat) (fun s=>(0<=s.1/\s.1+s.2.2.2.length<=10)/\Cu b s.2.1) ⟨⟨by omega,by simp;omega⟩,h2⟩ ?_) fun x hx=>.ret hx
 rintro⟨n,i1,h1,l⟩ ⟨⟨n0,n1⟩,hi1⟩
 simp only at n0 n1 hi1
 simp only [PJ,FY]
 refine .ite (fun q=>?_) (fun q=>.ret ⟨by grind,hi1⟩)
 have q1:=of_decide_eq_true q
 refine .bind (a4N hi1) fun o h3=>.need (by simp;omega) (.ret ?_)
 grind [aL]
theorem aMY{m:Int}(hm:0<=m/\m<=12):AK (tS ⟨b,i,h⟩ m) (fun x=>(x.1.length=3/\∀q∈x.1,QuS m q)/\Cu b x.2.1):=by
 unfold tS
 refine .bind (P:=fun x=>(x.1.length=3/\∀q∈x.1,QuS m q)/\Cu b x.2.1) (.loop (fun s=>3 - s.2.1.toNat) (fun s=>((s.1.length:Int)=s.2.1/\s.2.1<=3/\∀q∈s.1,QuS m q)/\Cu b s.2.2.1) ⟨⟨rfl,by simp,by simp⟩,hc⟩ ?_) fun x hx=>.ret hx
 rintro⟨l,k,i',h'⟩ ⟨⟨e,k3,hq⟩,hi⟩
 simp only at e k3 hq hi
 simp only [KP]
 refine .ite (fun q=>?_) (fun q=>?_)
 ·have q':=of_decide_eq_true q
  rw [aL (x:=m+1) (by omega) (by omega)]
  refine .bind (below hi (by omega)) fun n ⟨hn,h1⟩=>?_
  refine .bind (P:=fun x=>QuS m ⟨x.2.2⟩/\Cu b x.1) (.loop (fun s=>s.1.toNat) (fun s=>(0<=s.1/\s.1+s.2.2.2.length<=m/\∀o∈s.2.2.2,o.bK.length<=1000)/\Cu b s.2.1) ⟨⟨hn.1,by simp;omega,by simp⟩,h1⟩ ?_) ?_
  ·rintro⟨n,i1,h1,ops⟩ ⟨⟨n0,n1,ho⟩,hi1⟩
   simp only at n0 n1 ho hi1
   simp only [KN,BF]
   refine .ite (fun q=>?_) (fun q=>?_)
   ·have q1:=of_decide_eq_true q
    refine .bind (a2V hi1) fun o ⟨h2,h3⟩=>.need (by simp;omega) (.ret ?_)
    grind [aL]
   ·have q1:¬0 < n:=by grind
    exact .ret ⟨⟨by grind,ho⟩,hi1⟩
  ·rintro⟨i1,h1,ops⟩ ⟨ho,hi1⟩
   simp only [KO,KM]
   refine .need (by simp;omega) (.ret ?_)
   grind [aL]
 ·have q':¬k < 3:=by grind
  exact .ret ⟨⟨by grind,hq⟩,hi⟩
def aG9(l:List aI):Prop:=l.length<=3/\∀q∈l,QuS 100 q
omit hc in
theorem aMZ{l:List aI}(hl:aG9 l)(k:Nat){q:aI}(hq:QuS 100 q):aG9 (l.set k q):=⟨by simpa using hl.1,fun x hx=>(sQ hx).elim (hl.2 x) (fun e=>e ▸ hq)⟩
omit hc in
theorem aKA{l:List Batch}{m n:Int}(h:QuS m ⟨l⟩)(hm:m+1<=n){x:Batch}(hx:x.bK.length<=1000):QuS n ⟨l ++ [x]⟩:=⟨by have:=h.1;grind,fun y hy=>by
 rcases gC.1 hy with hy | hy
 ·exact h.2 y hy
 grind⟩
omit hc in
theorem XV{m n:Int}{q:aI}(h:QuS m q)(hm:m<=n):QuS n q:=⟨by have:=h.1;omega,h.2⟩
theorem aSR:AK (yK ⟨b,i,h⟩) (fun x=>aG9 x.1/\Cu b x.2.1):=by
 unfold yK
 refine .bind (aMY hc (by omega)) fun x1 ⟨⟨l3,hq⟩,h1⟩=>.bind (below h1 (by omega)) fun x5 ⟨_,h5⟩=>?_
 have hT:aG9 x1.1:=⟨by omega,fun q hq'=>XV (hq q hq') (by omega)⟩
 simp only [jO,IT,zV]
 refine .ite (fun _=>?_) fun _=>.ite (fun _=>?_) fun _=>.ite (fun _=>?_) fun _=>.ite (fun _=>?_) fun _=>?_
 ·exact .need (by omega) (.ret ⟨⟨by simp;omega,fun q hq'=>hT.2 q (List.mem_of_mem_take (by simpa using hq'))⟩,h5⟩)
 ·refine .bind (.idx (by omega)) fun x6 h6=>?_
  have h7:=hq _ h6
  have:=h7.1
  exact .need (by simp;omega) (.ret ⟨aMZ hT _ (aKA (m:=5) (l:=x6.List) h7 (by omega) (by simp)),h5⟩)
 ·refine .bind (P:=fun x=>aG9 x.1/\Cu b x.2.1) (.loop (fun s=>20 - ((s.1.getD 1 ⟨[]⟩).List.length)) (fun s=>(s.1.length=3/\∀q∈s.1,QuS 13 q)/\Cu b s.2.1) ⟨⟨l3,fun q hq'=>XV (hq q hq') (by omega)⟩,h5⟩ ?_) ?_
  ·rintro⟨l,i1,h1⟩ ⟨⟨l3,hq⟩,hi1⟩
   simp only at l3 hq hi1
   simp only [IU,zU]
   have hx:idx l 1=some l[1]:=aP (k:=1) (by omega)
   have hm:=hq _ (dC (show 1 < l.length by omega))
   have hm1:=hm.1
   rw [hx]
   simp only [aG]
   refine .bind (below hi1 (by omega)) fun x ⟨hx2,hi2⟩=>.ite (fun q=>?_) (fun q=>?_)
   ·have q':=of_decide_eq_true q
    rw [aL (by omega) (by omega)] at q'
    refine .need (by simp;omega) (.ret ?_)
    refine⟨⟨⟨by simp [l3],fun x hx=>?_⟩,hi2⟩,?_⟩
    ·rcases sQ hx with hx | hx
     ·grind
     ·rw [hx];exact⟨by simp;omega,(aKA (m:=13) (n:=14) (l:=l[1].List) hm (by omega) (x:=⟨true,[]⟩) (by simp)).2⟩
    grind
   ·exact .ret ⟨⟨by grind,fun q hq'=>XV (hq q hq') (by omega)⟩,hi2⟩
  ·rintro⟨l,i1,h1⟩ hx
   exact .ret hx
 ·refine .bind (.idx (by omega)) fun x25 h25=>.bind (aZW h5) fun x26 h26=>?_
  have h7:=hq _ h25
  have:=h7.1
  exact .need (by simp;omega) (.ret ⟨aMZ hT _ (aKA (m:=5) (l:=x25.List) h7 (by omega) (by simp)),h26⟩)
 ·exact .ret ⟨hT,h5⟩
theorem aZX{m:Int}(hm:m<=100):AK (EA ⟨b,i,h⟩ m) (fun x=>x.1.length<=4000/\Cu b x.2.1):=by
 unfold EA
 refine .bind (below hc (by omega)) fun x1 ⟨hx1,h1⟩=>?_
 refine .bind (P:=fun x=>x.1.length<=4000/\Cu b x.2.1) (.loop (fun s=>s.2.1.toNat) (fun s=>(0<=s.2.1/\s.1.length+8 * s.2.1<=4000)/\Cu b s.2.2.1) ⟨⟨hx1.1,by simp;omega⟩,h1⟩ ?_) fun x hx=>.ret hx
 rintro⟨l,n,i1,h1⟩ ⟨⟨n0,n1⟩,hi1⟩
 simp only at n0 n1 hi1
 simp only [NF]
 refine .ite (fun q=>?_) (fun q=>?_)
 ·have q':=of_decide_eq_true q
  refine .bind (below hi1 (by omega)) fun x13 ⟨_,h13⟩=>.bind (below h13 (by omega)) fun x14 ⟨hx14,h14⟩=>?_
  rw [aL (by omega) (by omega)]
  refine .bind (P:=fun x=>(x.length:Int)<=l.length+8) (.loop (fun s=>s.2.toNat) (fun s=>0<=s.2/\(s.1.length:Int)+s.2<=l.length+8) ⟨by omega,by grind⟩ ?_) ?_
  ·rintro⟨r,k⟩ ⟨k0,k1⟩
   simp only at k0 k1
   simp only [NC]
   refine .ite (fun q=>?_) (fun q=>?_)
   ·have q2:=of_decide_eq_true q
    refine .need (by simp;omega) (.ret ?_)
    grind [aL]
   ·exact .ret (by omega)
  ·intro r hr
   simp only [ND,NB]
   refine .ret ?_
   grind [aL]
 ·exact .ret ⟨by grind,hi1⟩
end
theorem aPC{code:List UInt8}(hl:code.length<=1048576):AK (qF code) (fun x=>aG9 x.gZ/\x.iX.length<=5000):=by
 unfold qF
 refine .bind (a55 hl) fun x1 h1=>.bind (aMY h1 (by omega)) fun x2 ⟨⟨l3,hq⟩,h2⟩=>.bind (aZX h2 (by omega)) fun x3 ⟨p,h3⟩=>.bind (below h3 (by omega)) fun x6 ⟨_,h6⟩=>?_
 have hT:aG9 x2.1:=⟨by omega,fun q hq'=>XV (hq q hq') (by omega)⟩
 simp only [jL]
 refine .ite (fun _=>.bind (aSR h6) fun x7 ⟨h7,_⟩=>.ret ⟨h7,by grind⟩) fun _=>.ite (fun _=>.need (by simp;omega) (.ret ⟨hT,by simp;omega⟩)) fun _=>.ret ⟨hT,by grind⟩
theorem aG9.fit{l:List aI}(h:aG9 l):l.length<=1000/\(∀q∈l,q.List.length<=1000)/\∀q∈l,∀b∈q.List,b.bK.length<=1000:=
 ⟨by have:=h.1;omega,fun q hq=>by have:=(h.2 q hq).1;omega,fun q hq=>(h.2 q hq).2⟩
theorem aSS{x:vJ}(hx:aG9 x.gZ):KT x=some (decide (VL x.gZ)):=by
 obtain⟨h1,h2,h3⟩:=hx.fit
 unfold KT
 rw [(ZP h1 h2 h3).1,aG]
 by_cases h:VL x.gZ
 ·rw [if_pos h,b9 h];rfl
 ·rw [if_neg h,dP h];rfl
end Go.Gv
end
noncomputable section
namespace Go.Gv
theorem aPD{b:bT}(h:BkV b):ON b=some true:=by
 unfold ON yA
 rw [PC,b9 h.1,aG,if_pos rfl,cE,b9 h.2.1,aG,if_pos rfl,cE,b9 h.2.2];rfl
theorem XW{l:List Int}(hl:l.length<=6)(h:∀x∈l,lZ x):rR l=some true:=by
 unfold rR
 have key:loop (mG l) 0=some (Out.brk ()):=gR (f:=mG l) l.length (fun k=>(k:Int)) _ (fun k hk=>by
  simp only [mG]
  rw [if_pos (by simp;omega),aP hk,aG,iM,b9 (h _ (dC hk)),aG,if_neg (by simp),aL (by omega) (by omega)];rfl) (by simp [mG])
 grind [I7,I6]
theorem aPE{j:aE}(h:JB j):ES j=some true:=by
 have hb:=h.bat.2.1
 have hk:=h.k
 have hw:=h.wr
 have hh:=h.held
 have hr2:=h.rd2
 have hheld:j.aW.length<=2:=by
  match e:j.aW,hh with
  | [],_=>simp
  | [_],_=>simp
  | [_,_],_=>simp
  | x :: y :: z :: r, ⟨hm, hn⟩ =>
   (simp_all;omega)
 have l4:D1 j=some true:=by
  unfold D1
  have key:loop (pO j) 0=some (Out.brk ()):=gR (f:=pO j) j.aJ.length (fun k=>(k:Int)) _ (fun k hk=>by
   have hwl:=hw.1
   have hx:=hw.2.1 _ (dC hk)
   simp only [pO,lX]
   rw [if_pos (by simp;omega),aP hk,aG,cE,b9 hx.1,aG,if_neg (by simp),aG,cE,b9 hx.2,aG,if_neg (by simp)]
   by_cases k0:(0:Int) < k
   ·have hk1:k - 1 < j.aJ.length:=by omega
    have hlt:=List.pairwise_iff_getElem.1 hw.2.2 (k - 1) k hk1 hk (by omega)
    rw [if_pos (by grind),aG,aL (x:=(k:Int) - 1) (by omega) (by omega),show(k:Int) - 1=((k - 1:Nat):Int) by omega,aP hk1,aG,dP (by omega),if_neg (by simp),aL (by omega) (by omega)];rfl
   simp_all [aL]) (by simp [pO])
  rw [key];rfl
 have l3:D2 j=some true:=by
  unfold D2
  have key:loop (pP j) 0=some (Out.brk ()):=gR (f:=pP j) j.Reads.length (fun k=>(k:Int)) _ (fun k hk=>by
   simp only [pP]
   rw [if_pos (by simp;omega),aP hk,aG,cE,b9 (h.reads.1 _ (dC hk)),aG,if_neg (by simp),aL (by omega) (by omega)];rfl) (by simp [pP])
  rw [key];exact l4
 have l2:eE j false=some true:=by
  unfold eE
  have key:loop (pQ j) 0=some (Out.brk ()):=gR (f:=pQ j) j.aW.length (fun k=>(k:Int)) _ (fun k hk=>by
   simp only [pQ,vZ]
   rw [if_pos (by simp;omega),aP hk,aG,cE,b9 (hh.1 _ (dC hk)),aG,if_neg (by simp),aK (by omega),aG,JZ,MP,EW (by grind [maxLen]),dP ((JT _).1 hh.2 k hk),aG,if_neg (by simp),aL (by omega) (by omega)];rfl) (by simp [pQ])
  rw [if_neg (by simp),key];exact l3
 unfold ES
 rw [aFM (by omega),b9 h.bat,PC,b9 h.h,PC,b9 h.prev,cE,b9 h.bkt,cE,b9 h.at_,cE,b9 (show 0<=j.K/\j.K<=100 by omega),XW h.new.1 h.new.2,XW h.old.1 h.old.2]
 simp only [aG,gY,bC,if_false]
 rw [dP (by have:=hw.1;omega)]
 exact l2
theorem aPF:nC kU kU=some true:=by
 have c1:pR [] []=some true:=by
  unfold pR
  rw [if_neg (by simp),bG (r:=Out.brk ()) (by simp [G0])];rfl
 have c2:v7 kU kU=some true:=by
  unfold v7 oV
  rw [if_neg (by simp),if_neg (by simp),bG (r:=Out.brk ()) (by simp [G5,kU]),aG]
  unfold G6 G4
  rw [bG (r:=Out.brk ()) (by simp [G3,kU])];rfl
 have c3:zG [] []=some true:=by
  unfold zG
  rw [if_neg (by simp),bG (r:=Out.brk ()) (by simp [I8])];rfl
 have c4:pS [] []=some true:=by
  unfold pS
  rw [if_neg (by simp),bG (r:=Out.brk ()) (by simp [K8])];rfl
 have c5:tI kU.Batch kU.Batch=some true:=by
  unfold tI
  rw [if_pos (by simp)]
  show(pR [] []).bind _=_
  rw [c1];rfl
 unfold nC
 rw [c5,c2,show kU.eA=[] from rfl,show kU.fL=[] from rfl,show kU.aW=[] from rfl,show kU.cG=[] from rfl,c3,c4]
 simp [bL]
theorem aKB{t:Table}(hv:TV t):H7 t=some true:=by
 have h2:=hv.bk.1
 have h3:=hv.aBM.1
 have ht:=hv.todo
 have hs:=hv.ser
 have l3:GG t=some true:=by
  unfold GG
  have key:loop (rS t) 0=some (Out.brk ()):=gR (f:=rS t) 3 (fun k=>(k:Int)) _ (fun k hk=>by
   have hkl:k < t.aN.length:=by omega
   simp only [rS,kQ]
   rw [if_pos (by simp;omega),aP hkl]
   simp only [aG]
   rcases hv.aBM.2 _ (dC hkl) with e | hj
   ·rw [e]
    have:=aPF
    simp only [show kU.iY=false from rfl,HB,bC,if_false,if_true]
    rw [show(nC kU ⟨false,⟨false,[]⟩,0,0,0,0,0,0,0,0,⟨0,0,0⟩,false,0,⟨0,0,0,0,0,0,0,0,0,false⟩,[],[],[],[],[],[]⟩)=some true from this]
    simp only [aG,gY,bC,if_false]
    grind [aL]
   ·have hb:=hj.busy
    simp only [hb,if_true,gY,bC,if_false,aPE hj,aG]
    grind [aL]) (by simp [rS])
  rw [key];rfl
 have l2:jD t false=some true:=by
  unfold jD
  have key:loop (rT t) 0=some (Out.brk ()):=gR (f:=rT t) 2 (fun k=>(k:Int)) _ (fun k hk=>by
   have hkl:k < t.cS.length:=by omega
   simp only [rT]
   rw [if_pos (by simp;omega),aP hkl,aG,aPD (hv.bk.2 _ (dC hkl)),aG,if_neg (by simp),aL (by omega) (by omega)];rfl) (by simp [rT])
  rw [if_neg (by simp),key];exact l3
 unfold H7
 rw [aEX hv.base.small.fits,b9 hv.base,aG,if_neg (by simp),if_neg (by simp;omega),if_neg (by simp;omega),aFN (by have:=ht.1;omega) (fun q hq b hb=>by have:=((ht.2 q hq).2 b hb).2.1;omega),b9 ht,aG,if_neg (by simp),cE,b9 hs,aG]
 exact l2
end Go.Gv
end
noncomputable section
namespace Go.Gv
def rC(p:Int):Prop:=(7<=p/\p<=14)\/p=16
structure LkJ (k:List bT) (w:Int) (j:aE):Prop where
 iff:∀b,0<=b/\b<=1->(b∈j.aW↔(mP k b).fO=w+1)
 pc:j.aW≠[]->rC j.Pc
def aPG(k k':List bT)(w:Int):Prop:=∀b,0<=b/\b<=1->(mP k' b).fO=(mP k b).fO\/((mP k b).fO=0/\(mP k' b).fO=w+1)\/((mP k b).fO=w+1/\(mP k' b).fO=0)
theorem XX{k:List bT}{i b:Int}{y:bT}(h2:k.length=2)(hi:0<=i/\i<=1)(hb:0<=b/\b<=1):mP (k.set i.toNat y) b=if b=i then y else mP k b:=by
 unfold mP
 grind
def LkR(k:List bT)(w:Int)(r:TR):Prop:=LkJ r.k w r.j/\aPG k r.k w
noncomputable section
variable {k:List bT} {w:Int} {j:aE} (h:LkJ k w j)
include h
theorem LkJ.same{j':aE}(e:j'.aW=j.aW)(hp:j.aW≠[]->rC j'.Pc):LkJ k w j':=⟨fun b hb=>by rw [e];exact h.iff b hb,fun q=>hp (by grind)⟩
theorem LkJ.none(hp:¬rC j.Pc):j.aW=[]:=Classical.byContradiction fun q=>hp (h.pc q)
end
theorem fS(k:List bT)(w:Int):aPG k k w:=fun _ _=>.inl rfl
theorem aM0(j:aE)(x:aU):(KA j x).2.aW=j.aW:=by grind [KA,VK]
theorem aM1(j:aE)(c:iG)(v:Int)(is:Bool):(aG4 j c v is).aW=j.aW:=by
 unfold aG4
 split
 ·generalize (if is then v else 0)=u
  unfold aWV
  have h:=aM0 j ⟨c.Key,false,aBJ u c.dO⟩
  split
  ·exact h
  ·exact h
 ·rfl
theorem aXB(j:aE):(aOZ j).aW=j.aW:=by
 grind [aOZ,aM0,aM1]
theorem aSU(b:aB)(k:List bT)(w:Int)(j:aE):(aID b k w j).aW=j.aW:=by
 unfold aID
 split
 ·split <;> rfl
 ·split
  ·rfl
  ·split
   ·split
    ·rfl
    ·split <;> rfl
   ·split
    ·rfl
    ·split
     ·rfl
     ·split
      ·grind [aM1]
      ·rfl
theorem aXC(b:aB)(w:Int)(j:aE):(aO0 b w j).2.aW=j.aW:=by
 unfold aO0
 split
 ·rfl
 ·simp only
  split
  ·rfl
  ·split <;> rfl
theorem aZY(j:aE)(x:aU):(plF j x).aW=j.aW/\((plF j x).Pc=9\/(plF j x).Pc=12):=by grind [plF]
theorem aXD(j:aE):(aFH j).aW=j.aW:=by grind [aFH]
theorem aM2(j:aE):(aMN j).aW=j.aW:=by grind [aMN]
theorem aXE(b:aB)(w:Int)(j:aE):(aO2 b w j).2.aW=j.aW:=by
 grind [aO2,aM2]
theorem aXF(b:aB)(w:Int)(j:aE):(aO3 b w j).2.aW=j.aW:=by grind [aO3]
theorem aXG(b:aB)(w:Int)(j:aE):(aMO b w j).2.aW=j.aW:=by
 grind [aMO]
theorem aZZ(b:aB){k:List bT}(h2:k.length=2){w:Int}{j:aE}(hj:JB j)(h:LkJ k w j)(hpc:9<=j.Pc/\j.Pc<=13):LkJ (aG6 b k j).2.1 w (aG6 b k j).2.2/\aPG k (aG6 b k j).2.1 w:=by
 have p14:rC 14:=.inl (by omega)
 have pl:∀(j':aE) (x:aU),j'.aW=j.aW->LkJ k w (plF j' x):=fun j' x e=>by
  obtain⟨e1,e2⟩:=aZY j' x
  exact h.same (e1.trans e) fun _=>by rcases e2 with e2 | e2 <;> rw [e2] <;> exact .inl (by omega)
 have head:∀{i:Int} {x:Int} {j':aE},0<=i/\i<=1->LkJ k w j'->LkJ (k.set i.toNat {mP k i with Head:=x}) w j'/\aPG k (k.set i.toNat {mP k i with Head:=x}) w:=fun{i x j'} hi hj'=>by
  have e:∀b,0<=b/\b<=1->(mP (k.set i.toNat {mP k i with Head:=x}) b).fO=(mP k b).fO:=fun b hb=>by
   grind [XX]
  exact⟨⟨fun b hb=>by rw [e b hb];exact hj'.iff b hb,hj'.pc⟩,fun b hb=>.inl (e b hb)⟩
 unfold aG6
 by_cases c1:(j.aJ.length:Int)<=j.K
 ·rw [if_pos c1];exact⟨h.same rfl fun _=>p14,fS _ _⟩
 rw [if_neg c1]
 have hk:=hj.k
 have hi:j.K.toNat < j.aJ.length:=by omega
 have er:XZ j=j.aJ[j.K.toNat]:=by grind [XZ]
 have hx:=hj.wr.2.1 j.aJ[j.K.toNat] (dC hi)
 rw [<-er] at hx
 have hbk:0<=FM (XZ j).Key/\FM (XZ j).Key<=1:=by unfold FM;omega
 by_cases c2:j.Pc=9
 ·rw [if_pos c2]
  refine⟨?_,fS _ _⟩
  simp only
  split
  ·grind
  ·exact h.same rfl fun _=>.inl (by simp)
 rw [if_neg c2]
 by_cases c3:j.Pc=10
 ·rw [if_pos c3]
  refine⟨?_,fS _ _⟩
  simp only
  split
  ·exact h.same rfl fun _=>.inl (by simp)
  ·split
   ·grind
   ·exact h.same rfl fun q=>h.pc q
 rw [if_neg c3]
 by_cases c4:j.Pc=11
 ·rw [if_pos c4]
  grind [aXD,fS]
 rw [if_neg c4]
 split
 ·exact⟨h.same rfl fun _=>.inr rfl,fS _ _⟩
 ·split
  ·exact⟨h.same rfl fun _=>.inl (by simp),fS _ _⟩
  ·exact head hbk (h.same rfl fun _=>.inl (by simp))
theorem aZ0{k:List bT}(h2:k.length=2){w:Int}(hw:0<=w){j:aE}(hj:JB j)(h:LkJ k w j)(hpc:j.Pc=7):LkJ (aG5 k w j).1 w (aG5 k w j).2.1/\aPG k (aG5 k w j).1 w:=by
 have p8:rC 8:=.inl (by omega)
 unfold aG5
 by_cases c1:j.K < (C8 j.aJ).length
 ·rw [if_pos c1]
  have hk:=hj.k
  have hi:j.K.toNat < (C8 j.aJ).length:=by omega
  have er:gU j=(C8 j.aJ)[j.K.toNat]:=by grind [gU]
  have hbk:0<=gU j/\gU j<=1:=by grind [aE0,dC]
  by_cases c2:(mP k (gU j)).fO≠0\/(j.Reads.any fun s=>s.bT == gU j && s.fM != (mP k (gU j)).fM)=true
  ·rw [if_pos c2];exact⟨h.same rfl fun _=>.inr rfl,fS _ _⟩
  rw [if_neg c2]
  have c0:(mP k (gU j)).fO=0:=Classical.byContradiction fun q=>c2 (.inl q)
  split
  ·exact⟨h.same rfl fun _=>.inr rfl,fS _ _⟩
  have hnm:gU j∉j.aW:=fun q=>by have:=(h.iff _ hbk).1 q;omega
  have hto:aPG k (k.set (gU j).toNat {mP k (gU j) with fO:=w+1}) w:=fun b hb=>by
   grind [XX]
  have hkeep:∀j':aE,j'.aW=j.aW ++ [gU j]->rC j'.Pc->LkJ (k.set (gU j).toNat {mP k (gU j) with fO:=w+1}) w j':=fun j' e hp=>⟨fun b hb=>by
   rw [e,gC,List.mem_singleton,XX h2 hbk hb]
   split
   ·grind
   ·rename_i q;rw [h.iff b hb];omega,fun _=>hp⟩
  have hh:(aFG j).aW=j.aW ++ [gU j]:=by simp_all [aFG]
  split
  ·grind
  ·refine⟨hkeep _ hh ?_,hto⟩
   show rC j.Pc
   rw [hpc];exact .inl (by omega)
 ·rw [if_neg c1];exact⟨h.same rfl fun _=>p8,fS _ _⟩
theorem aZ1{k:List bT}(h2:k.length=2){w:Int}(hw:0<=w){j:aE}(hj:JB j)(h:LkJ k w j)(hpc:j.Pc=14\/j.Pc=16):LkJ (aG7 k j).1 w (aG7 k j).2/\aPG k (aG7 k j).1 w:=by
 have hp:rC j.Pc:=by rcases hpc with e | e <;> rw [e];exact .inl (by omega);exact .inr rfl
 unfold aG7
 by_cases c1:0 < j.aW.length
 ·rw [if_pos c1]
  have er:DR j=j.aW[0]:=by grind [DR]
  have hm:DR j∈j.aW:=by grind
  have hbk:=hj.held.1 _ hm
  have hl:=(h.iff _ hbk).1 hm
  obtain⟨y,hy,hy0⟩:∃y:bT,(if j.Pc=14 then (⟨(mP k (DR j)).Head,if 1000000 < (mP k (DR j)).fM+1 then 1000000 else (mP k (DR j)).fM+1,0⟩:bT) else {mP k (DR j) with fO:=0})=y/\y.fO=0:=by
   grind
  simp only
  rw [hy]
  have hd:j.aW=DR j :: j.aW.drop 1:=by
   rw [er];exact(IJ (i:=0) c1)
  have hn:=hj.held.2
  rw [hd,List.nodup_cons] at hn
  refine⟨⟨fun b hb=>?_,fun _=>hp⟩,fun b hb=>?_⟩
  ·show b∈j.aW.drop 1↔_
   rw [XX h2 hbk hb]
   split
   ·grind
   ·rename_i e
    have:=h.iff b hb
    grind
  grind [XX]
 ·rw [if_neg c1]
  have hnil:j.aW=[]:=lM (by omega)
  split
  ·exact⟨h.same rfl fun q=>absurd hnil q,fS _ _⟩
  ·exact⟨h.same (aM2 {j with Pc:=15,K:=0}) fun q=>absurd hnil q,fS _ _⟩
theorem a2W{b:aB}{k:List bT}{w:Int}{j:aE}(h2:k.length=2)(hw:0<=w/\w<=2)(hj:JB j)(h:LkJ k w j):LkR k w (doF b k w j):=by
 have nh:∀{p:Int},¬rC p->j.Pc=p->j.aW=[]:=fun hp e=>h.none (by grind)
 have no:∀{j':aE},j'.aW=j.aW->j.aW=[]->LkJ k w j':=fun e e0=>h.same e fun q=>absurd e0 q
 have out:∀{p:Int},j.Pc=p->¬rC p->j.aW=[]:=fun e hp=>nh hp e
 unfold doF
 refine tM (P:=LkR k w) (fun p=>⟨no (aXG b w j) (h.none (by grind [rC])),fS _ _⟩) fun _=>tM (P:=LkR k w) (fun p=>⟨no (aXB j) (h.none (by grind [rC])),fS _ _⟩) fun _=>
  tM (P:=LkR k w) (fun p=>⟨no (aSU b k w j) (h.none (by grind [rC])),fS _ _⟩) fun _=>tM (P:=LkR k w) (fun p=>⟨no (aXC b w j) (h.none (by grind [rC])),fS _ _⟩) fun _=>
  tM (P:=LkR k w) (fun p=>aZ0 h2 hw.1 hj h p) fun _=>tM (P:=LkR k w) (fun p=>⟨?_,fS _ _⟩) fun _=>
  tM (P:=LkR k w) (fun p=>aZZ b h2 hj h p) fun _=>tM (P:=LkR k w) (fun p=>aZ1 h2 hw.1 hj h p) fun _=>
  tM (P:=LkR k w) (fun p=>⟨no (aXE b w j) (h.none (by grind [rC])),fS _ _⟩) fun _=>tM (P:=LkR k w) (fun p=>⟨no (aXF b w j) (h.none (by grind [rC])),fS _ _⟩) fun _=>
  tM (P:=LkR k w) (fun p=>⟨no rfl (h.none (by grind [rC])),fS _ _⟩) fun _=>tM (P:=LkR k w) (fun p=>⟨no (j':=kU) (h.none (by grind [rC])).symm (h.none (by grind [rC])),fS _ _⟩) fun _=>⟨h.same rfl fun _=>.inr rfl,fS _ _⟩
 show LkJ k w (aSM k w j)
 unfold aSM
 split
 ·exact h.same rfl fun _=>.inl (by simp)
 ·split
  ·exact h.same rfl fun _=>.inr rfl
  ·exact h.same rfl fun q=>h.pc q
def aFQ(t:Table):Prop:=∀w,0<=w/\w<=2->LkJ t.cS w (dQ t w)
theorem aM3{t:Table}{l:List aE}{w v:Int}{x:aE}(h3:t.aN.length=3)(hl:l=t.aN.set w.toNat x)(hw:0<=w/\w<=2)(hv:0<=v/\v<=2):l.getD v.toNat kU=if v=w then x else dQ t v:=by
 subst hl
 unfold dQ
 grind
theorem aFQ.step{t:Table}(hv:TV t){w:Int}(hw:0<=w/\w<=2)(h:aFQ t):aFQ (PE t w):=by
 have h3:=hv.aBM.1
 have hjv:=hv.aBM.2 _ (aB7 h3 hw)
 unfold PE
 split
 ·rename_i hbusy
  have hj:JB (dQ t w):=hjv.resolve_left fun e=>by rw [e] at hbusy;cases hbusy
  obtain⟨g1,g2⟩:=a2W (b:=t.aB) hv.bk.1 hw hj (h w hw)
  intro v hv'
  have ej:dQ (aFI t w (doF t.aB t.cS w (dQ t w))) v=if v=w then (doF t.aB t.cS w (dQ t w)).j else dQ t v:=aM3 h3 rfl hw hv'
  rw [ej]
  show LkJ (doF t.aB t.cS w (dQ t w)).k v _
  split
  ·rename_i e;rw [e];exact g1
  ·rename_i e
   refine⟨fun b hb=>?_,(h v hv').pc⟩
   rw [(h v hv').iff b hb]
   rcases g2 b hb with q | ⟨q1,q2⟩ | ⟨q1,q2⟩
   ·rw [q]
   ·rw [q1,q2];omega
   ·rw [q1,q2];omega
 ·rename_i hbusy
  split
  ·exact h
  ·intro v hv'
   generalize (XT t w).getD 0 ⟨false,[]⟩=b
   have ej:dQ (aWY t w b) v=if v=w then JY b (t.aS+1) else dQ t v:=aM3 h3 rfl hw hv'
   rw [ej]
   show LkJ t.cS v _
   split
   ·rename_i e
    subst e
    have hn:(dQ t v).aW=[]:=by
     rcases hjv with e | hj
     ·rw [e];rfl
     ·exact absurd hj.busy hbusy
    exact(h v hv').same hn.symm fun q=>absurd hn q
   ·exact h v hv'
theorem aFQ.zero(l:List aI):aFQ (GS l):=fun w hw=>by
 have e:dQ (GS l) w=kU:=by
  have:w=0\/w=1\/w=2:=by omega
  rcases this with rfl | rfl | rfl <;> rfl
 rw [e]
 refine⟨fun b hb=>?_,fun q=>absurd rfl q⟩
 have eb:(mP (GS l).cS b).fO=0:=by
  have:b=0\/b=1:=by omega
  rcases this with rfl | rfl <;> rfl
 rw [eb]
 exact⟨fun q=>(by cases q),fun q=>(by omega)⟩
theorem has_eq{l:List Int}(hl:l.length<=1000)(x:Int):WQ l x=some (decide (x∈l)):=by
 unfold WQ
 have hs:∀k (hk:k < l.length),AX l x (k:Int)=if l[k]≠x then some (.next ((k+1:Nat):Int)) else some (.stop (Out.ret true)):=fun k hk=>by
  simp only [AX]
  rw [if_pos (by simp;omega),aP hk,aG,aL (by omega) (by omega)]
  simp
 have key:loop (AX l x) 0=_:=jS (f:=AX l x) l (fun k=>(k:Int)) (fun y=>y≠x) (Out.brk ()) (Out.ret true) (fun k hk hp=>by grind) (fun k hk hp=>by grind) (by simp [AX])
 rw [key]
 by_cases q:∀y∈l,y≠x
 ·rw [if_pos q,dP (fun h=>q x h rfl)];rfl
 ·rw [if_neg q,b9 (Classical.byContradiction fun h=>q fun y hy e=>h (e ▸ hy))];rfl
theorem aM4{code:List UInt8}(_:fit code):OO code=some true:=by
 unfold OO aC9
 rw [aG]
 by_cases hb:(1048576:Int) < code.length
 ·grind
 ·rw [if_neg (by grind)]
  obtain⟨x,e,hx,hp⟩:=aPC (code:=code) (by omega)
  rw [e,aG,aSS hx,aG]
  by_cases ht:VL x.gZ
  ·obtain ⟨f1, f2, f3⟩ := hx.fit
   rw [b9 ht,if_neg (by simp),aJ9 f1 f2 f3 ht,aG]
   obtain⟨v,g⟩:=aFP (P:=aFQ) (fun t w hv hw h=>h.step hv hw) (x.iX.take 400) (aIH ht) (aFQ.zero _)
   generalize aMW (GS x.gZ) (x.iX.take 400)=t at v g
   have h3:=v.aBM.1
   have h2:=v.bk.1
   rw [if_neg (by simp;omega)]
   have e2:((t.cS.length:Int) != 2)=false:=by simp;omega
   rw [e2]
   unfold zH
   rw [if_neg (by simp)]
   have inner:∀b:Nat,b < 2->loop (rU (b:Int)) (0,t)=some (Out.brk t):=fun b hb2=>
    gR (f := rU (b : Int)) 3 (fun k => ((k : Int), t)) _ (fun k hk => by
     have hkw:0<=(k:Int)/\(k:Int)<=2:=by omega
     have hbb:0<=(b:Int)/\(b:Int)<=1:=by omega
     simp only [rU,GH]
     have hl:(dQ t k).aW.length<=1000:=by
      rcases v.aBM.2 _ (aB7 h3 hkw) with e | hj
      ·rw [e];decide
      ·have hh:=hj.held
       match e:(dQ t k).aW,hh with
       | [],_=>simp
       | [_],_=>simp
       | [_,_],_=>simp
       | x :: y :: z :: r, ⟨hm, hn⟩ =>
        (simp_all;omega)
     rw [if_pos (by simp;omega),wH h3 hkw,aG,VM h2 hbb,aG,has_eq hl,aG,aL (by omega) (by omega)]
     have hi:=(g k hkw).iff b hbb
     grind) (by simp [rU])
   have outer:loop (rV) (0,t)=some (Out.brk t):=gR (f:=rV) 2 (fun k=>((k:Int),t)) _ (fun k hk=>by
    simp only [rV]
    rw [if_pos (by simp;omega),inner k hk]
    grind [P7,P6,aL]) (by simp [rV])
   grind [P8,P5,aKB]
  grind
end Go.Gv
end
