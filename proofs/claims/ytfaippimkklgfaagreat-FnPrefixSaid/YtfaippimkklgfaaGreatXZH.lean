import Derived.Test.YtfaippimkklgfaaGreatXZG
set_option linter.unusedVariables false
set_option linter.unusedSimpArgs false
set_option linter.unusedSectionVars false
set_option linter.constructorNameAsVariable false
set_option linter.unnecessarySimpa false
noncomputable section
namespace Go.Gv
def HD(h:Heap)(l:List Int)(c:Int):Prop:=∀x∈l,bD h x=c/\mM h x<=6
instance (h:Heap) (l:List Int) (c:Int):Decidable (HD h l c):=by unfold HD;infer_instance
theorem TN{h:Heap}(hs:fI h){l:List Int}(hl:l.length<=maxLen){c:Int}(hc:0<=c):BO h l c=some (decide (HD h l c)):=by
 unfold BO;have key:loop (oJ h l c) 0=some (if ∀x∈l,bD h x=c/\mM h x<=6 then Out.brk () else Out.ret false):=by
  have hst:∀k (hk:k<l.length),oJ h l c (k:Int)=if bD h l[k]=c/\mM h l[k]<=6 then some (.next ((k+1:Nat):Int)) else some (.stop (Out.ret false)):=by
   intro k hk;simp only[oJ];rw[aL (by simp;omega),aV hk];generalize l[k]=x;simp only[aD,jU hs,zN];by_cases q:bD h x=c
   ·have n1:(bD h x != c)=false:=by simp only[bne_eq_false_iff_eq];exact q
    simp only[n1,aT,aS,qW hs (show 0<=bD h x by omega),aD,lC (H0 hk hl)];by_cases q2:mM h x<=6
    ·rw[aO (by simp;omega),aL ⟨q,q2⟩]
    ·rw[aL (by simp;omega),aO (fun x=>q2 x.2)]
   ·have n1:(bD h x != c)=true:=by simp only[bne_iff_ne];exact q
    simp only[n1,aP];rw[aO (fun x=>q x.1)]
  refine kV (f:=oJ h l c) l (fun k=>(k:Int)) (fun x=>bD h x=c/\mM h x<=6) _ _ (fun k hk hp=>?_) (fun k hk hp=>?_) ?_
  ·rw[hst k hk,aL hp]
  ·rw[hst k hk,aO hp]
  ·simp[oJ]
 rw[key];by_cases q:∀x∈l,bD h x=c/\mM h x<=6
 ·rw[aL q,b9 (show HD h l c from q)];rfl
 ·rw[aO q,eE (show ¬HD h l c from q)];rfl
theorem TO{h:Heap}(hs:fI h){s:aY}(hl:s.aW.length<=maxLen){c:Int}(hc:0<=c):BG h s c=some (decide (HD h s.aW c)):=by
 unfold BG;have key:loop (oH h s c) 0=some (if ∀x∈s.aW,bD h x=c/\mM h x<=6 then Out.brk () else Out.ret false):=by
  have hst:∀k (hk:k<s.aW.length),oH h s c (k:Int)=if bD h s.aW[k]=c/\mM h s.aW[k]<=6 then some (.next ((k+1:Nat):Int)) else some (.stop (Out.ret false)):=by
   intro k hk;simp only[oH];rw[aL (by simp;omega),aV hk];generalize s.aW[k]=x;simp only[aD,iY hs,zF];by_cases q:bD h x=c
   ·have n1:(bD h x != c)=false:=by simp only[bne_eq_false_iff_eq];exact q
    simp only[n1,aT,aS,JJ hs (show 0<=bD h x by omega),aD,lC (H0 hk hl)];by_cases q2:mM h x<=6
    ·rw[aO (by simp;omega),aL ⟨q,q2⟩]
    ·rw[aL (by simp;omega),aO (fun x=>q2 x.2)]
   ·have n1:(bD h x != c)=true:=by simp only[bne_iff_ne];exact q
    simp only[n1,aP];rw[aO (fun x=>q x.1)]
  refine kV (f:=oH h s c) s.aW (fun k=>(k:Int)) (fun x=>bD h x=c/\mM h x<=6) _ _ (fun k hk hp=>?_) (fun k hk hp=>?_) ?_
  ·rw[hst k hk,aL hp]
  ·rw[hst k hk,aO hp]
  ·simp[oH]
 rw[key];by_cases q:∀x∈s.aW,bD h x=c/\mM h x<=6
 ·rw[aL q,b9 (show HD h s.aW c from q)];rfl
 ·rw[aO q,eE (show ¬HD h s.aW c from q)];rfl
def gZ(l:List aY)(k:Nat):List Int:=(l.getD k ⟨[]⟩).aW
theorem eP{l:List aY}{k:Nat}(h:k<l.length):l[k].aW=gZ l k:=by grind[gZ]
def RM(m:Mem)(k:Nat):Prop:=HD m.Heap (gZ m.aB.Global k) (k:Int)
def HO(m:Mem)(k:Nat):Prop:=HD m.Heap (gZ m.aB.Own k) ((k % 3:Nat):Int)
instance (m:Mem) (k:Nat):Decidable (RM m k):=by unfold RM;infer_instance
instance (m:Mem) (k:Nat):Decidable (HO m k):=by unfold HO;infer_instance
instance (m:Mem):Decidable (∀k,k<3->RM m k):=Nat.decidableBallLT 3 fun k _=>RM m k
instance (m:Mem):Decidable (∀k,k<9->HO m k):=Nat.decidableBallLT 9 fun k _=>HO m k
instance (m:Mem) (c:Nat):Decidable (∀w,w<3->HO m (w*3+c)):=Nat.decidableBallLT 3 fun w _=>HO m (w*3+c)
instance (m:Mem):Decidable (∀k,k<3->RM m k/\∀w,w<3->HO m (w*3+k)):=Nat.decidableBallLT 3 fun k _=>RM m k/\∀w,w<3->HO m (w*3+k)
def oA(m:Mem):Prop:=(YN m.Heap/\LOk m.aB)/\(∀k,k<3->RM m k)/\∀k,k<9->HO m k
instance (m:Mem):Decidable (oA m):=by unfold oA;infer_instance
theorem LOk.aF9{l:aB}(h:LOk l)(hb:(eU l).length<=1073741824):(∀s∈l.Global,s.aW.length<=1073741824)/\∀s∈l.Own,s.aW.length<=1073741824:=by grind[eU,Z1,aLR]
theorem aYW{m:Mem}:(∀k,k<3->RM m k/\∀w,w<3->HO m (w*3+k))↔(∀k,k<3->RM m k)/\∀k,k<9->HO m k:=by
 constructor
 ·intro h;refine⟨fun k hk=>(h k hk).1,fun k hk=>?_⟩;have:=(h (k % 3) (by omega)).2 (k / 3) (by omega);grind
 grind
theorem RN{m:Mem}(hb:m.Heap.Bytes.length<=maxLen)(hl:(eU m.aB).length<=1073741824):NX m=some (decide (oA m)):=by
 unfold NX JA;rw[aLQ hb,aH7 hl];by_cases h1:YN m.Heap
 ·by_cases h2:LOk m.aB
  ·have hmx:(1073741824:Nat)<=maxLen:=by simp[maxLen]
   have hsl:=LOk.aF9 h2 hl;simp only[b9 h1,b9 h2,aD,eF,aT,aS];have k3:∀c:Nat,c<3->loop (BQ m (c:Int)) 0=some (if ∀w,w<3->HO m (w*3+c) then Out.brk () else Out.ret false):=by
    intro c hc;have hst:∀w:Nat,w<3->BQ m (c:Int) (w:Int)=if HO m (w*3+c) then some (.next ((w+1:Nat):Int)) else some (.stop (Out.ret false)):=by
     intro w hw;have hk:w*3+c<m.aB.Own.length:=by rw[h2.2.1];omega
     have e:yF (w:Int) (c:Int)=some ((w*3+c:Nat):Int):=by unfold yF BP;rw[cE,cE,b9 (by omega),b9 (by omega)];simp only[aD,eF,aT,aS];grind[aM]
     have hlen:=hsl.2 _ (dW hk);simp only[BQ];rw[aL (by simp;omega),e];simp only[aD,aV hk];rw[TN h1.1 (by omega) (by omega),eP hk];have em:(w*3+c) % 3=c:=by omega
     have ho:HO m (w*3+c)↔HD m.Heap (gZ m.aB.Own (w*3+c)) (c:Int):=by grind[HO]
     rw[aM (by omega) (by omega)];grind
    refine yR (f:=BQ m (c:Int)) 3 (fun k=>(k:Int)) (fun w=>HO m (w*3+c)) _ _ (fun k hk hx=>?_) (fun k hk hx=>?_) ?_
    ·grind
    ·grind
    ·rfl
   have k2:loop (BR m) 0=some (if ∀k,k<3->RM m k/\∀w,w<3->HO m (w*3+k) then Out.brk () else Out.ret false):=by
    have hst:∀c:Nat,c<3->BR m (c:Int)=if RM m c/\∀w,w<3->HO m (w*3+c) then some (.next ((c+1:Nat):Int)) else some (.stop (Out.ret false)):=by
     intro c hc;have hk:c<m.aB.Global.length:=by rw[h2.1];omega
     have hlen:=hsl.1 _ (dW hk);simp only[BR];rw[aL (by simp;omega)];simp only[aD,aV hk];rw[TN h1.1 (by omega) (by omega),eP hk,k3 c hc];by_cases q:RM m c
     ·have q':HD m.Heap (gZ m.aB.Global c) (c:Int):=q;rw[b9 q'];simp only[aD,eF,aT,aS];by_cases q2:∀w,w<3->HO m (w*3+c)
      ·rw[aL q2,aL ⟨q,q2⟩];simp only[aAB,aAA];grind[aM]
      ·rw[aO q2,aO (fun x=>q2 x.2)];rfl
     ·have q':¬HD m.Heap (gZ m.aB.Global c) (c:Int):=q;grind
    refine yR (f:=BR m) 3 (fun k=>(k:Int)) (fun k=>RM m k/\∀w,w<3->HO m (w*3+k)) _ _ (fun k hk hx=>?_) (fun k hk hx=>?_) ?_
    ·grind
    ·grind
    ·rfl
   rw[k2];by_cases q:∀k,k<3->RM m k/\∀w,w<3->HO m (w*3+k)
   ·rw[aL q,b9 (show oA m from⟨⟨h1,h2⟩,aYW.1 q⟩)];rfl
   ·rw[aO q,eE (fun x:oA m=>q (aYW.2 x.2))];rfl
  grind[oA]
 grind[oA]
theorem JK{m:Mem}(hb:m.Heap.Bytes.length<=maxLen)(hl:(eU m.aB).length<=1073741824):DJ m=some (decide (oA m)):=by
 unfold DJ I5;rw[OH hb,WN hl];by_cases h1:YN m.Heap
 ·by_cases h2:LOk m.aB
  ·have hmx:(1073741824:Nat)<=maxLen:=by simp[maxLen]
   have hsl:=LOk.aF9 h2 hl;simp only[b9 h1,b9 h2,aD,eF,aT,aS];have k3:loop (vW m) 0=some (if ∀k,k<9->HO m k then Out.brk () else Out.ret false):=by
    have hst:∀w:Nat,w<9->vW m (w:Int)=if HO m w then some (.next ((w+1:Nat):Int)) else some (.stop (Out.ret false)):=by
     intro w hw;have hk:w<m.aB.Own.length:=by rw[h2.2.1];omega
     have hlen:=hsl.2 _ (dW hk);have em:Int.tmod (w:Int) 3=((w % 3:Nat):Int):=by grind
     simp only[vW];rw[aL (by simp;omega)];simp only[aD,aV hk,em];rw[TO h1.1 (by omega) (by omega),eP hk,aM (by omega) (by omega)];by_cases q:HO m w
     ·rw[aL q,b9 (show HD m.Heap (gZ m.aB.Own w) ((w % 3:Nat):Int) from q)];rfl
     ·rw[aO q,eE (show ¬HD m.Heap (gZ m.aB.Own w) ((w % 3:Nat):Int) from q)];rfl
    refine yR (f:=vW m) 9 (fun k=>(k:Int)) (fun w=>HO m w) _ _ (fun k hk hx=>?_) (fun k hk hx=>?_) ?_
    ·grind
    ·grind
    ·simp[vW,h2.2.1]
   have k2:loop (vX m) 0=some (if ∀k,k<3->RM m k then Out.brk () else Out.ret false):=by
    have hst:∀w:Nat,w<3->vX m (w:Int)=if RM m w then some (.next ((w+1:Nat):Int)) else some (.stop (Out.ret false)):=by
     intro w hw;have hk:w<m.aB.Global.length:=by rw[h2.1];omega
     have hlen:=hsl.1 _ (dW hk);simp only[vX];rw[aL (by simp;omega)];simp only[aD,aV hk];rw[TO h1.1 (by omega) (by omega),eP hk,aM (by omega) (by omega)];by_cases q:RM m w
     ·rw[aL q,b9 (show HD m.Heap (gZ m.aB.Global w) (w:Int) from q)];rfl
     ·rw[aO q,eE (show ¬HD m.Heap (gZ m.aB.Global w) (w:Int) from q)];rfl
    refine yR (f:=vX m) 3 (fun k=>(k:Int)) (fun w=>RM m w) _ _ (fun k hk hx=>?_) (fun k hk hx=>?_) ?_
    ·grind
    ·grind
    ·simp[vX,h2.1]
   rw[k2];by_cases q:∀k,k<3->RM m k
   ·rw[aL q];simp only[aD,Z7,Z6];rw[k3];by_cases q2:∀k,k<9->HO m k
    ·rw[aL q2,b9 (show oA m from⟨⟨h1,h2⟩,q,q2⟩)];rfl
    ·rw[aO q2,eE (fun x:oA m=>q2 x.2.2)];rfl
   ·rw[aO q,eE (fun x:oA m=>q x.2.1)];rfl
  grind[oA]
 grind[oA]
end Go.Gv
end
noncomputable section
namespace Go.Gv
theorem KA{l:List aY}{s:aY}(h:s∈l):s.aW.length<=(fJ l).length:=by grind[Z1,aLR]
theorem vN(l:aB):(eU l).length=(fJ l.Global).length+(fJ l.Own).length:=by simp[eU]
def DX(m:Mem):Prop:=m.Heap.Bytes.length<=1048576/\m.Heap.Class.length<=1048576/\m.aB.Global.length<=1048576/\m.aB.Own.length<=1048576/\(eU m.aB).length<=1048576
theorem DX.aF9{m:Mem}(h:DX m):(∀s∈m.aB.Global,s.aW.length<=1048576)/\∀s∈m.aB.Own,s.aW.length<=1048576:=by have:=vN m.aB;have h5:=h.2.2.2.2;exact⟨fun s hm=>by have:=KA hm;omega,fun s hm=>by have:=KA hm;omega⟩
end Go.Gv
end
noncomputable section
namespace Go.Gv
def POk(e:Int)(p:wW):Prop:=(0<=p.aQ/\p.aQ<=e)/\(0<=p.Seen/\p.Seen<=2)/\(p.On=false->p=⟨false,0,false,0⟩)
instance (e:Int) (p:wW):Decidable (POk e p):=by unfold POk;infer_instance
def W3(c:aG):Prop:=(0<=c.aQ/\c.aQ<=100000)/\c.cW.length=3/\∀p∈c.cW,POk c.aQ p
instance (c:aG):Decidable (W3 c):=by unfold W3;infer_instance
theorem jV(c:aG):qL c=some (decide (W3 c)):=by
 unfold qL;rw[cE];by_cases h1:0<=c.aQ/\c.aQ<=100000
 ·by_cases h2:c.cW.length=3
  ·simp only[aD,h1,h2,pS];have key:∀k:Nat,k<=3->loop (vD c) (k:Int)=some (if ∀p∈c.cW.drop k,POk c.aQ p then Out.brk () else Out.ret false):=by
    refine aP6 3 _ fun k hk=>?_;by_cases h3:k<3
    ·have hd:c.cW.drop k=c.cW[k] :: c.cW.drop (k+1):=M5 (by omega);simp only[vD];rw[aL (by simp;omega),aV (by omega)];simp only[aD,cE,m8,hd];rw[lC (by simp[maxLen];omega)];generalize c.cW[k]=p;have hp:POk c.aQ p↔decide (0<=p.aQ/\p.aQ<=c.aQ)=true/\decide (0<=p.Seen/\p.Seen<=2)=true/\(p.On=false->decide (p=⟨false,0,false,0⟩)=true):=by simp only[POk,decide_eq_true_eq]
     simp only[List.forall_mem_cons,hp];generalize decide (0<=p.aQ/\p.aQ<=c.aQ)=b1;generalize decide (0<=p.Seen/\p.Seen<=2)=b2;generalize decide (p=⟨false,0,false,0⟩)=b3;generalize p.On=b4;cases b1<;>cases b2<;>cases b3<;>cases b4<;>simp[h3]
    ·left;obtain rfl:k=3:=by omega
     simp[vD,List.drop_eq_nil_of_le (show c.cW.length<=3 by omega)]
   have:=key 0 (by omega);simp only[Int.ofNat_zero,RX] at this;have e:decide (W3 c)=if ∀p∈c.cW,POk c.aQ p then true else false:=by have:W3 c↔∀p∈c.cW,POk c.aQ p:=⟨fun h=>h.2.2,fun h=>⟨h1,h2,h⟩⟩;simp[this]
   rw[e];simp only[Int.cast_ofNat_Int] at *;have t0:loop (vD c) 0=_:=this;by_cases h5:∀p∈c.cW,POk c.aQ p
   ·rw[aL h5] at t0 ⊢;rw[t0];simp[KY,WB]
   ·rw[aO h5] at t0 ⊢;rw[t0];simp[KY]
  grind[pS,W3]
 grind[pS,W3]
theorem aTX(p:wW)(c:aG):xN p c=some (!decide (POk c.aQ p)):=by
 unfold xN mS;rw[eC,eC];have hp:decide (POk c.aQ p)=(decide (0<=p.aQ/\p.aQ<=c.aQ) && (decide (0<=p.Seen/\p.Seen<=2) && (p.On || decide (p=⟨false,0,false,0⟩)))):=by rw[QJ];simp only[POk,decide_eq_true_eq,C8,Bool.or_eq_true];grind
 grind
theorem aRC{l:List wW}(hl:l.length<=maxLen)(f:wW->Bool):mR l (fun x=>some (f x))=some (l.any f):=by
 unfold mR xM;have key:∀k:Nat,k<=l.length->loop (j6 l (fun x=>some (f x))) (k:Int)=some (if(l.drop k).any f then Out.ret ((k+(l.drop k).findIdx f:Nat):Int) else Out.brk ()):=by
  refine aP6 l.length _ fun k hk=>?_;by_cases h3:k<l.length
  ·have hd:l.drop k=l[k] :: l.drop (k+1):=M5 h3;simp only[j6];rw[aL (by simp;omega),aV h3,lC (H0 h3 hl),hd];grind
  grind[j6]
 have t0:loop (j6 l (fun x=>some (f x))) 0=_:=key 0 (by omega);rw[t0];simp only[RX];by_cases h:l.any f=true
 ·simp[h,rZ]
 grind[rZ,D7]
theorem C6{c:aG}(hc:c.cW.length<=maxLen):tX c=some (decide (W3 c)):=by
 unfold tX uU;rw[eC];have e:(fun y0=>xN y0 c)=fun y0=>some (!decide (POk c.aQ y0)):=funext fun y=>aTX y c;rw[e,aRC hc];by_cases h1:0<=c.aQ/\c.aQ<=100000
 ·by_cases h2:c.cW.length=3
  ·have:W3 c↔∀p∈c.cW,POk c.aQ p:=⟨fun h=>h.2.2,fun h=>⟨h1,h2,h⟩⟩;grind
  grind[W3]
 grind[W3]
end Go.Gv
end
noncomputable section
namespace Go.Gv
def cS(l:List bM):List eJ:=l.flatMap bM.Rows
theorem OI{l:List bM}{k:Nat}(h:k<l.length):cS (l.take (k+1))=cS (l.take k)++l[k].Rows:=by grind[cS,W6]
theorem aLS(l:List bM)(k:Nat):(cS (l.take k)).length<=(cS l).length:=by grind[cS,aF0]
theorem aZ2(l:List bM){k:Nat}(h:k<l.length):l[k].Rows.length<=(cS l).length:=by have h1:=aLS l (k+1);grind[OI]
theorem aO7{l:List bM}{s:bM}(h:s∈l):s.Rows.length<=(cS l).length:=by grind[Z1,aZ2]
theorem OJ{l:List bM}(h:(cS l).length<=1073741824)(hl:l.length<=maxLen):EB l=some (cS l):=by
 unfold EB;have k1:loop (yG l) ([],0)=some (cS l):=by
  refine kT (f:=yG l) l.length (fun k=>(cS (l.take k),(k:Int))) _ (fun k hk=>?_) ?_
  ·have h1:=aLS l (k+1);rw[OI hk] at h1;simp only[yG];rw[aL (by simp;omega),aV hk];grind[aK,OI,lC]
  grind[yG]
 rw[k1];rfl
def kW(h:Int):Prop:=(32<=h/\h<=223)/\h % 32<24
instance (h:Int):Decidable (kW h):=by unfold kW;infer_instance
theorem fP(h:Int):jM h=some (decide (kW h)):=by grind[jM,zO,kW,cE,OF]
theorem fQ(h:Int):fF h=some (decide (kW h)):=by grind[fF,oG,kW,eC,OF]
theorem kW.mod{h:Int}(q:kW h):Int.tmod h 32=h % 32/\0<=h % 32/\h % 32<=23:=by grind[kW]
theorem dV(h:Int):gI h=some (if kW h then h % 32 else -1):=by grind[gI,fP,kW]
def EE(r:eJ):Prop:=kW r.Handle/\0<=r.aQ/\r.aQ<=100000
instance (r:eJ):Decidable (EE r):=by unfold EE;infer_instance
def pA(r:eJ):Int:=r.Handle % 32
def tJ(l:List bM):Prop:=l.length=3/\(cS l).length<=24/\(∀r∈cS l,EE r)/\((cS l).map pA).Nodup
instance (l:List bM):Decidable (tJ l):=by unfold tJ;infer_instance
def rowAt(l:List eJ)(k:Nat):eJ:=l.getD k ⟨0,0⟩
theorem ZJ{l:List eJ}{k:Nat}(h:k<l.length):rowAt l k=l[k]:=by grind[rowAt]
theorem aH8{l:List bM}(h:(cS l).length<=1073741824)(hl:l.length<=maxLen):ML l=some (decide (tJ l)):=by
 unfold ML C1;rw[OJ h hl];simp only[aD];by_cases h3:l.length=3
 ·have n1:((l.length:Int) != 3)=false:=by simp;omega
  simp only[n1,aT,aS];by_cases h24:(cS l).length<=24
  ·rw[aO (by simp; omega)];have hst:∀k,k<(cS l).length->vG (cS l) (((cS l).take k).map pA,(k:Int))=if EE (rowAt (cS l) k)/\pA (rowAt (cS l) k)∉((cS l).take k).map pA then some (.next (((cS l).take (k+1)).map pA,((k+1:Nat):Int))) else some (.stop (Out.ret false)):=by
    intro k hk;simp only[vG,vF];rw[aL (by simp;omega),aV hk,ZJ hk];simp only[aD,dV,cE];by_cases q:kW (cS l)[k].Handle
    ·have hm:=q.mod;rw[aL q,aO (by simp;omega)];by_cases q2:0<=(cS l)[k].aQ/\(cS l)[k].aQ<=100000
     ·rw[b9 q2];simp only[eF,aT,aS];rw[RL (by grind[maxLen])];simp only[aD];by_cases q3:(cS l)[k].Handle % 32∈((cS l).take k).map pA
      ·simp_all[pA]
      ·rw[eE q3];simp only[aT,aS];rw[aL (show EE (cS l)[k]/\pA (cS l)[k]∉((cS l).take k).map pA from⟨⟨q,q2⟩,q3⟩),aK (by simp;omega),aM (by omega) (by omega),map_take _ hk];rfl
     ·rw[eE q2];simp only[o7,aP];rw[aO (fun x:EE _/\_=>q2 x.1.2)]
    simp_all[EE]
   have key:=yR (f:=vG (cS l)) (cS l).length (fun k=>(((cS l).take k).map pA,(k:Int))) (fun k=>EE (rowAt (cS l) k)/\pA (rowAt (cS l) k)∉((cS l).take k).map pA) (Out.brk ()) (Out.ret false) (fun k hk hx=>by grind) (fun k hk hx=>by grind) (by simp[vG]);rw[List.take_zero,List.map_nil,show((0:Nat):Int)=0 from rfl] at key;rw[key];have hiff:tJ l↔∀k,k<(cS l).length->EE (rowAt (cS l) k)/\pA (rowAt (cS l) k)∉((cS l).take k).map pA:=by
    constructor
    ·rintro⟨_,_,q1,q2⟩ k hk;grind[ZJ,U6,List.map_take]
    ·intro q;refine⟨h3,h24,fun x hx=>?_,(U6 _).2 fun k hk=>?_⟩
     ·obtain⟨k,hk,rfl⟩:=Z1.1 hx;grind[ZJ]
     grind[ZJ,List.map_take]
   by_cases q:tJ l
   ·rw[aL (hiff.1 q),b9 q];rfl
   ·rw[aO (fun x=>q (hiff.2 x)),eE q];rfl
  ·rw[aL (by simp;omega),eE (fun q:tJ l=>h24 q.2.1)]
 ·have n1:((l.length:Int) != 3)=true:=by simp;omega
  simp_all[tJ]
def goR:List Bool->List eJ->Option (List Bool)
 | met,[]=>some met
 | met,r :: t=>if EE r/\met.getD (pA r).toNat true=false then goR (met.set (pA r).toNat true) t else none
theorem aYX:∀{xs:List eJ} {met m:List Bool},goR met xs=some m->m.length=met.length
 | [],met,m,h=>by grind[goR]
 | x :: r, met, m, h => by
  simp only[goR] at h;split at h
  ·have:=aYX h;grind
  ·cases h
theorem aLT:∀(a b:List eJ) (met:List Bool),goR met (a++b)=(goR met a).bind fun m=>goR m b
 | [],b,met=>rfl
 | x :: r, b, met => by
  simp only[ZY,goR];split
  ·exact aLT r b _
  ·rfl
theorem aTY:∀(xs:List eJ) (met:List Bool),(goR met xs).isSome=true↔(∀r∈xs,EE r)/\(B7 met (xs.map pA)).isSome=true
 | [],met=>by simp[goR,B7]
 | x :: r, met => by
  simp only[goR,Z0,B7];by_cases h:EE x
  ·have hm:=h.1.mod;have hs:0<=pA x/\pA x<=23:=hm.2;by_cases h2:met.getD (pA x).toNat true=false
   ·rw[aL ⟨h,h2⟩,aL ⟨hs,h2⟩,aTY r _];simp[h]
   grind
  grind
theorem aZ3{s:bM}(hl:s.Rows.length<=maxLen):∀d k (met:List Bool),k+d=s.Rows.length->met.length=24->loop (m5 s) ((k:Int),met)=some (aRB (goR met (s.Rows.drop k))):=by
 intro d;induction d with
 | zero =>
  intro k met hk hm;rw[bV (r:=Out.brk met) (by grind[m5]),List.drop_eq_nil_of_le (by omega)];rfl
 | succ d ih =>
  intro k met hk hm;have hk':k<s.Rows.length:=by omega
  have hd:s.Rows.drop k=s.Rows[k] :: s.Rows.drop (k+1):=M5 hk';have hst:m5 s ((k:Int),met)=if EE s.Rows[k]/\met.getD (pA s.Rows[k]).toNat true=false then some (.next (((k+1:Nat):Int),met.set (pA s.Rows[k]).toNat true)) else some (.stop (Out.ret false)):=by
   simp only[m5];rw[aL (by simp;omega),aV hk'];simp only[aD,fQ,eC];generalize s.Rows[k]=x;by_cases q:kW x.Handle
   ·by_cases q2:0<=x.aQ/\x.aQ<=100000
    ·have hm2:=q.mod;obtain⟨j,hj0⟩:=a6K hm2.2.1;have hj:j<met.length:=by omega
     have e:met.getD j true=met[j]:=by grind
     have hr:EE x:=⟨q,q2⟩;simp only[q,q2,and_self,decide_true,eF,aT,aS,kZ,hm2.1,hj0,OR,hr,true_and,pA,e];rw[aK (by omega),aV hj];simp only[aD];cases met[j]
     ·simp only[aT,aS,aP];grind[aK,lC]
     ·simp
    ·rw[b9 q,eE q2];simp only[eF,o7,aT,aS,aP,kZ];rw[aO (fun y:EE x/\_=>q2 y.1.2)]
   simp_all[kZ,EE]
  rw[hd,goR];by_cases q:EE s.Rows[k]/\met.getD (pA s.Rows[k]).toNat true=false
  ·rw[aL q] at hst ⊢;grind[bW]
  ·rw[aO q] at hst ⊢;rw[bV hst];rfl
theorem aZ4{l:List bM}(hn:l.length<=1000)(hs:∀s∈l,s.Rows.length<=maxLen):∀d k (met:List Bool),k+d=l.length->met.length=24 ->
  loop (m6 l) ((k:Int),met)=some (if(goR met (cS (l.drop k))).isSome=true then Out.brk () else Out.ret false):=by
 intro d;induction d with
 | zero =>
  simp_all[goR,cS,bV,m6]
 | succ d ih =>
  intro k met hk hm;have hk':k<l.length:=by omega
  have hd:l.drop k=l[k] :: l.drop (k+1):=M5 hk';have hsk:=hs _ (dW hk');have hf:cS (l.drop k)=l[k].Rows++cS (l.drop (k+1)):=by grind[cS]
  have h4:=aZ3 hsk _ 0 met (VJ _) hm;rw[show((0:Nat):Int)=0 from rfl,RX] at h4;have hst:m6 l ((k:Int),met)=(match goR met l[k].Rows with | some m=>some (.next (((k+1:Nat):Int),m)) | none=>some (.stop (Out.ret false))):=by
   simp only[m6];rw[aL (by simp;omega),aV hk'];simp only[aD];rw[h4];cases goR met l[k].Rows with
   | none=>rfl
   | some m=>simp only[aD,aRB,V2,CK];grind[aM]
  rw[hf,aLT];cases hg:goR met l[k].Rows with
  | none =>
   simp_all[bV]
  | some m =>
   rw[hg] at hst;rw[bW hst,ih (k+1) m (by omega) (by grind[aYX])];simp
theorem aDT{l:List bM}(hn:l.length<=1000)(h:(cS l).length<=1073741824):xL l=some ((cS l).length:Int):=by
 unfold xL;have key:loop (kP l) (0,0)=some ((cS l).length:Int):=by
  refine kT (f:=kP l) l.length (fun k=>(((cS (l.take k)).length:Int),(k:Int))) _ (fun k hk=>?_) ?_
  ·have h1:=aLS l (k+1);rw[OI hk,JO] at h1;simp only[kP];rw[aL (by simp;omega),aV hk];grind[aM,OI]
  grind[kP]
 rw[key];rfl
theorem K4{l:List bM}(h:(cS l).length<=1073741824):qA l=some (decide (tJ l)):=by
 unfold qA;by_cases h3:l.length=3
 ·have n1:((l.length:Int) != 3)=false:=by simp;omega
  have hb:(1073741824:Nat)<=maxLen:=by simp[maxLen]
  simp only[n1,aT,aS];have key:=aZ4 (l:=l) (by omega) (fun s hs=>by have:=aO7 hs;omega) l.length 0 [false,false,false,false,false,false,false,false,false,false,false,false,false,false,false,false,false,false,false,false,false,false,false,false] (by omega) rfl;rw[show((0:Nat):Int)=0 from rfl,RX] at key;rw[key];have hm0:∀j:Nat,j<24->[false,false,false,false,false,false,false,false,false,false,false,false,false,false,false,false,false,false,false,false,false,false,false,false].getD j true=false:=by decide
  have hiff:tJ l↔(cS l).length<=24/\(goR [false,false,false,false,false,false,false,false,false,false,false,false,false,false,false,false,false,false,false,false,false,false,false,false] (cS l)).isSome=true:=by
   rw[aTY,aBR _ _ rfl];have hr:(∀r∈cS l,EE r)->∀x∈(cS l).map pA,0<=x/\x<=23:=by intro q x hx;obtain⟨r,hr,rfl⟩:=List.mem_map.1 hx;exact(q r hr).1.mod.2
   constructor
   ·rintro⟨_,q1,q2,q3⟩;grind
   ·rintro⟨q1,q2,_,q3,_⟩;exact⟨h3,q1,q2,q3⟩
  by_cases q:(goR [false,false,false,false,false,false,false,false,false,false,false,false,false,false,false,false,false,false,false,false,false,false,false,false] (cS l)).isSome=true
  ·rw[aL q];simp only[aD,V3,CJ];rw[aDT (by omega) h];grind
  ·rw[aO q,eE (fun x=>q (hiff.1 x).2)];rfl
 ·have n1:((l.length:Int) != 3)=true:=by simp;omega
  simp_all[tJ]
def eV(h:Int):Prop:=h=0\/kW h
instance (h:Int):Decidable (eV h):=by unfold eV;infer_instance
def RO(z:List Int):Prop:=z.length=3/\∀h∈z,eV h
instance (z:List Int):Decidable (RO z):=by unfold RO;infer_instance
theorem B8{z:List Int}(hl:z.length<=maxLen):H9 z=some (decide (RO z)):=by
 unfold H9;have hst:∀k (hk:k<z.length),BS z (k:Int)=if eV z[k] then some (.next ((k+1:Nat):Int)) else some (.stop (Out.ret false)):=by
  intro k hk;simp only[BS,JC];rw[aL (by simp;omega),aV hk,lC (H0 hk hl)];simp only[aD,fP];generalize z[k]=x;by_cases q:x=0
  ·have n:(x != 0)=false:=by simp only[bne_eq_false_iff_eq];exact q
   rw[n,aL (show eV x from .inl q)];rfl
  ·have n:(x != 0)=true:=by simp only[bne_iff_ne];exact q
   by_cases q2:kW x
   ·rw[n,b9 q2,aL (show eV x from .inr q2)];rfl
   ·rw[n,eE q2,aO (fun a:eV x=>a.elim q q2)];rfl
 have key:=kV (f:=BS z) z (fun k=>(k:Int)) eV (Out.brk ()) (Out.ret false) (fun k hk hx=>by grind) (fun k hk hx=>by grind) (by simp[BS]);rw[show((0:Nat):Int)=0 from rfl] at key;rw[key];by_cases q:∀x∈z,eV x
 ·rw[aL q];have:RO z↔z.length=3:=⟨fun a=>a.1,fun a=>⟨a,q⟩⟩;simp only[aD,aAD,aAC,this];congr 1;grind
 ·rw[aO q,eE (fun a:RO z=>q a.2)];rfl
theorem aAQ{z:List Int}(hl:z.length<=maxLen):NQ z=some (decide (RO z)):=by
 unfold NQ I6;have e:(fun y0=>L9 y0)=fun y:Int=>some (!decide (eV y)):=by
  funext y;unfold L9 xQ xP;rw[fQ];by_cases q:y=0
  ·simp_all[eV]
  grind[eV]
 rw[e,MW hl,ZH];by_cases h3:z.length=3
 ·have n:((z.length:Int) == 3)=true:=by simp;omega
  have:RO z↔∀h∈z,eV h:=⟨fun a=>a.2,fun a=>⟨h3,a⟩⟩;grind
 ·have n:((z.length:Int) == 3)=false:=by simp;omega
  simp_all[RO]
end Go.Gv
end
noncomputable section
namespace Go.Gv
theorem TQ{α:Type}(l:List α)(f:α->Bool){body:Int->Option (Step Int (Out Unit Int))}(hb:∀k (hk:k<l.length),body (k:Int)=if f l[k] then some (.stop (.ret (k:Int))) else some (.next ((k+1:Nat):Int)))(he:body (l.length:Int)=some (.stop (.brk ()))) :
  ∃o,loop body 0=some o/\match o with | .brk _=>l.any f=false | .ret r=>0<=r/\l.any f=true:=by
 have key:=aZZ (f:=body) l.length (fun k=>(k:Int)) (fun k=>if(l.drop k).any f then Out.ret ((k+(l.drop k).findIdx f:Nat):Int) else Out.brk ()) (fun k hk=>by
  by_cases h:k<l.length
  ·have hd:l.drop k=l[k] :: l.drop (k+1):=M5 h;grind
  grind) 0 (lL _)
 grind
theorem aOC{l:List eJ}(hl:l.length<=maxLen)(f:eJ->Bool):l6 l (fun x=>some (f x))=some (l.any f):=by
 obtain⟨o,e,h⟩:=TQ l f (body:=l5 l (fun x=>some (f x))) (fun k hk=>by
  simp only[l5];rw[aL (by simp;omega),aV hk,lC (H0 hk hl)];rfl) (by simp[l5])
 grind[l6,wE,BE,BD]
theorem aLU{l:List bM}(hl:l.length<=maxLen)(f:bM->Bool)(g:bM->Option Bool)(hg:∀x∈l,g x=some (f x)):lI l g=some (l.any f):=by
 obtain⟨o,e,h⟩:=TQ l f (body:=lH l g) (fun k hk=>by
  simp only[lH];rw[aL (by simp;omega),aV hk,lC (H0 hk hl)];grind) (by simp[lH])
 grind[lI,tV,AJ,AI]
theorem YO{l:List aY}(hl:l.length<=maxLen)(f:aY->Bool)(g:aY->Option Bool)(hg:∀x∈l,g x=some (f x)):jA l g=some (l.any f):=by
 obtain⟨o,e,h⟩:=TQ l f (body:=lJ l g) (fun k hk=>by
  simp only[lJ];rw[aL (by simp;omega),aV hk,lC (H0 hk hl)];grind) (by simp[lJ])
 grind[jA,tW,AL,AK]
theorem contains_eq{l:List Int}(hl:l.length<=maxLen)(v:Int):nE l v=some (decide (v∈l)):=by
 obtain⟨o,e,h⟩:=TQ l (fun x=>v == x) (body:=fE l v) (fun k hk=>by
  simp only[fE];rw[aL (by simp;omega),aV hk,lC (H0 hk hl)];rfl) (by simp[fE])
 have ha:l.any (fun x=>v == x)=decide (v∈l):=by grind
 grind[nE,oF,AP,LB]
theorem M1{l:List aY}{x:Int}:x∈fJ l↔∃s∈l,x∈s.aW:=aOM
noncomputable section
variable {m:Mem} (hsh:fI m.Heap) (hl:(eU m.aB).length<=1073741824) (hg:m.aB.Global.length<=maxLen) (ho:m.aB.Own.length<=maxLen)
include hl hg ho
theorem aLV(s:Int):P7 m.aB s=some (decide (s∈eU m.aB)):=by grind[maxLen,P7,aAP,RL]
theorem YP(s:Int):JX m.aB s=some (decide (s∈eU m.aB)):=by
 have hb:(1073741824:Nat)<=maxLen:=by simp[maxLen]
 have hal:=vN m.aB;have e1:∀x∈m.aB.Global,qR x s=some (decide (s∈x.aW)):=fun x hx=>by have:=KA hx;grind[qR,contains_eq]
 have e2:∀x∈m.aB.Own,qR x s=some (decide (s∈x.aW)):=fun x hx=>by have:=KA hx;grind[qR,contains_eq]
 unfold JX FF;rw[YO hg (fun x=>decide (s∈x.aW)) _ e1,YO ho (fun x=>decide (s∈x.aW)) _ e2];have a1:(m.aB.Global.any fun x=>decide (s∈x.aW))=decide (s∈fJ m.aB.Global):=by rw[QJ];simp[M1]
 have a2:(m.aB.Own.any fun x=>decide (s∈x.aW))=decide (s∈fJ m.aB.Own):=by rw[QJ];simp[M1]
 grind[eU]
def hQ(m:Mem)(s:Int):Int:=if bD m.Heap s<0 then 0 else if s∈eU m.aB then 1 else if 6<mM m.Heap s then 2 else 3
include hsh
theorem WO(s:Int):GJ m s=some (hQ m s):=by grind[GJ,hQ,jU,aLV,qW]
theorem aH9(s:Int):L4 m s=some (hQ m s):=by grind[L4,hQ,iY,YP,JJ]
def mN(m:Mem)(h:Int):Prop:=kW h/\hQ m (h % 32)=3/\mM m.Heap (h % 32)=h / 32
instance (m:Mem) (h:Int):Decidable (mN m h):=by unfold mN;infer_instance
omit hl hg ho hsh in
theorem jF{m:Mem}{s:Int}(h:hQ m s=3):0<=bD m.Heap s:=by grind[hQ]
theorem vO(h:Int):zP m h=some (decide (mN m h)):=by
 unfold zP vH;rw[fP,dV];by_cases q:kW h
 ·have hm:=q.mod;rw[b9 q,aL q];simp only[aD,aP,WO hsh hl hg ho];by_cases q2:hQ m (h % 32)=3
  ·have n:(hQ m (h % 32) == 3)=true:=by grind
   have eg:GK h=some (h / 32):=by grind[GK,kW,fP,aM]
   rw[n,qW hsh (jF q2),eg];simp only[aP,aD];congr 1;rw[QJ];simp only[beq_iff_eq,decide_eq_true_eq];exact⟨fun a=>⟨q,q2,a⟩,fun a=>a.2.2⟩
  grind[mN]
 grind[mN]
theorem HE(h:Int):xK m h=some (decide (mN m h)):=by
 unfold xK xJ;rw[fQ];by_cases q:kW h
 ·have hm:=q.mod;rw[b9 q,hm.1];simp only[aD,aP,aH9 hsh hl hg ho];by_cases q2:hQ m (h % 32)=3
  ·have n:(hQ m (h % 32) == 3)=true:=by grind
   have eg:bB (Int.tdiv h 32)=h / 32:=by grind[kW,aM]
   rw[n,JJ hsh (jF q2),eg];simp only[aP,aD];congr 1;rw[QJ];simp only[beq_iff_eq,decide_eq_true_eq];exact⟨fun a=>⟨q,q2,a⟩,fun a=>a.2.2⟩
  grind[mN]
 grind[mN]
end
def U7(b:aA)(r:eJ):Prop:=mN b.Mem r.Handle/\r.aQ<=b.aG.aQ
instance (b:aA) (r:eJ):Decidable (U7 b r):=by unfold U7;infer_instance
def nB(b:aA):Prop:=(oA b.Mem/\W3 b.aG/\tJ b.bH/\RO b.qZ)/\∀r∈cS b.bH,U7 b r
instance (b:aA):Decidable (nB b):=by unfold nB;infer_instance
def aLW(b:aA):Prop:=DX b.Mem/\b.aG.cW.length<=1048576/\b.bH.length<=1048576/\(cS b.bH).length<=1048576/\b.qZ.length<=1048576
noncomputable section
variable {b:aA} (hf:b.Mem.Heap.Bytes.length<=maxLen/\(eU b.Mem.aB).length<=1073741824/\b.aG.cW.length<=maxLen/\b.bH.length<=maxLen/\(cS b.bH).length<=1073741824/\b.qZ.length<=maxLen)
include hf
theorem aLX:P8 b=some (decide (nB b)):=by
 obtain⟨f1,f2,f3,f4,f5,f6⟩:=hf;unfold P8 sM;rw[RN f1 f2,jV,aH8 f5 f4,B8 f6];by_cases q1:oA b.Mem
 ·by_cases q2:W3 b.aG
  ·by_cases q3:tJ b.bH
   ·by_cases q4:RO b.qZ
    ·have hg:b.Mem.aB.Global.length<=maxLen:=by rw[q1.1.2.1];simp[maxLen]
     have ho:b.Mem.aB.Own.length<=maxLen:=by rw[q1.1.2.2.1];simp[maxLen]
     have hmx:(1073741824:Nat)<=maxLen:=by simp[maxLen]
     simp only[b9 q1,b9 q2,b9 q3,b9 q4,aD,eF,aT,aS];rw[OJ f5 f4];simp only[aD];have hst:∀k (hk:k<(cS b.bH).length),yH b (cS b.bH) (k:Int)=if U7 b (cS b.bH)[k] then some (.next ((k+1:Nat):Int)) else some (.stop (Out.ret false)):=by
      intro k hk;simp only[yH,GL];rw[aL (by simp;omega),aV hk,lC (show k<maxLen by omega)];generalize (cS b.bH)[k]=r;simp only[aD,vO q1.1.1.1 f2 hg ho];by_cases a1:mN b.Mem r.Handle
      ·rw[b9 a1];simp only[eF,aT,aS];by_cases a2:r.aQ<=b.aG.aQ
       ·rw[aO (by simp;omega),aL ⟨a1,a2⟩]
       ·rw[aL (by simp;omega),aO (fun x=>a2 x.2)]
      ·rw[eE a1];simp only[o7,aP];rw[aO (fun x=>a1 x.1)]
     have key:=kV (f:=yH b (cS b.bH)) (cS b.bH) (fun k=>(k:Int)) (U7 b) (Out.brk ()) (Out.ret false) (fun k hk hx=>by grind) (fun k hk hx=>by grind) (by simp[yH]);rw[show((0:Nat):Int)=0 from rfl] at key;rw[key];by_cases q:∀r∈cS b.bH,U7 b r
     ·rw[aL q,b9 (show nB b from⟨⟨q1,q2,q3,q4⟩,q⟩)];rfl
     ·rw[aO q,eE (fun x:nB b=>q x.2)];rfl
    grind[nB]
   grind[nB]
  grind[nB]
 grind[nB]
end
end Go.Gv
end
noncomputable section
namespace Go.Gv
theorem U8{s:List bC}{p:bC->Bool}(hl:s.length<=4611686018427387904) :
  (∃j,∃h:j<s.length,(∀i (h:i<s.length),i<j->p s[i]=false)/\p s[j]=true/\dL s (fun y=>some (p y))=some (j:Int))\/((∀i (h:i<s.length),p s[i]=false)/\dL s (fun y=>some (p y))=some (-1)):=by
 rcases aDR (f:=pD s (fun y=>some (p y))) (p:=p) hl (fun k=>by
  simp only[pD];by_cases h:k<s.length
  ·rw[dif_pos h,aL (by simp;omega),aV h,aD,aD,aM (by omega) (by omega)];rfl
  grind) s.length 0 (by omega) with ⟨j,h,_,h2,h3,h4⟩ | ⟨h1,h2⟩
 ·refine .inl ⟨j,h,fun i hi a=>h2 i hi (lL _) a,h3,?_⟩;unfold dL;rw[show(0:Int)=((0:Nat):Int) from rfl,h4];rfl
 ·refine .inr ⟨fun i hi=>h1 i hi (lL _),?_⟩;unfold dL;rw[show(0:Int)=((0:Nat):Int) from rfl,h2];rfl
theorem aGA{s:List Seen}{p:Seen->Bool}(hl:s.length<=4611686018427387904) :
  (∃j,∃h:j<s.length,(∀i (h:i<s.length),i<j->p s[i]=false)/\p s[j]=true/\eX s (fun y=>some (p y))=some (j:Int))\/((∀i (h:i<s.length),p s[i]=false)/\eX s (fun y=>some (p y))=some (-1)):=by
 rcases aDR (f:=qT s (fun y=>some (p y))) (p:=p) hl (fun k=>by
  simp only[qT];by_cases h:k<s.length
  ·rw[dif_pos h,aL (by simp;omega),aV h,aD,aD,aM (by omega) (by omega)];rfl
  grind) s.length 0 (by omega) with ⟨j,h,_,h2,h3,h4⟩ | ⟨h1,h2⟩
 ·refine .inl ⟨j,h,fun i hi a=>h2 i hi (lL _) a,h3,?_⟩;unfold eX;rw[show(0:Int)=((0:Nat):Int) from rfl,h4];rfl
 ·refine .inr ⟨fun i hi=>h1 i hi (lL _),?_⟩;unfold eX;rw[show(0:Int)=((0:Nat):Int) from rfl,h2];rfl
theorem aOD{s:List bC}{p:bC->Bool}(hl:s.length<=4611686018427387904):j7 s (fun y=>some (p y))=some (s.filter fun x=>!p x):=by
 unfold j7;rcases U8 (p:=p) hl with ⟨j,h,h1,h2,h3⟩ | ⟨h1,h3⟩
 ·have ne:¬(((j:Int) == -1)=true):=by simp
  rw[h3,aD,aO ne,aM (by omega) (by omega)];obtain⟨M,k,g1,g2,g3,g4⟩:=aQ6 (p:=p) (n:=s.length) (f:=kQ (fun y=>some (p y))) hl (fun L i j h hn hi=>by
   simp only[kQ];rw[aL (by simp;omega),aV h,aD,aD];by_cases hp:p L[j]=true
   ·rw[aL hp,aO (by simp[hp])];grind[iS,aM]
   ·rw[aO hp,aL (by grind),aV (by omega),aD];grind[iS,aM]) (fun L i j h=>by
   simp_all[kQ]) (s.length - (j+1)) s j (j+1) (by omega) rfl (by omega)
  grind[xU,xT,aK,eY,aZ0,a4P]
 ·rw[h3,aD,aL (by rfl),List.filter_eq_self.2];grind[aJA]
theorem aYY{α:Type}{q:α->Bool}:∀{s:List α} {j:Nat} (h:j<s.length),(∀i (h:i<s.length),i<j->q s[i]=true)->q s[j]=false->s.takeWhile q=s.take j/\s.dropWhile q=s.drop j
 | [],j,h,_,_=>by cases h
 | x :: r, 0, h, _, h2 => by simp_all
 | x :: r, j + 1, h, h1, h2 => by have hx:q x=true:=h1 0 (Nat.zero_lt_succ _) (Nat.zero_lt_succ _);have:=aYY (s:=r) (j:=j) (by grind) (fun i hi hj=>h1 (i+1) (by omega) (by omega)) h2;simp_all
theorem bBU{α:Type}{q:α->Bool}{s:List α}(h:∀i (h:i<s.length),q s[i]=true):s.takeWhile q=s/\s.dropWhile q=[]:=by
 have h':∀x∈s,q x=true:=fun x hx=>by grind[aJA]
 clear h;induction s with
 | nil=>simp
 | cons x r ih =>
  simp_all
def aLY(l:List bC)(x:bC):List bC:=
 (l.filter fun y=>!(y.Key == x.Key)).takeWhile (fun y=>!decide (x.Key<y.Key)) ++ [x]++(l.filter fun y=>!(y.Key == x.Key)).dropWhile (fun y=>!decide (x.Key<y.Key))
theorem aFM{l:List bC}(hl:l.length<=1000)(x:bC):I8 l x=some (aLY l x):=by
 unfold I8 DL aLY;rw[aK (by simp;omega)];simp only[aD,aSF];have hd:j7 l (fun y0=>KR y0 x)=some (l.filter fun y=>!(y.Key == x.Key)):=aOD (p:=fun y=>y.Key == x.Key) (by omega);rw[hd,aD];have hlen:(l.filter fun y=>!(y.Key == x.Key)).length<=1000:=tG (List.length_filter_le _ _) hl;generalize (l.filter fun y=>!(y.Key == x.Key))=o at hlen ⊢;have hi:(∃j,∃h:j<o.length,(∀i (h:i<o.length),i<j->decide (x.Key<o[i].Key)=false)/\decide (x.Key<o[j].Key)=true/\dL o (fun y0=>CP y0 x)=some (j:Int))\/((∀i (h:i<o.length),decide (x.Key<o[i].Key)=false)/\dL o (fun y0=>CP y0 x)=some (-1)):=U8 (p:=fun y=>decide (x.Key<y.Key)) (by omega);rcases hi with ⟨j,h,h1,h2,h3⟩ | ⟨h1,h3⟩
 ·obtain⟨t1,t2⟩:=aYY (q:=fun y:bC=>!decide (x.Key<y.Key)) h (fun i hi a=>by grind) (by simp[h2]);rw[h3,aD,aO (by simp),t1,t2];grind[sE,rL,aK]
 ·obtain⟨t1,t2⟩:=bBU (s:=o) (q:=fun y:bC=>!decide (x.Key<y.Key)) (fun i hi=>by grind);rw[h3,aD,aL (by decide),t1,t2];grind[sE,rL,aK,List.drop_length]
def aOE(l:List bC)(k:Int):bC×Bool:=match l.find? (fun y=>y.Key == k) with | some x=>(x,true) | none=>(⟨0,false,0⟩,false)
theorem aLZ{α:Type}{p:α->Bool}{s:List α}{j:Nat}(h:j<s.length)(h1:∀i (h:i<s.length),i<j->p s[i]=false)(h2:p s[j]=true):s.find? p=some s[j]:=by grind[List.find?_eq_some_iff_getElem]
theorem aYZ{α:Type}{p:α->Bool}{s:List α}(h1:∀i (h:i<s.length),p s[i]=false):s.find? p=none:=by grind[aJA]
theorem aIA{l:List bC}(hl:l.length<=1000)(k:Int):MD l k=some (aOE l k):=by
 unfold MD aOE;have hi:(∃j,∃h:j<l.length,(∀i (h:i<l.length),i<j->(l[i].Key == k)=false)/\(l[j].Key == k)=true/\dL l (fun y0=>F9 y0 k)=some (j:Int))\/((∀i (h:i<l.length),(l[i].Key == k)=false)/\dL l (fun y0=>F9 y0 k)=some (-1)):=U8 (p:=fun y=>y.Key == k) (by omega);rcases hi with ⟨j,h,h1,h2,h3⟩ | ⟨h1,h3⟩
 ·rw[h3,aD,aO (by simp),aV h,aLZ (p:=fun y:bC=>y.Key == k) h h1 h2];rfl
 simp_all[aYZ]
def LG(l:List Seen)(b v:Int):List Seen×Bool:=match l.find? (fun y=>y.dZ == b) with | some x=>(l,x.hJ == v) | none=>(l ++ [⟨b,v⟩],true)
theorem aIB{l:List Seen}(hl:l.length<=1000)(b v:Int):ME l b v=some (LG l b v):=by
 unfold ME GF LG;rw[aK (by simp;omega)];simp only[aD,aSF];have hi:(∃j,∃h:j<l.length,(∀i (h:i<l.length),i<j->(l[i].dZ == b)=false)/\(l[j].dZ == b)=true/\eX l (fun y0=>GG y0 b)=some (j:Int))\/((∀i (h:i<l.length),(l[i].dZ == b)=false)/\eX l (fun y0=>GG y0 b)=some (-1)):=aGA (p:=fun y=>y.dZ == b) (by omega);rcases hi with ⟨j,h,h1,h2,h3⟩ | ⟨h1,h3⟩
 ·rw[h3,aD,aO (by simp),aV h,aLZ (p:=fun y:Seen=>y.dZ == b) h h1 h2];rfl
 ·rw[h3,aD,aL (by decide),aK (by simp;omega),aYZ (p:=fun y:Seen=>y.dZ == b) h1]
def KB(l:List bC)(n:Int):Int:=(((l.take n.toNat).filter fun x=>!x.OQ).length:Int)
theorem aWC(l:List bC)(n:Int):(l.take ((if(if(l.length:Int)<n then(l.length:Int) else n)<0 then 0 else(if(l.length:Int)<n then(l.length:Int) else n)).toNat)).drop 0=l.take n.toNat:=by
 (simp_all;omega)
theorem aDU{l:List bC}(hl:l.length<=1000)(n:Int):S6 l n=some (KB l n):=by
 unfold S6 KB;rw[aK (by omega)];have hc:=aWC l n;obtain⟨s,hs⟩:∃s,s=l.take n.toNat:=⟨_,rfl⟩;have hsl:s.length<=1000:=by grind
 rw[show((0:Int),(0:Int))=((((s.take 0).filter fun x=>!x.OQ).length:Int),((0:Nat):Int)) from rfl,
  kT s.length (fun k=>((((s.take k).filter fun x=>!x.OQ).length:Int),(k:Int))) (((s.filter fun x=>!x.OQ).length:Nat):Int) (fun k hk=>by
   have ht:s.take (k+1)=s.take k ++ [s[k]]:=W6 hk;have hle:((s.take k).filter fun x=>!x.OQ).length<=1000:=tG (List.length_filter_le _ _) (by grind);simp only[UN,hc,<-hs];rw[aL (by simp;omega),aV hk,aD,ht,List.filter_append];cases hd:s[k].OQ
   ·rw[aL (by rfl),aM (by omega) (by omega)];simp only[GH];rw[aM (by omega) (by omega)];simp[hd]
   ·rw[aO (by simp)];grind[GH,aM]) (by
   simp only[UN,hc,<-hs];simp)]
 rw[hs];rfl
def OK(k:Int):Int:=if 0<=k/\k<=99 then k % 2 else -1
theorem RP(k:Int):H7 k=some (OK k):=by unfold H7 OK;rw[eC,aD];grind
def KC(l:List bC):List Int:=(if l.any (fun x=>x.Key % 2 == 0) then [0] else [])++(if l.any (fun x=>x.Key % 2 == 1) then [1] else [])
theorem aWD{l:List Int}(hs:l.Pairwise (· < ·))(hm:∀x∈l,x=0\/x=1):l=(if 0∈l then [0] else [])++(if 1∈l then [1] else []):=by
 match l,hs,hm with
 | [],_,_=>rfl
 | [x],_,hm=>rcases hm x (by simp) with rfl | rfl<;>rfl
 | [x, y], hs, hm =>
  have hxy:x<y:=by grind
  rcases hm x (by simp) with rfl | rfl<;>rcases hm y (by simp) with rfl | rfl<;>first | omega | rfl
 | x :: y :: z :: r, hs, hm =>
  (simp_all;omega)
theorem aIC{l:List bC}(hl:l.length<=12)(hk:∀x∈l,0<=x.Key/\x.Key<=99):MF l=some (KC l):=by
 unfold MF;rw[show(([]:List Int),(0:Int))=((l.take 0).map (fun x=>x.Key % 2),((0:Nat):Int)) from rfl,
  kT l.length (fun k=>((l.take k).map (fun x=>x.Key % 2),(k:Int))) (l.map fun x=>x.Key % 2) (fun k hlt=>by
   have ht:l.take (k+1)=l.take k ++ [l[k]]:=W6 hlt;have hkk:=hk l[k] (dW hlt);simp only[KU];rw[aL (by simp;omega),aV hlt,aD,RP,aD];unfold OK;rw[aL hkk,aL (by simp;omega),aK (by simp;omega),ht,A5];grind[CS,aM]) (by
   simp[KU]),aD]
 simp only[V6,KT];obtain⟨y,h1,h2,h3⟩:=a4Q (x:=l.map fun x=>x.Key % 2) (by grind) (by grind[aV8]);rw[h1,aD];obtain⟨c1,c2⟩:=aTV h3;have hmem:∀a,a∈EH y↔∃x∈l,x.Key % 2=a:=fun a=>by grind
 have h01:∀a∈EH y,a=0\/a=1:=fun a ha=>by grind
 show some (EH y)=_;rw[aWD c1 h01];grind[KC]
theorem a8B(l:List bC):(KC l).length<=2:=by grind[KC]
theorem aTZ{l:List bC}{b:Int}(h:b∈KC l):b=0\/b=1:=by grind[KC]
end Go.Gv
end
noncomputable section
namespace Go.Gv
theorem TS{α:Type}{f:(List α×Int)->Option (Step (List α×Int) (List α))}(l:List α)
  (h:∀k (hk:k<l.length),f (l.take k,(k:Int))=some (.next (l.take k ++ [l[k]],((k+1:Nat):Int)))) (he:f (l,(l.length:Int))=some (.stop l)):loop f ([],0)=some l:=by
 have:=kT (f:=f) l.length (fun k=>(l.take k,(k:Int))) l (fun k hk=>by simp_all) (by grind);grind
theorem ZK{α:Type}{f:(Int×List α)->Option (Step (Int×List α) (List α))}(l:List α)
  (h:∀k (hk:k<l.length),f ((k:Int),l.take k)=some (.next (((k+1:Nat):Int),l.take k ++ [l[k]]))) (he:f ((l.length:Int),l)=some (.stop l)):loop f (0,[])=some l:=by
 have:=kT (f:=f) l.length (fun k=>((k:Int),l.take k)) l (fun k hk=>by simp_all) (by grind);grind
theorem II{l:List Int}(h:l.length<=1073741824):yJ l=some l:=by grind[yJ,aK]
theorem AB{l:List Int}(h:l.length<=1073741824):i5 l=some l:=by grind[i5,aK]
theorem aRD{l:List wW}(h:l.length<=1073741824):zA l=some l:=by grind[zA,aK]
theorem aOF{l:List eJ}(h:l.length<=1073741824):wK l=some l:=by grind[wK,aK]
theorem aZ5{l:List aY}(hl:l.length<=1048576)(hs:∀s∈l,s.aW.length<=1048576):P9 l=some l:=by
 unfold P9;rw[TS l]
 ·rfl
 ·intro k hk;have:=hs _ (dW hk);simp only[NY];rw[aL (by simp;omega),aV hk];simp only[aD];rw[II (by omega),aD,aK (by simp;omega),aM (by omega) (by omega)];rfl
 grind[NY]
theorem aOG{l:aB}(h1:l.Global.length<=1048576)(h2:l.Own.length<=1048576)(h3:∀s∈l.Global,s.aW.length<=1048576)(h4:∀s∈l.Own,s.aW.length<=1048576):XV l=some l:=by simp_all[XV,aZ5]
theorem RQ{l:aB}(h1:l.Global.length<=1048576)(h2:l.Own.length<=1048576)(h3:∀s∈l.Global,s.aW.length<=1048576)(h4:∀s∈l.Own,s.aW.length<=1048576):jK l=some l:=by
 unfold jK;rw[ZK l.Global]
 ·simp only[aD,PW,PU];rw[ZK l.Own]
  ·rfl
  ·intro k hk;have:=h4 _ (dW hk);simp only[E7];rw[aL (by simp;omega),aV hk];simp only[aD];rw[AB (by omega),aD,aK (by simp;omega),E6,aM (by omega) (by omega)];rfl
  grind[E7]
 ·intro k hk;have:=h3 _ (dW hk);simp only[E9];rw[aL (by simp;omega),aV hk];simp only[aD];rw[AB (by omega),aD,aK (by simp;omega),E8,aM (by omega) (by omega)];rfl
 grind[E9]
theorem aRE{h:Heap}(h1:h.Bytes.length<=1048576)(h2:h.Class.length<=1048576):XU h=some h:=by unfold XU;rw[II (by omega),II (by omega)];rfl
theorem U9{h:Heap}(h1:h.Bytes.length<=1048576)(h2:h.Class.length<=1048576):vU h=some h:=by unfold vU;rw[AB (by omega),AB (by omega)];rfl
theorem aGB{m:Mem}(h:DX m):XW m=some m:=by have a:=aRE h.1 h.2.1;have b:=aOG h.2.2.1 h.2.2.2.1 h.aF9.1 h.aF9.2;simp_all[XW]
theorem QF{m:Mem}(h:DX m):qE m=some m:=by have a:=U9 h.1 h.2.1;have b:=RQ h.2.2.1 h.2.2.2.1 h.aF9.1 h.aF9.2;simp_all[qE]
theorem oE{c:aG}(h:c.cW.length<=1048576):zV c=some c:=by unfold zV;rw[aK (by simp;omega)];rfl
theorem JL{c:aG}(h:c.cW.length<=1048576):oO c=some c:=by unfold oO;rw[aRD (by omega)];rfl
theorem aAR{l:List bM}(hl:l.length<=1048576)(hs:∀s∈l,s.Rows.length<=1048576):oN l=some l:=by
 unfold oN;rw[TS l]
 ·rfl
 ·intro k hk;have:=hs _ (dW hk);simp only[FH];rw[aL (by simp;omega),aV hk];simp only[aD];rw[aOF (by omega),aD,aK (by simp;omega),aM (by omega) (by omega)];rfl
 grind[FH]
end Go.Gv
end
noncomputable section
namespace Go.Gv
theorem kD(w:Int):fC w=some (decide (0<=w/\w<=2)):=by grind[fC,eC]
noncomputable section
variable {c:aG} (hc:W3 c) {w:Int} (hw:0<=w/\w<=2)
include hc
theorem W3.small:c.cW.length<=1048576/\c.cW.length<=maxLen:=by have:=hc.2.1;grind[maxLen]
theorem W3.aRF{k:Nat}{p:wW}(hp:POk c.aQ p):W3 ⟨c.aQ,c.cW.set k p⟩:=⟨hc.1,by simpa using hc.2.1,fun q hq=>(oC hq).elim (hc.2.2 q) (fun e=>e ▸ hp)⟩
theorem W3.later(h:c.aQ+1<=100000):W3 ⟨c.aQ+1,c.cW⟩:=by
 have h1:=hc.1;exact⟨⟨by grind,h⟩,hc.2.1,fun q hq=>by
  obtain⟨a,b,d⟩:=hc.2.2 q hq;exact⟨⟨a.1,by grind⟩,b,d⟩⟩
include hw
theorem aFN:∃p,idx c.cW w=some p/\POk c.aQ p:=by have h3:=hc.2.1;rw[eW hw.1 (by omega)];exact⟨_,rfl,hc.2.2 _ (dW _)⟩
theorem aZ6(e:Int):∃r,J3 c w e=some r/\PZ c w e=some r/\W3 r.1/\r.1.aQ=c.aQ:=by
 obtain⟨p,hp,h1,⟨hs0,hs1⟩,h2⟩:=aFN hc hw;have h3:=hc.2.1;unfold J3 PZ;rw[oE hc.small.1,JL hc.small.1,jV,C6 hc.small.2,kD,cE,b9 hc,b9 hw];simp only[aD,eF,aT,aS,GU,FI,hp];cases h4:p.On
 ·exact⟨_,rfl,rfl,hc,rfl⟩
 ·cases h5:p.fB
  ·by_cases h6:p.aQ=e
   ·simp_all[sQ,sA]
   ·have h6':(p.aQ == e)=false:=by grind
    simp only[sQ,sA,h6',eF,aT,aS,hp,aD];by_cases h7:p.Seen=2
    ·simp only[h7,beq_self_eq_true,aP,show ¬((2:Int)<2) by omega,decide_false,aT,aS];exact⟨_,rfl,rfl,hc.aRF ⟨h1,by simp,fun q=>by grind⟩,rfl⟩
    ·have h7':(p.Seen == 2)=false:=by grind
     simp only[h7',show p.Seen<2 by omega,decide_true,aP,aT,aS];have hw7:bB (p.Seen+1)=p.Seen+1:=aM (by omega) (by omega);exact⟨_,rfl,rfl,hc.aRF ⟨h1,by grind,fun q=>by grind⟩,rfl⟩
  ·exact⟨_,rfl,rfl,hc,rfl⟩
theorem a4U(e:Int):∃r,N3 c w e=some r/\UI c w e=some r/\(W3 r.1/\r.1.aQ=c.aQ)/\(r.2=false->r.1=c):=by
 obtain⟨p,hp,hpk⟩:=aFN hc hw;have h3:=hc.2.1;unfold N3 UI;rw[oE hc.small.1,JL hc.small.1,jV,C6 hc.small.2,kD,cE,cE,eC,b9 hc,b9 hw];simp only[aD,eF,aT,aS,BX,BF,hp];by_cases h:0<=e/\e<=c.aQ
 ·simp only[b9 h,eF,aT,aS];exact⟨_,rfl,rfl,⟨hc.aRF ⟨h,by simp,fun q=>by cases q⟩,rfl⟩,fun q=>by cases q⟩
 simp_all[eE]
omit hw in
theorem a8C(e:Int):∃r,S9 c e=some r/\ZG c e=some r/\W3 r.1/\c.aQ<=r.1.aQ:=by
 have h3:=hc.2.1;unfold S9 ZG;rw[oE hc.small.1,JL hc.small.1,jV,C6 hc.small.2,b9 hc];simp only[aD,eF,aT,aS,GV,FJ];by_cases h:c.aQ=e
 ·subst h;simp only[bne_self_eq_false,aT,aS];by_cases h:c.aQ=100000
  ·simp_all
  ·have h':(c.aQ == 100000)=false:=by grind
   have hE:=hc.1;have hw7:bB (c.aQ+1)=c.aQ+1:=aM (by omega) (by omega);simp only[h',aT,aS,hw7];exact⟨_,rfl,rfl,hc.later (by omega),by grind⟩
 simp_all
end
theorem bBV{b:aA}(hc:W3 b.aG){w:Int}(hw:0<=w/\w<=2)(s:Sub) :
  ∃x y,J4 b w s=some (x,y)/\zD s b w=some (y,x)/\∃cl,x=⟨b.Mem,cl,b.bH,b.qZ⟩/\W3 cl/\b.aG.aQ<=cl.aQ:=by
 obtain⟨r,e1,e2,h3,h4⟩:=a4U hc hw s.E;unfold J4 zD;rw[e1,e2];simp only[bQ,bN,AQ,aD];by_cases p0:s.Pc=0
 ·simp only[p0,beq_self_eq_true,aP];exact⟨_,_,rfl,rfl,_,rfl,hc,by omega⟩
 ·have p0':(s.Pc == 0)=false:=by grind
  simp only[p0',aT,aS];by_cases p1:s.Pc=1
  ·simp only[p1,beq_self_eq_true,aP];cases h:r.2
   ·rw[h4 h];exact⟨_,_,rfl,rfl,_,rfl,hc,by omega⟩
   ·exact⟨_,_,rfl,rfl,_,rfl,h3.1,by omega⟩
  ·have p1':(s.Pc == 1)=false:=by grind
   simp only[p1',aT,aS];by_cases p2:s.Pc=2
   ·simp only[p2,beq_self_eq_true,aP];by_cases q:b.aG.aQ=s.E
    ·simp only[q,beq_self_eq_true,aP];exact⟨_,_,rfl,rfl,_,rfl,hc,by omega⟩
    ·have q':(b.aG.aQ == s.E)=false:=by grind
     simp only[q',aT,aS];exact⟨_,_,rfl,rfl,_,rfl,hc,by omega⟩
   ·have p2':(s.Pc == 2)=false:=by grind
    simp only[p2',aT,aS];exact⟨_,_,rfl,rfl,_,rfl,hc,by omega⟩
theorem aWE{b:aA}(hc:W3 b.aG)(s:Sub) :
  ∃x y,vJ b s=some (x,y)/\qB s b=some (y,x)/\∃cl,x=⟨b.Mem,cl,b.bH,b.qZ⟩/\W3 cl/\b.aG.aQ<=cl.aQ:=by
 obtain⟨r2,e3,e4,h4⟩:=a8C hc s.E;unfold vJ qB mU;rw[e3,e4,cE,kD];simp only[bQ,bN,uJ,uK,mT,aD];by_cases p0:s.Pc=0
 ·simp only[p0,beq_self_eq_true,aP];exact⟨_,_,rfl,rfl,_,rfl,hc,by omega⟩
 ·have p0':(s.Pc == 0)=false:=by grind
  simp only[p0',aT,aS];by_cases p1:s.Pc=1
  ·simp only[p1,beq_self_eq_true,aP,show((1:Int) == 2)=false from rfl,aT,aS];by_cases hB:0<=s.B/\s.B<=2
   ·obtain⟨r,e1,e2,h3,h3'⟩:=aZ6 hc hB s.E;simp only[b9 hB,eF,aT,aS,aP,e1,e2,aD];cases h:r.2
    ·exact⟨_,_,rfl,rfl,_,rfl,h3,by omega⟩
    ·by_cases q:bB (s.B+1)=3
     ·simp only[q,beq_self_eq_true,aP,eF,aT,aS];exact⟨_,_,rfl,rfl,_,rfl,h3,by omega⟩
     ·have q':(bB (s.B+1) == 3)=false:=by grind
      simp only[q',eF,aT,aS];exact⟨_,_,rfl,rfl,_,rfl,h3,by omega⟩
   ·simp only[eE hB,o7,aT,aS,aP];exact⟨_,_,rfl,rfl,_,rfl,hc,by omega⟩
  ·have p1':(s.Pc == 1)=false:=by grind
   simp only[p1',aT,aS];by_cases p2:s.Pc=2
   ·simp only[p2,beq_self_eq_true,aP];cases h:r2.2
    ·simp only[aT,aS];exact⟨_,_,rfl,rfl,_,rfl,h4⟩
    ·simp only[aP];exact⟨_,_,rfl,rfl,_,rfl,h4⟩
   ·have p2':(s.Pc == 2)=false:=by grind
    simp only[p2',aT,aS];exact⟨_,_,rfl,rfl,_,rfl,hc,by omega⟩
end Go.Gv
end
noncomputable section
namespace Go.Gv
theorem aWF:∀(n:Nat) (l:List Int),l.Nodup->(∀x∈l,0<=x/\x<(n:Int))->l.length<=n
 | 0, l, _, h => by
  cases l with
  | nil=>simp
  | cons a t=>(simp_all;omega)
 | n + 1, l, hn, h => by
  have ih:=aWF n (l.erase (n:Int)) (hn.erase _) (fun x hx=>by
   grind)
  grind
theorem TU{l:List bM}{k:Nat}(hk:k<l.length)(x:bM):cS (l.set k x)=cS (l.take k)++(x.Rows++cS (l.drop (k+1))):=by simp_all[List.set_eq_take_append_cons_drop,cS]
theorem QG{l:List bM}{k:Nat}(hk:k<l.length):cS l=cS (l.take k)++(l[k].Rows++cS (l.drop (k+1))):=by grind[aJB,TU]
theorem M3{l:List aY}{k:Nat}(hk:k<l.length)(x:aY):fJ (l.set k x)=fJ (l.take k)++(x.aW++fJ (l.drop (k+1))):=by simp_all[List.set_eq_take_append_cons_drop,fJ]
theorem KD{l:List aY}{k:Nat}(hk:k<l.length):fJ l=fJ (l.take k)++(l[k].aW++fJ (l.drop (k+1))):=by grind[aJB,M3]
def cD(l:List bM)(s:Int):Prop:=∃r∈cS l,kW r.Handle/\r.Handle % 32=s
instance (l:List bM) (s:Int):Decidable (cD l s):=by unfold cD;infer_instance
noncomputable section
variable {l:List bM} (hl:tJ l)
include hl
theorem tJ.small:(cS l).length<=1073741824/\l.length<=maxLen/\l.length<=1048576/\∀s∈l,s.Rows.length<=24:=by have:=hl.1;have h2:=hl.2.1;refine⟨by omega,by grind[maxLen],by omega,fun s hs=>?_⟩;have:=aO7 hs;omega
theorem K5(s:Int):GM l s=some (decide (cD l s)):=by
 have hm:=hl.small;unfold GM;rw[OJ hm.1 hm.2.1,aD];have key:=kV (f:=pT s (cS l)) (cS l) (fun k=>(k:Int)) (fun r=>¬(kW r.Handle/\r.Handle % 32=s)) (Out.brk ()) (Out.ret true)
  (fun k hk hp=>by
   have hk':=hl.2.1;simp only[pT,vI];rw[aL (by simp;omega),aV hk,lC (show k<maxLen by grind[maxLen])];grind[fP,dV])
  (fun k hk hp=>by
   simp_all[pT,vI,aV,fP,dV])
  (by simp[pT])
 have key':loop (pT s (cS l)) 0=_:=key;rw[key'];by_cases q:cD l s
 ·rw[aO (fun a=>by obtain⟨r,hr,e⟩:=q;grind),b9 q];rfl
 ·rw[aL (fun r hr e=>q ⟨r,hr,e⟩),eE q];rfl
theorem WQ(s:Int):FE l s=some (decide (cD l s)):=by
 have hm:=hl.small;unfold FE;have e1:∀(r:eJ),rY r s=some (decide (kW r.Handle/\r.Handle % 32=s)):=by
  intro r;unfold rY rE;rw[fQ];by_cases q:kW r.Handle
  ·rw[q.mod.1];grind
  ·simp[q]
 have e2:∀x∈l,FD x s=some (x.Rows.any fun r=>decide (kW r.Handle/\r.Handle % 32=s)):=by
  intro x hx;unfold FD;have:x.Rows.length<=maxLen:=by grind[maxLen]
  rw[show(fun y0=>rY y0 s)=fun r=>some (decide (kW r.Handle/\r.Handle % 32=s)) from funext e1,aOC this];rfl
 rw[aLU hm.2.1 (fun x=>x.Rows.any fun r=>decide (kW r.Handle/\r.Handle % 32=s)) _ e2];simp only[aD];congr 1;rw[QJ,decide_eq_true_iff];simp only[List.any_eq_true,decide_eq_true_eq,cD,cS,aOM];grind
theorem tJ.more{k:Nat}(hk:k<l.length){r:eJ}(hr:EE r)(hn:¬cD l (r.Handle % 32)):tJ (l.set k ⟨l[k].Rows ++ [r]⟩):=by
 have e:=TU hk (⟨l[k].Rows ++ [r]⟩:bM);have p:(cS (l.set k ⟨l[k].Rows ++ [r]⟩)).Perm (r :: cS l):=by grind[QG]
 have h1:∀x∈cS (l.set k ⟨l[k].Rows ++ [r]⟩),EE x:=fun x hx=>by
  rcases mA.1 (p.mem_iff.1 hx) with rfl | h
  ·exact hr
  ·exact hl.2.2.1 x h
 have h2:((cS (l.set k ⟨l[k].Rows ++ [r]⟩)).map pA).Nodup:=by refine(List.Perm.nodup_iff (p.map pA)).2 ?_;rw[Z0,List.nodup_cons];refine⟨fun h=>hn ?_,hl.2.2.2⟩;obtain⟨x,hx,e⟩:=List.mem_map.1 h;exact⟨x,hx,(hl.2.2.1 x hx).1,e⟩
 refine⟨by simpa using hl.1,?_,h1,h2⟩;have:=aWF 24 _ h2 (fun x hx=>by
  obtain⟨y,hy,rfl⟩:=List.mem_map.1 hx;have:=(h1 y hy).1.mod;grind[pA])
 grind
end
theorem aZ7{b:aA}(hb:nB b)(hs:aLW b){w:Int}(hw:0<=w/\w<=2)(s:Sub) :
  ∃x y,yK b w s=some (x,y)/\rF s b w=some (y,x)/\∃L,x=⟨b.Mem,b.aG,L,b.qZ⟩/\tJ L/\∀r∈cS L,U7 b r:=by
 have hL:=hb.1.2.2.1;have hm:=hb.1.1;have hlen:w.toNat<b.bH.length:=by have:=hL.1;omega
 have hx:idx b.bH w=some b.bH[w.toNat]:=eW hw.1 (by omega);have hg:b.Mem.aB.Global.length<=maxLen:=by rw[hm.1.2.1];simp[maxLen]
 have ho:b.Mem.aB.Own.length<=maxLen:=by rw[hm.1.2.2.1];simp[maxLen]
 have hall:(eU b.Mem.aB).length<=1073741824:=by have:=hs.1.2.2.2.2;omega
 have hrow:=hL.small.2.2.2 _ (dW hlen);have he:=hb.1.2.1.1;unfold yK rF nW;rw[cE,eC,vO hm.1.1.1 hall hg ho,HE hm.1.1.1 hall hg ho,dV];simp only[bQ,bN,aD,wS,GS,nV];by_cases p0:s.Pc=0
 ·simp only[p0,beq_self_eq_true,aP];exact⟨_,_,rfl,rfl,_,rfl,hL,hb.2⟩
 ·have p0' : (s.Pc == 0) = false := by grind
  simp only[p0',aT,aS];by_cases p1:s.Pc=1
  ·simp only[p1,beq_self_eq_true,bne_self_eq_false,aT,aS,aP];by_cases q1:0<=s.E/\s.E<=b.aG.aQ
   ·simp only[b9 q1,eF,aT,aS];by_cases q2:mN b.Mem s.A
    ·have hh:=q2.1;simp only[b9 q2,eF,aT,aS,aL hh,hh.mod.1,K5 hL,WQ hL,aD];by_cases q3:cD b.bH (s.A % 32)
     ·simp only[b9 q3,aP];exact⟨_,_,rfl,rfl,_,rfl,hL,hb.2⟩
     ·have hmore:=hL.more hlen (r:=⟨s.A,s.E⟩) ⟨hh,q1.1,by grind⟩ q3;have e:I4 b.bH w s.A s.E=some (b.bH.set w.toNat ⟨b.bH[w.toNat].Rows ++ [⟨s.A,s.E⟩]⟩,true):=by unfold I4 y9;rw[K4 hL.small.1,kD,aAR hL.small.2.2.1 (fun s h=>by have:=hL.small.2.2.2 s h;omega)];simp only[b9 hL,b9 hw,aD,eF,aT,aS,hx];rw[aK (by simp;omega),K4 hmore.small.1,b9 hmore];rfl
      simp only[eE q3,aT,aS,hx,e,aD];rw[aK (by simp;omega)];refine⟨_,_,rfl,rfl,_,rfl,hmore,fun r hr=>?_⟩;rw[TU hlen] at hr;have hsp:=QG hlen;rcases jB.1 hr with h | h
      ·exact hb.2 r (by grind)
      ·rcases jB.1 h with h | h
       ·rcases jB.1 h with h | h
        ·exact hb.2 r (by grind)
        ·simp at h;subst h;exact⟨q2,q1.2⟩
       ·exact hb.2 r (by grind)
    ·simp only[eE q2,o7,aP];exact⟨_,_,rfl,rfl,_,rfl,hL,hb.2⟩
   ·simp only[eE q1,o7,aP];exact⟨_,_,rfl,rfl,_,rfl,hL,hb.2⟩
  ·have p1':(s.Pc == 1)=false:=by grind
   have p1'':(s.Pc != 1)=true:=by grind
   simp only[p1',p1'',aT,aS,aP];exact⟨_,_,rfl,rfl,_,rfl,hL,hb.2⟩
end Go.Gv
end
noncomputable section
namespace Go.Gv
def st4(b:List Int)(a:Nat)(n:Int):List Int:=(((b.set a 0).set (a+1) 0).set (a+2) 0).set (a+3) n
theorem JM(b:List Int)(a:Nat)(n:Int):(st4 b a n).length=b.length:=by simp[st4]
theorem aT0{b:List Int}(h:sZ b)(a:Nat){n:Int}(hn:0<=n/\n<=255):sZ (st4 b a n):=by
 have key:∀{l:List Int} (i:Nat) (v:Int),sZ l->0<=v/\v<=255->sZ (l.set i v):=fun i v hl hv x hx=>by
  rcases oC hx with h | rfl
  ·exact hl x h
  ·exact hv
 exact key _ _ (key _ _ (key _ _ (key _ _ h (by omega)) (by omega)) (by omega)) hn
theorem a4V{n:Int}(hn:0<=n/\n<=255):((u8 n).toNat:Int)=n:=by grind[u8,UInt8.toNat_ofNat']
theorem aT1{l:List Int}(i:Nat){v:Int}(hl:sZ l)(hv:0<=v/\v<=255):sZ (l.set i v):=fun x hx=>by
 rcases oC hx with h | rfl
 ·exact hl x h
 ·exact hv
def O2(b:List Int)(a:Nat)(n:Int):List Int:=(((b.set a (n / 16777216)).set (a+1) (n / 65536 % 256)).set (a+2) (n / 256 % 256)).set (a+3) (n % 256)
theorem aDV(b:List Int)(a:Nat)(n:Int):(O2 b a n).length=b.length:=by simp[O2]
theorem aZ8{b:List Int}(h:sZ b)(a:Nat){n:Int}(hn:0<=n/\n<=4294967295):sZ (O2 b a n):=by grind[O2,aT1]
theorem aZ9(b:List Int)(a:Nat)(x y z u:Int):(((b.set (a+3) u).set (a+2) z).set (a+1) y).set a x=(((b.set a x).set (a+1) y).set (a+2) z).set (a+3) u:=by refine List.ext_getElem (by simp) fun j h1 h2=>?_;grind
theorem aFO{b:List Int}{a:Nat}(h:a+4<=b.length)(hl:b.length<=100000){n:Int}(hn:0<=n/\n<=4294967295):zT b (a:Int) 4 n=some (O2 b a n):=by
 have st:∀(c:List Int) (m:Int) (i:Nat),c.length=b.length->0<=m->m<=4294967295->i<4->C2 (a:Int) (c,m,(i:Int))=some (.next (c.set (a+i) (m % 256),m / 256,(i:Int) - 1)):=fun c m i hc h0 h1 hi=>by simp only[C2];rw[aL (by simp),aM (x:=(a:Int)+i) (by omega) (by omega),show(a:Int)+i=((a+i:Nat):Int) by omega,aV (by omega),aD,OF h0,aLL h0,aM (x:=m / 256) (by omega) (by omega),aM (x:=(i:Int) - 1) (by omega) (by omega),OR]
 unfold zT;rw[show bB (4 - 1)=((3:Nat):Int) from by grind[aM]];rw[bW (st b n 3 rfl hn.1 hn.2 (by omega)),show((3:Nat):Int) - 1=((2:Nat):Int) by rfl,
  bW (st _ _ 2 (by simp) (by omega) (by omega) (by omega)),show((2:Nat):Int) - 1=((1:Nat):Int) by rfl,
  bW (st _ _ 1 (by simp) (by omega) (by omega) (by omega)),show((1:Nat):Int) - 1=((0:Nat):Int) by rfl,
  bW (st _ _ 0 (by simp) (by omega) (by omega) (by omega)),bV (r:=O2 b a n)]
 ·rfl
 ·simp only[C2];rw[aO (by simp)];have e1:n / 256 / 256=n / 65536:=by omega
  have e2:n / 256 / 256 / 256=n / 16777216:=by omega
  have e3:n / 16777216 % 256=n / 16777216:=by omega
  simp_all[O2,aZ9]
def HF(n:Int):List UInt8:=[u8 (n / 16777216),u8 (n / 65536),u8 (n / 256),u8 n]
theorem OL{n:Int}(hn:0<=n/\n<=4294967295):lS n 4=some (HF n):=by
 have hw:jQ 4=some true:=by grind[jQ,eC]
 unfold lS;rw[hw];have e1:IntKind.u64.wrap (bB (8*4))=32:=by decide
 have e2:aJF .i64 1 32=4294967296:=by decide
 simp only[aD,eF,aT,aS,e1,e2];rw[aO (by simp;omega),aK (by omega),eE (by omega)];simp only[vT,aT,aS];rw[aK (by omega),show bB (4 - 1)=((3:Nat):Int) from by grind[aM]];have st:∀(m:Int) (c:List UInt8) (i:Nat),i<c.length->i<4->0<=m->qQ (m,c,(i:Int))=some (.next (m / 256,c.set i (u8 m),(i:Int) - 1)):=fun m c i hc hi h0=>by simp only[qQ];rw[aL (by simp),aV hc,aD,show(8:Int)=((8:Nat):Int) from rfl,aYU h0 (by omega),aM (by omega) (by omega),OR];rfl
 rw[bW (st n _ 3 (by simp) (by omega) hn.1),show((3:Nat):Int) - 1=((2:Nat):Int) by rfl,
  bW (st _ _ 2 (by simp) (by omega) (by omega)),show((2:Nat):Int) - 1=((1:Nat):Int) by rfl,
  bW (st _ _ 1 (by simp) (by omega) (by omega)),show((1:Nat):Int) - 1=((0:Nat):Int) by rfl,
  bW (st _ _ 0 (by simp) (by omega) (by omega)),bV (r:=HF n)]
 ·rfl
 ·simp only[qQ];rw[aO (by simp)];have e1:n / 256 / 256=n / 65536:=by omega
  rw[e1,show n / 65536 / 256=n / 16777216 by omega];rfl
theorem aRG{n:Int}(hn:0<=n):((u8 n).toNat:Int)=n % 256:=by
 have:u8 n=u8 (n % 256):=by grind[u8]
 grind[a4V]
theorem aL0{b:List Int}{a:Nat}(h:a+4<=b.length)(hl:b.length<=100000){n:Int}(hn:0<=n/\n<=4294967295):mG b (a:Int) (HF n)=some (O2 b a n):=by
 have st:∀(c:List Int) (i:Nat) (v:UInt8),c.length=b.length->i<4->idx (HF n) (i:Int)=some v->mF b (a:Int) (HF n) (c,(i:Int))=some (.next (c.set (a+i) (v.toNat:Int),((i+1:Nat):Int))):=fun c i v hc hi hv=>by simp only[mF];rw[aK hc,aL (by grind[HF]),hv,aD,aM (x:=(a:Int)+i) (by omega) (by omega),show(a:Int)+i=((a+i:Nat):Int) by omega,aV (by omega),aD,aM (by omega) (by omega),OR];rfl
 unfold mG;rw[show(0:Int)=((0:Nat):Int) from rfl,bW (st b 0 _ rfl (by omega) rfl),bW (st _ 1 _ (by simp) (by omega) rfl),bW (st _ 2 _ (by simp) (by omega) rfl),bW (st _ 3 _ (by simp) (by omega) rfl),bV (r:=O2 b a n)]
 ·grind[NM,NL,aK,aDV]
 ·simp only[mF];rw[aK (by simp),aO (by simp[HF])];simp only[aRG hn.1,aRG (show 0<=n / 16777216 by omega),aRG (show 0<=n / 65536 by omega),aRG (show 0<=n / 256 by omega)];rw[show n / 16777216 % 256=n / 16777216 by omega];rfl
theorem a4W{b:List Int}{a:Nat}{n:Int}(hn:0<=n/\n<=255):O2 b a n=st4 b a n:=by grind[O2,st4]
theorem K6{b:List Int}{a:Nat}(h:a+4<=b.length)(hl:b.length<=100000){n:Int}(hn:0<=n/\n<=255):zT b (a:Int) 4 n=some (st4 b a n):=by grind[aFO,a4W]
theorem bDX{n:Int}(hn:0<=n/\n<=255):HF n=[0,0,0,u8 n]:=by unfold HF;rw[show n / 16777216=0 by omega,show n / 65536=0 by omega,show n / 256=0 by omega];rfl
theorem aAS{n:Int}(hn:0<=n/\n<=255):lS n 4=some [0,0,0,u8 n]:=by grind[OL,bDX]
theorem YQ{b:List Int}{a:Nat}(h:a+4<=b.length)(hl:b.length<=100000){n:Int}(hn:0<=n/\n<=255):mG b (a:Int) [0,0,0,u8 n]=some (st4 b a n):=by rw[<-bDX hn,aL0 h hl ⟨hn.1,by omega⟩,a4W hn]
end Go.Gv
end
noncomputable section
namespace Go.Gv
theorem a9W{x y z:Int}:∀(a:Nat) (l:List Int),a+3<=l.length->dC l a [x,y,z]=((l.set a x).set (a+1) y).set (a+2) z
 | 0, l, h => by
  match l,h with
  | _ :: _ :: _ :: t,_=>simp[dC]
 | a + 1, l, h => by
  match l,h with
  | u :: t, h =>
   have ih:=a9W (x:=x) (y:=y) (z:=z) a t (by grind);grind[dC]
def a4X(p k:Nat)(c:Int):Nat:=(gA ((p:Int)*4+k) c).toNat
def gB(b:List Int)(p:Nat)(c:Int):Nat->List Int
 | 0=>((b.set (p*64) 171).set (p*64+1) c).set (p*64+2) (dS c)
 | k+1=>st4 (gB b p c k) (a4X p k c) 1
theorem RR(b:List Int)(p:Nat)(c:Int):∀k,(gB b p c k).length=b.length
 | 0=>by simp[gB]
 | k+1=>by rw[gB,JM,RR b p c k]
theorem aL1{l:List Int}(i:Nat){v:Int}(hl:sZ l)(hv:0<=v/\v<=255):sZ (l.set i v):=fun x hx=>by
 rcases oC hx with h | rfl
 ·exact hl x h
 ·exact hv
theorem aRH{b:List Int}(hb:sZ b)(p:Nat){c:Int}(hc:0<=c/\c<=2):∀k,sZ (gB b p c k)
 | 0 => by have:=nZ c;exact aL1 _ (aL1 _ (aL1 _ hb (by omega)) (by omega)) (by omega)
 | k+1=>aT0 (aRH hb p hc k) _ (by omega)
def gS(p:Nat)(n:Nat):List Int:=(List.range n).map fun(i:Nat)=>(p:Int)*4+(i:Int)
theorem aL2(p n:Nat):(gS p n).length=n:=by simp[gS]
theorem aY0(p n:Nat):gS p (n+1)=gS p n ++ [(p:Int)*4+(n:Int)]:=by simp[gS,List.range_succ]
theorem aRI{p k:Nat}{c:Int}(hp:p<6)(hk:(k:Int)<dS c):gA ((p:Int)*4+k) c=(a4X p k c:Int)/\a4X p k c+4<=384:=by
 have h4:=nZ c;have hm:=U5 (c:=c) (i:=(k:Int)) (by omega) hk;have hst:4<=bE c:=by have:0<=c/\c<=2:=nN.1 (by omega);rcases oL this with e | e | e<;>rw[e]<;>decide
 have e:gA ((p:Int)*4+k) c=(p:Int)*64+8+(k:Int)*bE c:=by unfold gA;grind
 grind[a4X]
theorem aO9{p k:Nat}(hp:p<6)(hk:k<4):tI (p:Int) (k:Int)=some ((p:Int)*4+k)/\PY (p:Int) (k:Int)=some ((p:Int)*4+k):=by grind[aM,tI,yC,cE,PY,FC,eC]
noncomputable section
variable {b:List Int} (hb:b.length=384) {p:Nat} (hp:p<6) {c:Int} (hc:0<=c/\c<=2)
include hb hp hc
theorem aL3:loop (C3 c (p:Int)) ([],0,gB b p c 0)=some (gS p (dS c).toNat,gB b p c (dS c).toNat):=by
 have h4:=nZ c;refine kT (dS c).toNat (fun k=>(gS p k,(k:Int),gB b p c k)) _ (fun k hk=>?_) ?_
 ·have ho:=aRI (c:=c) hp (k:=k) (by omega);simp only[C3,WC,jT,aD];rw[aL (by simp;omega),(aO9 hp (by omega)).1];simp only[aD,v8,ho.1];rw[K6 (by grind[RR]) (by grind[RR]) (by omega)];simp only[aD];rw[aK (by grind[aL2]),aM (by omega) (by omega),aY0];rfl
 ·simp only[C3,jT,aD];grind
theorem aWG:loop (I2 c (p:Int) (dS c)) ([],0,gB b p c 0)=some (gS p (dS c).toNat,gB b p c (dS c).toNat):=by
 have h4:=nZ c;refine kT (dS c).toNat (fun k=>(gS p k,(k:Int),gB b p c k)) _ (fun k hk=>?_) ?_
 ·have ho:=aRI (c:=c) hp (k:=k) (by omega);simp only[I2,QY];rw[aL (by simp;omega),(aO9 hp (by omega)).2];simp only[aD,B6,ho.1];rw[aAS (by omega),aD,YQ (by grind[RR]) (by grind[RR]) (by omega)];simp only[aD];rw[aK (by grind[aL2]),aM (by omega) (by omega),aY0];rfl
 ·simp only[I2];grind
end
theorem a4Y{h:Heap}(hh:YN h){c:Int}(hc:0<=c/\c<=2) :
  (uI h c=some (h,[])/\H5 h c=some (h,[])) \/
  ∃p,p<6/\cG h p<0/\uI h c=some (⟨gB h.Bytes p c (dS c).toNat,h.Class.set p c⟩,gS p (dS c).toNat)/\H5 h c=some (⟨gB h.Bytes p c (dS c).toNat,h.Class.set p c⟩,gS p (dS c).toNat):=by
 have hs:=hh.1;have h6:=hs.2.1;have h384:=hs.1;have hp4:=nZ c;have hcp:=U9 (h:=h) (by omega) (by omega);have hne:∀j (hj:j<6),j<h.Class.findIdx (fun x=>decide (x = -1))->h.Class[j]≠-1:=fun j hj hlt=>by grind
 generalize hq:h.Class.findIdx (fun x=>decide (x = -1))=q at hne;have hq6:q<=6:=by grind
 have s1:∀k (hk:k<q),fL h c (k:Int)=some (.next ((k+1:Nat):Int)):=fun k hk=>by
  have:=hne k (by omega) hk;have n:(h.Class[k] != -1)=true:=by grind
  simp only[fL,KZ];rw[aL (by simp;omega),aV (by omega),aD,n,aL rfl,aM (by omega) (by omega)];rfl
 have s2:∀k (hk:k<q),fE h.Class (-1) (k:Int)=some (.next ((k+1:Nat):Int)):=fun k hk=>by
  have:=hne k (by omega) hk;have n:((-1:Int) == h.Class[k])=false:=by grind
  simp only[fE];rw[aL (by simp;omega),aV (by omega),aD,n,aM (by omega) (by omega)];rfl
 have hm:h.Bytes.length<=maxLen:=by grind[maxLen]
 by_cases h5:q=6
 ·left;have a1:loop (fL h c) 0=some (Out.brk ()):=kT q (fun k=>(k:Int)) _ s1 (by simp_all[fL]);have a2:loop (fE h.Class (-1)) 0=some (Out.brk ()):=kT q (fun k=>(k:Int)) _ s2 (by simp_all[fE]);constructor
  ·unfold uI;rw[a1];rfl
  ·unfold H5 oF;rw[a2,hcp,OH hm,lA,b9 hh,b9 hc];rfl
 ·right;have hq5:q<6:=by omega
  have he:h.Class[q] = -1:=by grind
  refine⟨q,hq5,by grind[ZI],?_,?_⟩
  ·have a1:loop (fL h c) 0=some (Out.ret (⟨gB h.Bytes q c (dS c).toNat,h.Class.set q c⟩,gS q (dS c).toNat)):=kT q (fun k=>(k:Int)) _ s1 (by
    have e0:bB ((q:Int)*64)=((q*64:Nat):Int):=by grind[aM]
    have e1:bB (((q*64:Nat):Int)+1)=((q*64+1:Nat):Int):=by grind[aM]
    have e2:bB (((q*64:Nat):Int)+2)=((q*64+2:Nat):Int):=by grind[aM]
    have n:(h.Class[q] != -1)=false:=by grind
    simp only[fL,e0,e1,e2,OR];rw[aL (by simp;omega),aV (by omega),aD,n,aO (by simp),aV (by omega),aD,aV (by simp;omega),aD,jT,aD,aV (by simp;omega),aD];have:=aL3 h384 hq5 hc;simp only[gB] at this;rw[this];rfl)
   unfold uI;rw[a1];rfl
  ·have a2:loop (fE h.Class (-1)) 0=some (Out.ret (q:Int)):=kT q (fun k=>(k:Int)) _ s2 (by
    have n:((-1:Int) == h.Class[q])=true:=by rw[he];rfl
    simp only[fE];rw[aL (by simp;omega),aV (by omega),aD,n];rfl)
   unfold H5 oF;rw[a2,hcp,OH hm,lA,b9 hh,b9 hc];have e0:bB ((q:Int)*64)=((q*64:Nat):Int):=by grind[aM]
   simp only[aD,AP,eF,aT,aS,BC,e0,C5,QZ,OR];rw[eE (by omega),aO (by simp),aV (by omega),aD,aK (by omega),a9W _ _ (by omega)];have:=aWG h384 hq5 hc;simp only[gB] at this;rw[this];rfl
theorem LOk.count{l:aB}(h:LOk l):(eU l).length<=24:=aWF 24 _ h.2.2.2.2 (fun x hx=>by have:=h.2.2.2.1 x hx;omega)
theorem a0A{m:Mem}(hs:fI m.Heap){s:Int}(hc:0<=bD m.Heap s):∃h,BV m s=some h/\I3 m s=some h:=by
 unfold BV I3 Q7 Q0 zU y8;rw[qW hs hc,JJ hs hc,aD,aD,cE,cE,yT,eC];have h1:=(AA hc).1;simp only[b9 h1,aD,eF,aT,aS];by_cases q:1<=mM m.Heap s/\mM m.Heap s<=6
 ·simp only[b9 q,eF,aT,aS];exact⟨_,rfl,rfl⟩
 ·simp only[eE q,o7,aP];exact⟨_,rfl,rfl⟩
theorem aBS{l:List aY}{k:Nat}(hk:k<l.length)(t:List Int):(fJ (l.set k ⟨l[k].aW++t⟩)).length=(fJ l).length+t.length:=by grind[M3,KD]
end Go.Gv
end
noncomputable section
namespace Go.Gv
def bt(b:List Int)(i:Nat):Int:=b.getD i 0
theorem aWH{b:List Int}{i:Nat}(h:i<b.length):b[i]=bt b i:=by grind[bt]
theorem ld4{b:List Int}{a:Nat}(h:a+4<=b.length):ld b a 4=((bt b a*256+bt b (a+1))*256+bt b (a+2))*256+bt b (a+3):=by grind[ld,M5,ldF,aWH]
theorem RS{b:List Int}{i j:Nat}{v:Int}(hi:i<b.length):bt (b.set i v) j=if j=i then v else bt b j:=by grind[bt]
theorem K7{b:List Int}{a:Nat}{n:Int}(h:a+4<=b.length)(j:Nat):bt (st4 b a n) j=if j=a+3 then n else if a<=j/\j<a+3 then 0 else bt b j:=by unfold st4;rw[RS (by simp;omega),RS (by simp;omega),RS (by simp;omega),RS (by omega)];omega
theorem aWI{b:List Int}{a:Nat}{n:Int}(h:a+4<=b.length):ld (st4 b a n) a 4=n:=by simp_all[ld4,JM,K7]
theorem VA{b b':List Int}{a:Nat}(h:a+4<=b.length)(hl:b'.length=b.length)(hs:∀j,a<=j->j<a+4->bt b' j=bt b j):ld b' a 4=ld b a 4:=by simp_all[ld4]
def aDW(h:Heap)(p:Nat):Prop:=
 if cG h p<0 then ∀k,k<64->bt h.Bytes (p*64+k)=0
 else((bt h.Bytes (p*64)=171/\bt h.Bytes (p*64+1)=cG h p/\bt h.Bytes (p*64+2)=dS (cG h p))/\(∀k,3<=k->k<8->bt h.Bytes (p*64+k)=0)/\∀i,i<(dS (cG h p)).toNat->1<=ld h.Bytes (p*64+8+i*(bE (cG h p)).toNat) 4/\ld h.Bytes (p*64+8+i*(bE (cG h p)).toNat) 4<=7)
theorem aPA{h:Heap}(hs:fI h){p:Nat}(hp:p<6){k:Nat}(hk:k<64):(gW h p).getD k 0=bt h.Bytes (p*64+k):=by rw[<-aO5 hs hp hk,aWH (by have:=hs.1;omega)]
theorem aDX{l:List Int}{x:Int}:x∈l↔∃k,k<l.length/\l.getD k 0=x:=by
 rw[Z1];constructor
 ·rintro⟨k,hk,e⟩;exact⟨k,hk,by grind⟩
 grind
theorem KE{h:Heap}(hs:fI h){p:Nat}(hp:p<6):pG h p↔aDW h p:=by
 unfold pG aDW;have hl:=TL hs hp;split
 ·constructor
  ·intro q k hk;rw[<-aPA hs hp hk];exact q _ (aDX.2 ⟨k,by omega,rfl⟩)
  grind[aDX,aPA]
 ·rw[aPA hs hp (by omega),aPA hs hp (by omega),aPA hs hp (by omega)];have e:(∀x∈((gW h p).drop 3).take 5,x=0)↔∀k,3<=k->k<8->bt h.Bytes (p*64+k)=0:=by
   have g:∀j,j<5->(((gW h p).drop 3).take 5).getD j 0=bt h.Bytes (p*64+(3+j)):=fun j hj=>by rw[<-aPA hs hp (by omega),M6,M6,aFZ,aL hj,List.getElem?_drop]
   constructor
   ·intro q k h3 h8;have:=q _ (aDX.2 ⟨k - 3,by grind,rfl⟩);grind
   ·intro q x hx;obtain⟨k,hk,rfl⟩:=aDX.1 hx;simp[hl] at hk;rw[g _ hk];exact q _ (by omega) (by omega)
  rw[e];rfl
theorem aDW.same{h h':Heap}{p:Nat}(hp:p<6)(hs:fI h)(hl:h'.Bytes.length=h.Bytes.length)(hc:cG h' p=cG h p)(hb:∀k,k<64->bt h'.Bytes (p*64+k)=bt h.Bytes (p*64+k))(q:aDW h p):aDW h' p:=by
 have h1:=hs.1;unfold aDW at q ⊢;rw[hc];split
 ·grind
 ·rename_i q0;rw[aO q0] at q;obtain⟨⟨a1,a2,a3⟩,a4,a5⟩:=q;have b0:=hb 0 (by omega);have b1:=hb 1 (by omega);have b2:=hb 2 (by omega);simp only[Z2] at b0;refine⟨⟨by omega,by omega,by omega⟩,fun k k3 k8=>by grind,fun i hi=>?_⟩;have hz:=wA hs hp (c:=cG h p) rfl hi;rw[VA (b:=h.Bytes) (by omega) hl fun j j1 j2=>by
   have:=hb (j - p*64) (by omega);grind]
  grind
theorem yU{h:Heap}{s:Int}(hc:0<=bD h s):∃p i,p<6/\i<(dS (cG h p)).toNat/\s=(p:Int)*4+i/\bD h s=cG h p/\(gA s (bD h s)).toNat=p*64+8+i*(bE (cG h p)).toNat/\(s / 4).toNat=p:=by obtain⟨h1,h2,h3⟩:=AA hc;have hle:=nZ (cG h (s / 4).toNat);refine⟨(s / 4).toNat,(s % 4).toNat,by omega,by omega,by omega,h3,?_,rfl⟩;rw[h3];unfold gA;rw[aL ⟨h1,by omega⟩];grind[bE]
theorem VB{c:Int}{i j:Nat}(hi:i<(dS c).toNat)(hj:j<(dS c).toNat)(hn:i≠j):i*(bE c).toNat+4<=j*(bE c).toNat\/j*(bE c).toNat+4<=i*(bE c).toNat:=by
 have hc:0<=c/\c<=2:=nN.1 (by omega);have h12:12<=(bE c).toNat:=by rcases oL hc with rfl | rfl | rfl<;>decide
 rcases Nat.lt_or_gt_of_ne hn with q | q
 ·left;have:(i+1)*(bE c).toNat<=j*(bE c).toNat:=uQ _ q;rw[o9] at this;omega
 ·right;have:(j+1)*(bE c).toNat<=i*(bE c).toNat:=uQ _ q;rw[o9] at this;omega
theorem YN.a4Z{h:Heap}(hh:YN h){s g:Int}(hc:0<=bD h s)(hg:1<=g/\g<=7) :
  YN ⟨st4 h.Bytes (gA s (bD h s)).toNat g,h.Class⟩/\∀t,0<=bD h t->mM ⟨st4 h.Bytes (gA s (bD h s)).toNat g,h.Class⟩ t=if t=s then g else mM h t:=by
 obtain⟨hs,hp⟩:=hh;have h384:=hs.1;have hs':fI ⟨st4 h.Bytes (gA s (bD h s)).toNat g,h.Class⟩:=⟨by grind[JM],hs.2.1,aT0 hs.2.2.1 _ (by omega),hs.2.2.2⟩;obtain⟨p,i,p6,hi,es,ec,eo,ep⟩:=yU hc;have hz:=wA hs p6 rfl hi;have h4:=nZ (cG h p);refine⟨⟨hs',fun q hq=>?_⟩,fun t ht=>?_⟩
 ·rw[KE hs' hq];have hold:=(KE hs hq).1 (hp q hq);by_cases e:q=p
  ·subst e;have hpos:0<dS (cG h q):=by omega
   have hcl:¬cG h q<0:=by omega
   unfold aDW at hold ⊢;have hcl':cG ⟨st4 h.Bytes (gA s (bD h s)).toNat g,h.Class⟩ q=cG h q:=rfl;rw[hcl'];rw[aO hcl] at hold ⊢;obtain⟨⟨a1,a2,a3⟩,a4,a5⟩:=hold;have bs:∀k,k<8->bt (st4 h.Bytes (gA s (bD h s)).toNat g) (q*64+k)=bt h.Bytes (q*64+k):=fun k hk=>by rw[K7 (by omega),aO (by omega),aO (by omega)]
   have b0:=bs 0 (by omega);have b1:=bs 1 (by omega);have b2:=bs 2 (by omega);simp only[Z2] at b0;refine⟨⟨by grind,by grind,by grind⟩,fun k k3 k8=>by grind,fun j hj=>?_⟩;have hzj:=wA hs p6 rfl hj;by_cases ej:j=i
   ·grind[aWI]
   ·rw[VA (b:=h.Bytes) (by omega) (by grind[JM]) fun k k1 k2=>?_]
    ·grind
    ·simp only[eo];have:=VB hi hj (fun q=>ej q.symm);rw[K7 (by omega),aO (by omega),aO (by omega)]
  ·refine aDW.same hq hs (by grind[JM]) rfl (fun k hk=>?_) hold;rw[K7 (by omega),aO (by omega),aO (by omega)]
 ·have e2:bD ⟨st4 h.Bytes (gA s (bD h s)).toNat g,h.Class⟩ t=bD h t:=rfl;unfold mM;rw[e2];by_cases e:t=s
  ·subst e;rw[aL rfl];grind[aWI]
  ·rw[aO e];obtain⟨p',i',p6',hi',es',ec',eo',ep'⟩:=yU ht;have hz':=wA hs p6' rfl hi';rw[VA (b:=h.Bytes) (by omega) (by grind[JM]) fun k k1 k2=>?_];simp only;by_cases ee:p'=p
   ·subst ee;have:=VB hi hi' (fun q=>e (by omega));rw[K7 (by omega),aO (by omega),aO (by omega)]
   ·have h4':=nZ (cG h p');rw[K7 (by omega),aO (by omega),aO (by omega)]
theorem aI3{p k:Nat}{c:Int}(hp:p<6)(hk:(k:Int)<dS c):a4X p k c=p*64+8+k*(bE c).toNat/\8+k*(bE c).toNat+4<=64:=by have hc:0<=c/\c<=2:=nN.1 (by omega);have h1:=aRI (c:=c) hp hk;have hle:=nZ c;have e:=h1.1;unfold gA at e;rw[aL (by omega)] at e;grind[bE,dS]
theorem a9X{b:List Int}{p:Nat}{c:Int}(hl:b.length=384)(hp:p<6)(hc:0<=c/\c<=2):∀k:Nat,(k:Int)<=dS c->∀j,(j<p*64\/p*64+64<=j->bt (gB b p c k) j=bt b j)/\(3<=j->j<8->bt (gB b p c k) (p*64+j)=bt b (p*64+j))/\bt (gB b p c k) (p*64)=171/\bt (gB b p c k) (p*64+1)=c/\bt (gB b p c k) (p*64+2)=dS c
 | 0, hk, j => by
  have key:∀i,bt (gB b p c 0) i=if i=p*64+2 then dS c else if i=p*64+1 then c else if i=p*64 then 171 else bt b i:=fun i=>by grind[gB,RS]
  grind
 | k + 1, hk, j => by
  have ih:=a9X hl hp hc k (by omega);have hoff:=aI3 (c:=c) hp (by omega:(k:Int)<dS c);have hbl:=RR b p c k;unfold gB;refine⟨fun h=>?_,fun h1 h2=>?_,?_,?_,?_⟩
  ·rw[K7 (by omega),aO (by omega),aO (by omega)];grind
  ·rw[K7 (by omega),aO (by omega),aO (by omega)];grind
  ·rw[K7 (by omega),aO (by omega),aO (by omega)];exact(ih j).2.2.1
  ·rw[K7 (by omega),aO (by omega),aO (by omega)];exact(ih j).2.2.2.1
  ·rw[K7 (by omega),aO (by omega),aO (by omega)];exact(ih j).2.2.2.2
theorem a41{b:List Int}{p:Nat}{c:Int}(hl:b.length=384)(hp:p<6):∀k:Nat,(k:Int)<=dS c->∀i,i<k->ld (gB b p c k) (p*64+8+i*(bE c).toNat) 4=1
 | 0,_,i,h=>absurd h (by omega)
 | k + 1, hk, i, h => by
  have hbl:=RR b p c k;have ho:=aI3 (c:=c) hp (by omega:(k:Int)<dS c);unfold gB;by_cases e:i=k
  ·grind[aWI]
  ·have hoi:=aI3 (c:=c) hp (by omega:(i:Int)<dS c);have ha:=VB (c:=c) (i:=i) (j:=k) (by omega) (by omega) e;rw[VA (b:=gB b p c k) (by omega) (by rw[JM]) fun j j1 j2=>by rw[K7 (by omega),aO (by omega),aO (by omega)]];exact a41 hl hp k (by omega) i (by omega)
theorem aDY{h:Heap}(hs:fI h){B:List Int}{p q:Nat}(hq:q<6){c:Int}:cG ⟨B,h.Class.set p c⟩ q=if q=p then c else cG h q:=by have h6:=hs.2.1;grind[cG]
theorem YN.a9Y{h:Heap}(hh:YN h){p:Nat}(hp:p<6)(hun:cG h p<0){c:Int}(hc:0<=c/\c<=2) :
  YN ⟨gB h.Bytes p c (dS c).toNat,h.Class.set p c⟩/\(∀t,(t / 4).toNat≠p->bD ⟨gB h.Bytes p c (dS c).toNat,h.Class.set p c⟩ t=bD h t)/\(∀t,0<=bD h t->(t / 4).toNat≠p/\mM ⟨gB h.Bytes p c (dS c).toNat,h.Class.set p c⟩ t=mM h t) /\
   ∀i,i<(dS c).toNat->bD ⟨gB h.Bytes p c (dS c).toNat,h.Class.set p c⟩ ((p:Int)*4+i)=c/\mM ⟨gB h.Bytes p c (dS c).toNat,h.Class.set p c⟩ ((p:Int)*4+i)=1:=by
 obtain⟨hs,hpg⟩:=hh;have h384:=hs.1;have hle:=nZ c;have hpn:((dS c).toNat:Int)<=dS c:=by omega
 have hb:=a9X h384 hp hc (dS c).toNat hpn;have hbl:=RR h.Bytes p c (dS c).toNat;have hs':fI ⟨gB h.Bytes p c (dS c).toNat,h.Class.set p c⟩:=⟨by simp only[hbl];exact h384,by simp only[bK];exact hs.2.1,aRH hs.2.2.1 p hc _,fun x hx=>by
  rcases oC hx with q | rfl
  ·exact hs.2.2.2 x q
  ·omega⟩
 have hcls:∀t:Int,(t / 4).toNat≠p->bD ⟨gB h.Bytes p c (dS c).toNat,h.Class.set p c⟩ t=bD h t:=fun t ht=>by
  unfold bD;by_cases q:0<=t/\t<=23
  ·rw[aDY hs (by omega),aO ht]
  ·rw[aO (fun z=>q z.1),aO (fun z=>q z.1)]
 refine⟨⟨hs',fun q hq=>?_⟩,hcls,fun t ht=>?_,fun i hi=>?_⟩
 ·rw[KE hs' hq];have hold:=(KE hs hq).1 (hpg q hq);by_cases e:q=p
  ·subst e;unfold aDW at hold ⊢;rw[aL hun] at hold;rw[aDY hs hq,aL rfl,aO (by omega)];refine⟨(hb 0).2.2,fun k k3 k8=>?_,fun i hi=>?_⟩
   ·simp only;rw[(hb k).2.1 k3 k8];exact hold k (by omega)
   ·simp only;rw[a41 h384 hp _ hpn i hi];omega
  ·refine aDW.same hq hs (by simp only[hbl]) (by rw[aDY hs hq,aO e]) (fun k hk=>?_) hold;exact(hb _).1 (by omega)
 ·obtain⟨p',i',p6',hi',es',ec',eo',ep'⟩:=yU ht;have hne:(t / 4).toNat≠p:=fun z=>by rw[ec',<-ep',z] at ht;omega
  refine⟨hne,?_⟩;have hz':=wA hs p6' rfl hi';unfold mM;rw[hcls t hne,VA (b:=h.Bytes) (by omega) (by simp only[hbl]) fun k k1 k2=>(hb k).1 (by omega)]
 ·have e1:((p:Int)*4+i) / 4=p:=by omega
  have e2:((p:Int)*4+i) % 4=i:=by omega
  have ec:bD ⟨gB h.Bytes p c (dS c).toNat,h.Class.set p c⟩ ((p:Int)*4+i)=c:=by unfold bD;rw[e1,e2,OR,aDY hs hp,aL rfl,aL (by omega)]
  refine⟨ec,?_⟩;unfold mM;rw[ec];have ho:=aI3 (c:=c) hp (by omega:(i:Int)<dS c);have:(gA ((p:Int)*4+i) c).toNat=p*64+8+i*(bE c).toNat:=ho.1;rw[this];exact a41 h384 hp _ hpn i hi
def vP(m m':Mem)(k:Int):Prop:=oA m'/\∀s,hQ m s=3->s≠k->hQ m' s=3/\mM m'.Heap s=mM m.Heap s/\bD m'.Heap s=bD m.Heap s
theorem vP.refl{m:Mem}(h:oA m)(k:Int):vP m m k:=⟨h,fun _ h _=>⟨h,rfl,rfl⟩⟩
theorem vP.live{m m':Mem}{k h:Int}(q:vP m m' k)(hl:mN m h)(hn:h % 32≠k):mN m' h:=by obtain⟨h1,h2,h3⟩:=hl;obtain⟨a,b,_⟩:=q.2 _ h2 hn;exact⟨h1,a,by omega⟩
theorem QH{l:List aY}{k j:Nat}(hk:k<l.length){t:aY}:gZ (l.set k t) j=if j=k then t.aW else gZ l j:=by grind[gZ]
theorem aPB{l:List aY}{k:Nat}(hk:k<l.length){t:aY}(ht:t.aW.Sublist l[k].aW):(fJ (l.set k t)).Sublist (fJ l):=by grind[M3,KD]
theorem MX{l:List aY}{k:Nat}(hk:k<l.length){xs:List Int}{s:Int}:s∈fJ (l.set k ⟨l[k].aW++xs⟩)↔s∈fJ l\/s∈xs:=by grind[M3,KD]
theorem YR{l:List aY}{k:Nat}(hk:k<l.length){xs r q:List Int}(h:(q++(fJ l++r)).Nodup)(hx:xs.Nodup)(hd:∀x∈xs,x∉q++(fJ l++r)):(q++(fJ (l.set k ⟨l[k].aW++xs⟩)++r)).Nodup:=by
 have hp:(q++(fJ (l.set k ⟨l[k].aW++xs⟩)++r)).Perm (xs++(q++(fJ l++r))):=by rw[M3 hk,KD hk];grind
 grind
theorem aRJ{m m':Mem}{s:Int}(h1:bD m'.Heap s=bD m.Heap s)(h2:mM m'.Heap s=mM m.Heap s)(h3:s∈eU m'.aB↔s∈eU m.aB):hQ m' s=hQ m s:=by simp_all[hQ]
theorem qO{m:Mem}{s:Int}:hQ m s=3↔0<=bD m.Heap s/\s∉eU m.aB/\mM m.Heap s<=6:=by unfold hQ;grind
noncomputable section
variable {m:Mem} (hm:oA m)
include hm
theorem oA.bBW{k:Nat}(hk:k<9){t:aY}(ht:t.aW.Sublist (gZ m.aB.Own k)):vP m ⟨m.Heap,⟨m.aB.Global,m.aB.Own.set k t⟩⟩ (-1):=by
 obtain⟨⟨hh,h3,h9,h2,hr,hn⟩,hg,ho⟩:=hm;have hk':k<m.aB.Own.length:=by omega
 have ht':t.aW.Sublist m.aB.Own[k].aW:=by grind[eP]
 have hsub:(eU ⟨m.aB.Global,m.aB.Own.set k t⟩).Sublist (eU m.aB):=(List.Sublist.refl _).append (aPB hk' ht');refine⟨⟨⟨hh,h3,by grind,fun s hs=>?_,fun x hx=>hr x (hsub.subset hx),hsub.nodup hn⟩,hg,fun j hj=>?_⟩,fun s hs _=>⟨?_,rfl,rfl⟩⟩
 ·grind
 ·unfold HO;simp only[QH hk'];split
  ·rename_i e;subst e;exact fun x hx=>ho j hj x (ht.subset hx)
  ·exact ho j hj
 grind[qO]
theorem oA.a0B{k:Nat}(hk:k<3){t:aY}(ht:t.aW.Sublist (gZ m.aB.Global k)):vP m ⟨m.Heap,⟨m.aB.Global.set k t,m.aB.Own⟩⟩ (-1):=by
 obtain⟨⟨hh,h3,h9,h2,hr,hn⟩,hg,ho⟩:=hm;have hk':k<m.aB.Global.length:=by omega
 have ht':t.aW.Sublist m.aB.Global[k].aW:=by grind[eP]
 have hsub:(eU ⟨m.aB.Global.set k t,m.aB.Own⟩).Sublist (eU m.aB):=(aPB hk' ht').append (List.Sublist.refl _);refine⟨⟨⟨hh,by grind,h9,h2,fun x hx=>hr x (hsub.subset hx),hsub.nodup hn⟩,fun j hj=>?_,ho⟩,fun s hs _=>⟨?_,rfl,rfl⟩⟩
 ·unfold RM;simp only[QH hk'];split
  ·rename_i e;subst e;exact fun x hx=>hg j hj x (ht.subset hx)
  ·exact hg j hj
 grind[qO]
theorem oA.a8D{k:Nat}(hk:k<9){xs:List Int}(hl:(gZ m.aB.Own k).length+xs.length<=2)(hx:xs.Nodup)(hf:HD m.Heap xs ((k % 3:Nat):Int))(hd:∀x∈xs,x∉eU m.aB)(hk':k<m.aB.Own.length) :
  oA ⟨m.Heap,⟨m.aB.Global,m.aB.Own.set k ⟨m.aB.Own[k].aW++xs⟩⟩⟩/\∀s,s∉xs->hQ m s=3->hQ ⟨m.Heap,⟨m.aB.Global,m.aB.Own.set k ⟨m.aB.Own[k].aW++xs⟩⟩⟩ s=3:=by
 obtain⟨⟨hh,h3,h9,h2,hr,hn⟩,hg,ho⟩:=hm;have hmem:∀s,s∈eU ⟨m.aB.Global,m.aB.Own.set k ⟨m.aB.Own[k].aW++xs⟩⟩↔s∈eU m.aB\/s∈xs:=fun s=>by simp[eU,MX,or_assoc]
 have hcl:∀x∈xs,0<=x/\x<=23:=fun x h=>by have:=(hf x h).1;exact(AA (h:=m.Heap) (s:=x) (by omega)).1
 refine⟨⟨⟨hh,h3,by grind,fun s hs=>?_,fun x hx=>?_,?_⟩,hg,fun j hj=>?_⟩,fun s hs h3=>?_⟩
 ·grind[eP]
 ·grind
 ·have:=YR (q:=fJ m.aB.Global) (r:=[]) hk' (by grind[eU]) hx (by grind[eU]);grind[eU]
 ·unfold HO;simp only[QH hk'];split
  ·rename_i e;subst e;intro x hx;rcases jB.1 hx with q | q
   ·rw[eP hk'] at q;exact ho j hj x q
   ·exact hf x q
  ·exact ho j hj
 grind[qO]
theorem oA.aL4{k:Nat}(hk:k<3){xs:List Int}(hx:xs.Nodup)(hf:HD m.Heap xs (k:Int))(hd:∀x∈xs,x∉eU m.aB)(hk':k<m.aB.Global.length) :
  oA ⟨m.Heap,⟨m.aB.Global.set k ⟨m.aB.Global[k].aW++xs⟩,m.aB.Own⟩⟩/\∀s,s∉xs->hQ m s=3->hQ ⟨m.Heap,⟨m.aB.Global.set k ⟨m.aB.Global[k].aW++xs⟩,m.aB.Own⟩⟩ s=3:=by
 obtain⟨⟨hh,h3,h9,h2,hr,hn⟩,hg,ho⟩:=hm;have hmem:∀s,s∈eU ⟨m.aB.Global.set k ⟨m.aB.Global[k].aW++xs⟩,m.aB.Own⟩↔s∈eU m.aB\/s∈xs:=fun s=>by simp[eU,MX,or_right_comm]
 have hcl:∀x∈xs,0<=x/\x<=23:=fun x h=>by have:=(hf x h).1;exact(AA (h:=m.Heap) (s:=x) (by omega)).1
 refine⟨⟨⟨hh,by grind,h9,h2,fun x hx=>?_,?_⟩,fun j hj=>?_,ho⟩,fun s hs h3=>?_⟩
 ·grind
 ·have:=YR (q:=[]) (r:=fJ m.aB.Own) hk' (by grind[eU]) hx (by grind[eU]);grind[eU]
 ·unfold RM;simp only[QH hk'];split
  ·rename_i e;subst e;intro x hx;rcases jB.1 hx with q | q
   ·rw[eP hk'] at q;exact hg j hj x q
   ·exact hf x q
  ·exact hg j hj
 grind[qO]
theorem oA.tC{x:Int}(hx:x∈eU m.aB):0<=bD m.Heap x/\mM m.Heap x<=6:=by
 obtain⟨⟨hh,h3,h9,h2,hr,hn⟩,hg,ho⟩:=hm;have key:∀(l:List aY),x∈fJ l->∃k,k<l.length/\x∈gZ l k:=fun l h=>by grind[M1,Z1,eP]
 rcases jB.1 hx with q | q
 ·obtain⟨k,hk,h⟩:=key _ q;have:=hg k (by omega) x h;omega
 ·obtain⟨k,hk,h⟩:=key _ q;have:=ho k (by omega) x h;omega
theorem oA.heap{h':Heap}(hh:YN h')(hs:∀x∈eU m.aB,bD h' x=bD m.Heap x/\mM h' x=mM m.Heap x):oA ⟨h',m.aB⟩:=by
 obtain⟨⟨_,hl⟩,hg,ho⟩:=hm;have key:∀(l:List aY) k x,x∈gZ l k->x∈fJ l:=fun l k x h=>by grind[gZ,M1]
 refine⟨⟨hh,hl⟩,fun k hk x hx=>?_,fun k hk x hx=>?_⟩
 ·obtain⟨a,b⟩:=hs x (aOL _ (key _ k x hx));show bD h' x=_/\mM h' x<=6;rw[a,b];exact hg k hk x hx
 ·obtain⟨a,b⟩:=hs x (aSD _ (key _ k x hx));show bD h' x=_/\mM h' x<=6;rw[a,b];exact ho k hk x hx
theorem oA.bFN{s g:Int}(hu:hQ m s=3)(hg:1<=g/\g<=7):vP m ⟨⟨st4 m.Heap.Bytes (gA s (bD m.Heap s)).toNat g,m.Heap.Class⟩,m.aB⟩ s/\mM ⟨st4 m.Heap.Bytes (gA s (bD m.Heap s)).toNat g,m.Heap.Class⟩ s=g:=by
 have hu':=qO.1 hu;obtain⟨a,b⟩:=YN.a4Z hm.1.1 hu'.1 hg;refine⟨⟨oA.heap hm a fun x hx=>⟨rfl,?_⟩,fun t ht hn=>?_⟩,by grind⟩
 ·rw[b x (oA.tC hm hx).1,aO (show ¬x=s from fun e=>hu'.2.1 (e ▸ hx))]
 ·have ht':=qO.1 ht;have e:mM ⟨st4 m.Heap.Bytes (gA s (bD m.Heap s)).toNat g,m.Heap.Class⟩ t=mM m.Heap t:=by grind
  exact⟨qO.2 ⟨ht'.1,ht'.2.1,by grind⟩,e,rfl⟩
theorem oA.bDY{p:Nat}(hp:p<6)(hun:cG m.Heap p<0){c:Int}(hc:0<=c/\c<=2){xs:List Int}(hxs:∀x∈xs,∃i,i<(dS c).toNat/\x=(p:Int)*4+(i:Nat))(hx:xs.Nodup)(hk':c.toNat<m.aB.Global.length) :
  vP m ⟨⟨gB m.Heap.Bytes p c (dS c).toNat,m.Heap.Class.set p c⟩,⟨m.aB.Global.set c.toNat ⟨m.aB.Global[c.toNat].aW++xs⟩,m.aB.Own⟩⟩ (-1):=by
 obtain⟨a,b,d,e⟩:=YN.a9Y hm.1.1 hp hun hc;have h1:oA ⟨⟨gB m.Heap.Bytes p c (dS c).toNat,m.Heap.Class.set p c⟩,m.aB⟩:=oA.heap hm a fun x hx=>by grind[oA.tC]
 have hno:∀x∈xs,¬0<=bD m.Heap x:=fun x h q=>by obtain⟨i,hi,rfl⟩:=hxs x h;have h4:=nZ c;exact(d _ q).1 (by omega)
 obtain⟨f,g⟩:=oA.aL4 h1 (k:=c.toNat) (by omega) hx (fun x h=>by
  obtain⟨i,hi,rfl⟩:=hxs x h
  (simp_all;omega)) (fun x h q=>hno x h (oA.tC hm q).1) hk'
 refine⟨f,fun s hs _=>?_⟩;grind[qO]
end
end Go.Gv
end
noncomputable section
namespace Go.Gv
theorem bBX{p n:Nat}{x:Int}(h:x∈gS p n):∃i,i<n/\x=(p:Int)*4+(i:Nat):=by grind[gS]
theorem a42(p n:Nat):(gS p n).Nodup:=by grind[gS,List.nodup_range]
theorem aT2{m:Mem}(hm:oA m){c:Int}(hc:0<=c/\c<=2) :
  ∃m' s,GO m c=some (m',s)/\LZ m c=some (m',s)/\DX m'/\(0<=s->fI m'.Heap/\0<=bD m'.Heap s)/\vP m m' (-1):=by
 have hl:=hm.1.2;have hcnt:=hl.count;have hs:=hm.1.1.1;have hsl:=hl.aF9 (by omega);have hp4:=nZ c;have hpp:0<dS c:=nN.2 hc;have hall:=vN m.aB;have hsG:∀s∈m.aB.Global,s.aW.length<=24:=fun s h=>by have:=KA h;omega
 have hsO:∀s∈m.aB.Own,s.aW.length<=24:=fun s h=>by have:=KA h;omega
 have h3:=hl.1;have h9:=hl.2.1;have hcpl:=RQ (l:=m.aB) (by omega) (by omega) (fun s h=>by grind) (fun s h=>by grind);unfold GO LZ;rcases a4Y hm.1.1 hc with ⟨e1,e2⟩ | ⟨p,hp,hun,e1,e2⟩
 ·rw[e1,e2,hcpl];have h1:=hs.1;have h2:=hs.2.1;exact⟨_,_,rfl,rfl,⟨by grind,by grind,by grind,by grind,by grind⟩,fun h=>absurd h (by omega),vP.refl hm _⟩
 ·rw[e1,e2,hcpl];simp only[aD,KQ,KP,K0,aL2];have hn:(((dS c).toNat:Int) == 0)=false:=by grind
  have hk:c.toNat<m.aB.Global.length:=by omega
  have hg0:=hsG _ (dW hk);have hx:idx m.aB.Global c=some m.aB.Global[c.toNat]:=eW hc.1 (by omega);have hz:idx (gS p (dS c).toNat) 0=some ((p:Int)*4):=by grind[aV,gS]
  have hlen:(List.drop (1:Int).toNat (List.take (dS c).toNat (gS p (dS c).toNat))).length<=4:=by grind
  simp only[hn,aT,aS,hx,aD,hz];rw[aK (by omega),aK (by omega)];have hcl:cG ⟨gB m.Heap.Bytes p c (dS c).toNat,m.Heap.Class.set p c⟩ p=c:=by grind[cG]
  refine⟨_,_,rfl,rfl,⟨by simp only[RR];have:=hs.1;omega,by simp only[bK];have:=hs.2.1;omega,by grind,by grind,?_⟩,fun _=>⟨⟨by simp only[RR];exact hs.1,by simp only[bK];exact hs.2.1,aRH hs.2.2.1 p hc _,fun x hx=>?_⟩,?_⟩,?_⟩
  ·grind[vN,aBS]
  ·rcases oC hx with h | rfl
   ·exact hs.2.2.2 x h
   ·omega
  ·unfold bD
   (simp_all;omega)
  grind[oA.bDY,bBX,a42]
theorem aWJ(n:Int):∃c,GN n=some c/\LW n=some c/\(c = -1\/(0<=c/\c<=2)):=by
 have s1:∀k,0<=k/\k<=2->gJ n k=some (if 1<=n/\n<=gH k then .stop (Out.ret k) else .next (k+1)):=fun k hk=>by simp only[gJ];rw[aL (by simp;omega),sY,aD,cE,aD,aM (by omega) (by omega)];grind
 have s2:∀k,0<=k/\k<=2->kY n k=some (if 1<=n/\n<=gH k then .stop (Out.ret k) else .next (k+1)):=fun k hk=>by simp only[kY,CD];rw[aL (by simp;omega),OG,aD,aM (by omega) (by omega)];grind
 have st:∀k,0<=k/\k<=2->1<=n/\n<=gH k->loop (gJ n) k=some (Out.ret k)/\loop (kY n) k=some (Out.ret k):=fun k hk h=>
  ⟨bV (by grind),bV (by grind)⟩
 have nx:∀k,0<=k/\k<=2->¬(1<=n/\n<=gH k)->loop (gJ n) k=loop (gJ n) (k+1)/\loop (kY n) k=loop (kY n) (k+1):=fun k hk h=>
  ⟨bW (by grind),bW (by grind)⟩
 unfold GN LW;by_cases q0:1<=n/\n<=gH 0
 ·have:=st 0 (by omega) q0;rw[this.1,this.2];exact⟨_,rfl,rfl,.inr (by omega)⟩
 ·have h0:=nx 0 (by omega) q0;rw[h0.1,h0.2,show(0:Int)+1=1 from rfl];by_cases q1:1<=n/\n<=gH 1
  ·have:=st 1 (by omega) q1;rw[this.1,this.2];exact⟨_,rfl,rfl,.inr (by omega)⟩
  ·have h1:=nx 1 (by omega) q1;rw[h1.1,h1.2,show(1:Int)+1=2 from rfl];by_cases q2:1<=n/\n<=gH 2
   ·have:=st 2 (by omega) q2;rw[this.1,this.2];exact⟨_,rfl,rfl,.inr (by omega)⟩
   ·have h2:=nx 2 (by omega) q2;rw[h2.1,h2.2,show(2:Int)+1=3 from rfl,bV (body:=gJ n) (r:=Out.brk ()) (by simp[gJ]),bV (body:=kY n) (r:=Out.brk ()) (by simp[kY])];exact⟨_,rfl,rfl,.inl rfl⟩
theorem a43{s:aY}(hl:s.aW.length<=1048576):∃t x,uH s=some (t,x)/\xF s=some (x,t)/\t.aW.length<=s.aW.length/\(0<=x->x∈s.aW)/\t.aW.Sublist s.aW:=by
 unfold uH xF Q6;rw[aM (by omega) (by omega)];by_cases q:s.aW.length=0
 ·rw[aL (by grind),aL (by simp;omega)];grind
 ·have hx:idx s.aW ((s.aW.length:Int) - 1)=some (s.aW[s.aW.length - 1]'(by omega)):=by grind[aV]
  rw[aO (by grind),aO (by simp;omega),aK (by omega),hx];simp only[aD];grind[aK]
theorem TW{w c:Int}(hw:0<=w/\w<=2)(hc:0<=c/\c<=2):yF w c=some (w*3+c)/\NJ w c=some (w*3+c):=by grind[aM,yF,BP,cE,NJ,IZ,kD,lA]
theorem aL5{l:List aY}{k:Nat}(hk:k<l.length){t:aY}(ht:t.aW.length<=l[k].aW.length):(fJ (l.set k t)).length<=(fJ l).length:=by grind[M3,KD]
noncomputable section
variable {m:Mem} (hm:oA m)
include hm
theorem oA.facts:(eU m.aB).length<=24/\m.aB.Global.length=3/\m.aB.Own.length=9/\m.Heap.Bytes.length=384/\m.Heap.Class.length=6/\DX m/\jK m.aB=some m.aB/\l4 m.aB=some true /\
  (∀s∈m.aB.Global,s.aW.length<=24)/\(∀s∈m.aB.Own,s.aW.length<=24):=by
 have hl:=hm.1.2;have hcnt:=hl.count;have hall:=vN m.aB;have hsG:∀s∈m.aB.Global,s.aW.length<=24:=fun s h=>by have:=KA h;omega
 have hsO:∀s∈m.aB.Own,s.aW.length<=24:=fun s h=>by have:=KA h;omega
 have h3:=hl.1;have h9:=hl.2.1;have h1:=hm.1.1.1.1;have h2:=hm.1.1.1.2.1;refine⟨hcnt,h3,h9,h1,h2,⟨by omega,by omega,by omega,by omega,by omega⟩,RQ (by omega) (by omega) (fun s h=>by grind) (fun s h=>by grind),by grind[WN],hsG,hsO⟩
theorem aL6{w c:Int}(hw:0<=w/\w<=2)(hc:0<=c/\c<=2) :
  ∃l t x,idx m.aB.Own (w*3+c)=some l/\uH l=some (t,x)/\LX m.aB w c=some (⟨m.aB.Global,m.aB.Own.set (w*3+c).toNat t⟩,x) /\
   DX ⟨m.Heap,⟨m.aB.Global,m.aB.Own.set (w*3+c).toNat t⟩⟩/\(0<=x->0<=bD m.Heap x)/\vP m ⟨m.Heap,⟨m.aB.Global,m.aB.Own.set (w*3+c).toNat t⟩⟩ (-1):=by
 obtain⟨hcnt,h3,h9,h1,h2,hsm,hcp,hlo,hsG,hsO⟩:=oA.facts hm;have hk:(w*3+c).toNat<m.aB.Own.length:=by omega
 have hx:idx m.aB.Own (w*3+c)=some m.aB.Own[(w*3+c).toNat]:=eW (by omega) (by omega);have h24:=hsO _ (dW hk);obtain⟨t,x,e1,e2,ht,hmem,hsub⟩:=a43 (s:=m.aB.Own[(w*3+c).toNat]) (by omega);have hall:=vN m.aB;refine⟨_,t,x,hx,e1,?_,⟨by grind,by grind,by grind,by grind,?_⟩,fun h0=>?_,oA.bBW hm (by omega) (by grind[eP])⟩
 ·unfold LX CF;rw[hcp,(TW hw hc).2,hlo];grind
 ·grind[aL5,vN]
 ·have:=hm.2.2 (w*3+c).toNat (by omega) x (by grind[eP]);omega
theorem aAT{c:Int}(hc:0<=c/\c<=2) :
  ∃l t x,idx m.aB.Global c=some l/\uH l=some (t,x)/\CG m.aB c=some (⟨m.aB.Global.set c.toNat t,m.aB.Own⟩,x) /\
   DX ⟨m.Heap,⟨m.aB.Global.set c.toNat t,m.aB.Own⟩⟩/\(0<=x->0<=bD m.Heap x)/\vP m ⟨m.Heap,⟨m.aB.Global.set c.toNat t,m.aB.Own⟩⟩ (-1):=by
 obtain⟨hcnt,h3,h9,h1,h2,hsm,hcp,hlo,hsG,hsO⟩:=oA.facts hm;have hk:c.toNat<m.aB.Global.length:=by omega
 have hx:idx m.aB.Global c=some m.aB.Global[c.toNat]:=eW (by omega) (by omega);have h24:=hsG _ (dW hk);obtain⟨t,x,e1,e2,ht,hmem,hsub⟩:=a43 (s:=m.aB.Global[c.toNat]) (by omega);have hall:=vN m.aB;refine⟨_,t,x,hx,e1,?_,⟨by grind,by grind,by grind,by grind,?_⟩,fun h0=>?_,oA.a0B hm (by omega) (by grind[eP])⟩
 ·simp_all[CG,tS,lA]
 ·grind[aL5,vN]
 ·have:=hm.2.1 c.toNat (by omega) x (by grind[eP]);omega
theorem aRK{w h:Int}(hw:0<=w/\w<=2)(hv:mN m h):∃m',J2 m w (h % 32)=some m'/\NP m w h=some m'/\DX m'/\vP m m' (h % 32):=by
 obtain⟨hcnt,h3,h9,h1,h2,hsm,hcp,hlo,hsG,hsO⟩:=oA.facts hm;have hs:=hm.1.1.1;have hh:=hv.1;have hhm:=hh.mod;have hcl:=jF hv.2.1;have hgo:=HC hcl;have hc2:0<=bD m.Heap (h % 32)/\bD m.Heap (h % 32)<=2:=by obtain⟨_,q,e⟩:=AA hcl;rw[e];exact nN.1 (by omega)
 have hg6:1<=h / 32/\h / 32<=6:=by grind[kW]
 have hbl:m.Heap.Bytes.length<=maxLen:=by grind[maxLen]
 have hnot:h % 32∉eU m.aB:=fun q=>by have:=hv.2.1;simp_all[hQ,aO]
 have hcpH:=U9 (h:=m.Heap) (by omega) (by omega);have eo:gA (h % 32) (bD m.Heap (h % 32))=(((gA (h % 32) (bD m.Heap (h % 32))).toNat:Nat):Int):=by omega
 have ew:bB (h / 32+1)=h / 32+1:=aM (by omega) (by omega);have ed:bB (Int.tdiv h 32)=h / 32:=by grind[aM]
 have hall:=vN m.aB;obtain⟨hr1,hr2⟩:=oA.bFN hm hv.2.1 (g:=h / 32+1) (by omega);have hu:=qO.1 hv.2.1;unfold J2 NP XO tT;rw[hhm.1,jU hs,hcpH,HB hbl,b9 hs,iY hs,ed,ew,hcp];simp only[aD,eF,aT,aS,NO,FK,NN];rw[qW hs hcl,hv.2.2,eC,eE (show ¬bD m.Heap (h % 32)<0 by omega),b9 (show 1<=h / 32+1/\h / 32+1<=7 by omega)];simp only[aD,eF,aT,aS,v8,B6,ew];generalize hgn:(gA (h % 32) (bD m.Heap (h % 32))).toNat=a at eo;rw[hgn] at hr1 hr2;rw[eo,K6 (by omega) (by omega) (by omega),aAS (by omega)];simp only[aD];rw[YQ (by omega) (by omega) (by omega)];simp only[aD,N2,Q2,ed,ew,hhm.1];by_cases q:h / 32+1<=6
 ·have hk:(w*3+bD m.Heap (h % 32)).toNat<m.aB.Own.length:=by omega
  have hx:idx m.aB.Own (w*3+bD m.Heap (h % 32))=some m.aB.Own[(w*3+bD m.Heap (h % 32)).toNat]:=eW (by omega) (by omega);have hk2:(bD m.Heap (h % 32)).toNat<m.aB.Global.length:=by omega
  have hx2:idx m.aB.Global (bD m.Heap (h % 32))=some m.aB.Global[(bD m.Heap (h % 32)).toNat]:=eW (by omega) (by omega);have b1:=hsO _ (dW hk);have b2:=hsG _ (dW hk2);rw[b9 q,aL rfl,aL rfl];unfold X0 aE2 zC;rw[iY hs,aD,hcp,(TW hw hc2).1,(TW hw hc2).2,hlo,yT,b9 (show 0<=h % 32/\h % 32<=23 by omega),YP (by omega) (by omega) (by omega),eE hnot];simp only[aD,eF,aT,aS,hx,hx2];have nz:¬w*3+bD m.Heap (h % 32)<0:=by omega
  simp only[eE nz,aT,aS];by_cases q2:m.aB.Own[(w*3+bD m.Heap (h % 32)).toNat].aW.length<2
  ·have y1:(m.aB.Own[(w*3+bD m.Heap (h % 32)).toNat].aW.length:Int)<2:=by omega
   have y2:¬(2:Int)<=m.aB.Own[(w*3+bD m.Heap (h % 32)).toNat].aW.length:=by omega
   simp only[b9 y1,eE y2,aT,aS,aP];rw[aK (by simp;omega),aK (by simp;omega)];refine⟨_,rfl,rfl,⟨by grind[JM],by grind,by grind,by grind,?_⟩,?_⟩
   ·grind[vN,aBS]
   ·have hmod:((w*3+bD m.Heap (h % 32)).toNat % 3:Nat)=(bD m.Heap (h % 32)).toNat:=by omega
    obtain⟨z1,z2⟩:=oA.a8D hr1.1 (k:=(w*3+bD m.Heap (h % 32)).toNat) (by omega) (xs:=[h % 32]) (by grind[eP]) (by simp) (fun x hx=>by
     simp at hx;subst hx;exact⟨by rw[hmod];show bD m.Heap (h % 32)=_;omega,by grind⟩) (fun x hx=>by grind) hk
    refine⟨z1,fun s h1 h2=>?_⟩;obtain⟨y1,y2,y3⟩:=hr1.2 s h1 h2;grind
  ·have y1:¬(m.aB.Own[(w*3+bD m.Heap (h % 32)).toNat].aW.length:Int)<2:=by omega
   have y2:(2:Int)<=m.aB.Own[(w*3+bD m.Heap (h % 32)).toNat].aW.length:=by omega
   simp only[b9 y2,eE y1,aT,aS,aP];rw[aK (by simp;omega),aK (by simp;omega)];refine⟨_,rfl,rfl,⟨by grind[JM],by grind,by grind,by grind,?_⟩,?_⟩
   ·grind[vN,aBS]
   ·obtain⟨z1,z2⟩:=oA.aL4 hr1.1 (k:=(bD m.Heap (h % 32)).toNat) (by omega) (xs:=[h % 32]) (by simp) (fun x hx=>by
     simp at hx;subst hx;exact⟨by show bD m.Heap (h % 32)=_;omega,by grind⟩) (fun x hx=>by grind) hk2
    refine⟨z1,fun s h1 h2=>?_⟩;obtain⟨y1,y2,y3⟩:=hr1.2 s h1 h2;grind
 ·rw[eE q,aO (by simp),aO (by simp)];refine⟨_,rfl,rfl,⟨by grind[JM],by grind,by grind,by grind,by(simp_all;omega)⟩,hr1⟩
end
theorem alloc_eq{b:aA}(hm:oA b.Mem){w:Int}(hw:0<=w/\w<=2)(s:Sub) :
  ∃x y,BW b w s=some (x,y)/\tU s b w=some (y,x)/\∃m',x=⟨m',b.aG,b.bH,b.qZ⟩/\DX m'/\vP b.Mem m' (-1):=by
 have hsm:=(oA.facts hm).2.2.2.2.2.1;have hs:=hm.1.1.1;obtain⟨c,ec,ei,hcc⟩:=aWJ s.A;unfold BW tU;rw[ec,ei];simp only[aD];by_cases c0:c<0
 ·simp only[b9 c0,aP,bQ,bN];exact⟨_,_,rfl,rfl,_,rfl,hsm,vP.refl hm _⟩
 have hc:0<=c/\c<=2:=by omega
 simp only[eE c0,aT,aS];have fin:∀(m':Mem) (x:Int),DX m'->vP b.Mem m' (-1)->(0<=x->fI m'.Heap/\0<=bD m'.Heap x) ->
   ∃X Y,j8 s x ⟨m',b.aG,b.bH,b.qZ⟩=some (X,Y)/\jG s x ⟨m',b.aG,b.bH,b.qZ⟩=some (Y,X)/\∃m',X=⟨m',b.aG,b.bH,b.qZ⟩/\DX m'/\vP b.Mem m' (-1):=by
  intro m' x hs' hst hx;unfold j8 jG;simp only[zW,UP,bQ,bN];by_cases x0:0<=x
  ·obtain⟨h,e1,e2⟩:=a0A (m:=m') (hx x0).1 (hx x0).2;rw[eE (show ¬x<0 by omega),b9 x0];simp only[aT,aS,aP,e1,e2,aD];grind
  ·rw[b9 (show x<0 by omega),eE x0];by_cases p3:s.Pc=3
   ·simp only[p3,beq_self_eq_true,aP,aT,aS,aD];grind
   ·have p3':(s.Pc == 3)=false:=by grind
    simp only[p3',aP,aT,aS,aD];grind
 by_cases p0:s.Pc=0
 ·obtain⟨l,t,x,e1,e2,e3,h1,h2,h3⟩:=aL6 hm hw hc;simp_all[TW]
 ·have p0':(s.Pc == 0)=false:=by grind
  simp only[p0',aT,aS,zX,o5];obtain⟨l,t,x,e1,e2,e3,h1,h2,h3⟩:=aAT hm hc;by_cases p1:s.Pc=1
  ·simp_all
  ·have p1':(s.Pc == 1)=false:=by grind
   simp only[p1',aT,aS];by_cases p3:s.Pc=3
   ·simp_all
   ·have p3':(s.Pc == 3)=false:=by grind
    simp only[p3',aT,aS];by_cases p2:s.Pc=2
    ·obtain⟨m',x,e1,e2,h1,h2,h3⟩:=aT2 hm hc;simp_all
    ·have p2':(s.Pc == 2)=false:=by grind
     simp only[p2',aT,aS,bQ,bN];exact⟨_,_,rfl,rfl,_,rfl,hsm,vP.refl hm _⟩
end Go.Gv
end
noncomputable section
namespace Go.Gv
theorem aY1(r:eJ)(e:Int):∃v,MZ r e=some v/\S3 r e=some v:=by
 unfold MZ S3 MN L5;by_cases h:2<=e
 ·simp only[b9 h,aP];exact⟨_,rfl,rfl⟩
 ·simp only[eE h,aT,aS];exact⟨_,rfl,rfl⟩
theorem a8E{b:aA}{w:Int}{l:bM}(hx:idx b.bH w=some l)(hl:l.Rows.length<=1000)(s:Sub) :
  (zY l.Rows s.Row s.E=some (-1)/\qC s b w=(bN s 0).bind fun x=>some (x,b)) \/
  ∃k,∃h:k<l.Rows.length,zY l.Rows s.Row s.E=some (k:Int)/\qC s b w=some (⟨s.Kind,s.A,2,s.E,(k:Int),0,l.Rows[k].Handle,s.Out,s.Code,s.dB⟩,b):=by
 have key:∀d k,k+d=l.Rows.length ->
   (loop (fM l.Rows s.E) (k:Int)=some (Out.brk ())/\loop (fV s b w) (k:Int)=some (Out.brk ())) \/
   ∃j,∃h:j<l.Rows.length,loop (fM l.Rows s.E) (k:Int)=some (Out.ret (j:Int))/\loop (fV s b w) (k:Int)=some (Out.ret (⟨s.Kind,s.A,2,s.E,(j:Int),0,l.Rows[j].Handle,s.Out,s.Code,s.dB⟩,b)):=by
  intro d;induction d with
  | zero =>
   simp_all[bV,fM,fV]
  | succ d ih =>
   intro k hk;have hk':k<l.Rows.length:=by omega
   obtain⟨v,e1,e2⟩:=aY1 l.Rows[k] s.E;cases v with
   | true =>
    right;refine⟨k,hk',bV ?_,bV ?_⟩
    ·simp only[fM];rw[aL (by simp;omega),aV hk',aD,e1];rfl
    ·simp only[fV,hx,aD];rw[aL (by simp;omega),aV hk',aD,e2];rfl
   | false =>
    have n1:fM l.Rows s.E (k:Int)=some (.next ((k+1:Nat):Int)):=by simp only[fM];rw[aL (by simp;omega),aV hk',aD,e1,aD,aM (by omega) (by omega)];rfl
    have n2:fV s b w (k:Int)=some (.next ((k+1:Nat):Int)):=by simp only[fV,hx,aD];rw[aL (by simp;omega),aV hk',aD,e2,aD,aM (by omega) (by omega)];rfl
    rw[bW n1,bW n2];exact ih (k+1) (by omega)
 unfold zY qC;have hst:∃i:Nat,(if 0<s.Row then s.Row else 0)=(i:Int)/\(if s.Row<0 then 0 else s.Row)=(i:Int):=by refine⟨s.Row.toNat,?_,?_⟩<;>split<;>omega
 obtain⟨i,i1,i2⟩:=hst;rw[i1,i2];by_cases hi:i<=l.Rows.length
 ·rcases key (l.Rows.length - i) i (by omega) with ⟨a,c⟩ | ⟨j,hj,a,c⟩
  ·left;rw[a,c];exact⟨rfl,rfl⟩
  ·right;rw[a,c];exact⟨j,hj,rfl,rfl⟩
 ·left;rw[bV (body:=fM l.Rows s.E) (r:=Out.brk ()) (by simp only[fM];grind),
   bV (body:=fV s b w) (r:=Out.brk ()) (by simp only[fV,hx,aD];grind)]
  exact⟨rfl,rfl⟩
theorem del_eq{α:Type}{l:List α}{k:Nat}(h:k<l.length):((dC l k (l.drop (k+1))).take (k+(l.length - (k+1)))).drop 0=l.eraseIdx k:=by grind[dC,aON]
theorem aWK{α:Type}{l:List α}{k:Nat}(h:k<l.length):l.Perm (l[k] :: l.eraseIdx k):=by grind[M5,aF0,List.eraseIdx_eq_take_drop_succ,List.perm_middle]
theorem tJ.drop{b:List bM}(hL:tJ b){w:Nat}(hw:w<b.length):∀k (hk:k<b[w].Rows.length),tJ (b.set w ⟨b[w].Rows.eraseIdx k⟩)/\∀r∈cS (b.set w ⟨b[w].Rows.eraseIdx k⟩),r∈cS b/\r.Handle % 32≠b[w].Rows[k].Handle % 32:=by
 intro k hk;have hsub:(cS (b.set w ⟨b[w].Rows.eraseIdx k⟩)).Sublist (cS b):=by grind[TU,QG]
 have hnd:=hL.2.2.2;refine⟨⟨by simpa using hL.1,tG hsub.length_le hL.2.1,fun r hr=>hL.2.2.1 r (hsub.subset hr),(hsub.map pA).nodup hnd⟩,fun r hr=>⟨hsub.subset hr,?_⟩⟩;have hp:(cS b).Perm (b[w].Rows[k] :: cS (b.set w ⟨b[w].Rows.eraseIdx k⟩)):=by rw[TU hw,QG hw];refine List.Perm.trans (List.Perm.append_left _ (List.Perm.append_right _ (aWK hk))) ?_;simp
 grind[pA]
theorem aWL{b:aA}(hb:nB b){w:Int}(hw:0<=w/\w<=2)(s:Sub) :
  ∃x y,vK b w s=some (x,y)/\qD s b w=some (y,x)/\∃m' L,x=⟨m',b.aG,L,b.qZ⟩/\DX m'/\oA m'/\tJ L/\∀r∈cS L,mN m' r.Handle/\r.aQ<=b.aG.aQ:=by
 have hm:=hb.1.1;have hL:=hb.1.2.2.1;have hZ:=hb.1.2.2.2;have hsm:=(oA.facts hm).2.2.2.2.2.1;have hlen:w.toNat<b.bH.length:=by have:=hL.1;omega
 have hx:idx b.bH w=some b.bH[w.toNat]:=eW hw.1 (by omega);have hrow:=hL.small.2.2.2 _ (dW hlen);have hmemL:b.bH[w.toNat]∈b.bH:=dW hlen;have hset:=tJ.drop hL hlen;generalize b.bH[w.toNat]=l at hx hrow hset hmemL;have done:∀y:Sub,∃x z,(some (b,y):Option (aA×Sub))=some (x,z)/\(some (y,b):Option (Sub×aA))=some (z,x)/\∃m' L,x=⟨m',b.aG,L,b.qZ⟩/\DX m'/\oA m'/\tJ L/\∀r∈cS L,mN m' r.Handle/\r.aQ<=b.aG.aQ:=
  fun y=>⟨_,_,rfl,rfl,b.Mem,b.bH,rfl,hsm,hm,hL,hb.2⟩
 have hw1:bB ((l.Rows.length:Int) - 1)=(l.Rows.length:Int) - 1:=aM (by omega) (by omega);have hhas:JY b.bH w s.Row=some (decide (0<=s.Row/\s.Row<=(l.Rows.length:Int) - 1)):=by simp_all[JY,FL,kD,eC]
 unfold vK qD;rw[hhas,hx];simp only[aD,bQ,cE,hw1];have hat:∃a:Bool,(if decide (0<=s.Row/\s.Row<=(l.Rows.length:Int) - 1)=true then(idx l.Rows s.Row).bind fun x15=>gP s b w (x15.Handle == s.H) else gP s b w false)=gP s b w a /\
   (if(!decide (0<=s.Row/\s.Row<=(l.Rows.length:Int) - 1))=true then fX b s true else(idx l.Rows s.Row).bind fun x11=>fX b s (x11.Handle != s.H))=fX b s (!a) /\
   (a=true->∃r,r∈l.Rows/\idx l.Rows s.Row=some r/\r.Handle=s.H/\0<=s.Row/\s.Row<l.Rows.length) /\
   (a=false->∀f:eJ->Option (aA×Sub),(if(!decide (0<=s.Row/\s.Row<=(l.Rows.length:Int) - 1))=true then fY b w s l true else(idx l.Rows s.Row).bind fun x=>if(x.Handle != s.H)=true then fY b w s l true else f x)=fY b w s l true):=by
  by_cases q:0<=s.Row/\s.Row<=(l.Rows.length:Int) - 1
  ·have hr:idx l.Rows s.Row=some (l.Rows[s.Row.toNat]'(by omega)):=eW q.1 (by omega);by_cases q2:(l.Rows[s.Row.toNat]'(by omega)).Handle=s.H
   ·refine⟨true,?_,?_,fun _=>⟨_,dW _,hr,q2,q.1,by omega⟩,fun h=>by cases h⟩
    ·rw[b9 q,aL rfl,hr,aD,q2,beq_self_eq_true]
    ·rw[b9 q,aO (by simp),hr,aD,q2,bne_self_eq_false];rfl
   ·have n1:((l.Rows[s.Row.toNat]'(by omega)).Handle == s.H)=false:=by simpa using q2
    have n2:((l.Rows[s.Row.toNat]'(by omega)).Handle != s.H)=true:=by simpa using q2
    refine⟨false,?_,?_,(fun h=>by cases h),fun _ f=>?_⟩
    ·rw[b9 q,aL rfl,hr,aD,n1]
    ·rw[b9 q,aO (by simp),hr,aD,n2];rfl
    ·rw[b9 q,aO (by simp),hr,aD,n2,aL rfl]
  simp_all[eE]
 obtain⟨a,ha1,ha2,ha3,ha4⟩:=hat;rw[ha1,ha2];unfold gP;by_cases p0:s.Pc=0
 ·simp_all
 have p0':(s.Pc == 0)=false:=by grind
 simp only[p0',aT,aS];by_cases p1:s.Pc=1
 ·simp only[p1,beq_self_eq_true,aP];rcases a8E hx (by omega) s with ⟨e1,e2⟩ | ⟨k,hk,e1,e2⟩
  ·simp_all[bN]
  simp_all[aO,aV]
 have p1':(s.Pc == 1)=false:=by grind
 simp only[p1',aT,aS];by_cases p2:s.Pc=2
 ·simp only[p2,beq_self_eq_true,aP,kD,aD];by_cases hB:0<=s.B/\s.B<=2
  ·rw[b9 hB];simp only[eF,aT,aS,aP];cases a with
   | true =>
    have hz:idx b.qZ s.B=some (b.qZ[s.B.toNat]'(by have:=hZ.1;omega)):=eW hB.1 (by have:=hZ.1;omega);simp only[fX,fA,eF,aT,aS,aP,hz,aD,uL];by_cases q:(b.qZ[s.B.toNat]'(by grind))=s.H
    ·simp_all
    ·have q':((b.qZ[s.B.toNat]'(by grind)) == s.H)=false:=by grind
     simp only[q',aT,aS];by_cases q3:bB (s.B+1)=3
     ·simp_all
     simp_all
   | false =>
    simp_all[fX,fA,eB,bQ,bN]
  simp_all[eE,fX,fA,eB,bQ,bN]
 have p2':(s.Pc == 2)=false:=by grind
 simp only[p2',aT,aS,fA];by_cases p3:s.Pc=3
 ·simp only[p3,beq_self_eq_true,aP];cases a with
  | false =>
   rw[ha4 rfl];simp_all[fY,eB,bQ,bN]
  | true =>
   obtain⟨r,hrm,hr,hrH,r0,r1⟩:=ha3 rfl;obtain⟨v,e1,e2⟩:=aY1 r s.E;rw[b9 (show 0<=s.Row/\s.Row<=(l.Rows.length:Int) - 1 by omega)];simp only[eF,aT,aS,aP,hr,aD,hrH,bne_self_eq_false,hx,e1,e2];cases v with
   | false =>
    simp_all[fY,eB,bQ,bN]
   | true =>
    have hlive:mN b.Mem s.H:=by have:r∈cS b.bH:=aOM.2 ⟨l,hmemL,hrm⟩;have:=(hb.2 r this).1;grind
    obtain⟨m',f1,f2,f3,f4⟩:=aRK hm hw hlive;have ew:bB (s.Row+1)=s.Row+1:=aM (by omega) (by omega);have hdrop:L6 b.bH w s.Row=some (b.bH.set w.toNat ⟨((dC l.Rows s.Row.toNat (l.Rows.drop (s.Row+1).toNat)).take (s.Row.toNat+(l.Rows.length - (s.Row+1).toNat))).drop 0⟩,true):=by
     unfold L6 CL;rw[aAR hL.small.2.2.1 (fun s h=>by have:=hL.small.2.2.2 s h;omega),K4 hL.small.1,b9 hL,hhas,b9 (show 0<=s.Row/\s.Row<=(l.Rows.length:Int) - 1 by omega)];simp only[aD,eF,aT,aS,hx,ew];unfold DI;rw[aK (by omega),aO (by simp;omega),aK (by omega),aK (by omega),aK (by omega),aK]
     ·rfl
     grind[eY]
    simp only[fY,eB,DU,ew,eF,aT,aS,aP];rw[aK (by omega),aK (by omega),aK (by omega),dV,aL hlive.1,aD,f1,f2,hdrop];have hk:s.Row.toNat<l.Rows.length:=by omega
    have eL:((dC l.Rows s.Row.toNat (l.Rows.drop (s.Row+1).toNat)).take (s.Row.toNat+(l.Rows.length - (s.Row+1).toNat))).drop 0=l.Rows.eraseIdx s.Row.toNat:=by rw[show(s.Row+1).toNat=s.Row.toNat+1 by omega];exact del_eq hk
    have er:l.Rows[s.Row.toNat]=r:=by grind[aV]
    rw[eL] at hdrop ⊢;obtain⟨g1,g2⟩:=hset s.Row.toNat hk;refine⟨_,_,rfl,rfl,m',_,rfl,f3,f4.1,g1,fun q hq=>?_⟩;obtain⟨g3,g4⟩:=g2 q hq;obtain⟨g5,g6⟩:=hb.2 q g3;refine⟨f4.live g5 fun e=>?_,g6⟩;grind
 simp_all[eB,bN]
end Go.Gv
end
noncomputable section
namespace Go.Gv
theorem aLW.fits{b:aA}(h:aLW b):b.Mem.Heap.Bytes.length<=maxLen/\(eU b.Mem.aB).length<=1073741824/\b.aG.cW.length<=maxLen/\b.bH.length<=maxLen/\(cS b.bH).length<=1073741824/\b.qZ.length<=maxLen:=by
 have hb:(1048576:Nat)<=maxLen:=by simp[maxLen]
 have g1:=h.1.1;have g2:=h.1.2.2.2.2;have g3:=h.2.1;have g4:=h.2.2.1;have g5:=h.2.2.2.1;have g6:=h.2.2.2.2;omega
theorem step_eq{b:aA}(hb:nB b)(hs:aLW b){w:Int}(hw:0<=w/\w<=2)(s:Sub) :
  ∃x y,yL b w s=some (x,y)/\hU s b w=some (y,x)/\nB x:=by
 have hz:=hb.1.2.2.2.1;have hl:=hb.1.2.2.1;unfold yL hU;cases hd:s.dB with
 | true=>grind
 | false =>
  simp only[aT,aS];by_cases k1:s.Kind=1
  ·obtain⟨x,y,e1,e2,m,rfl,h1,h2⟩:=alloc_eq hb.1.1 hw s;simp only[k1,beq_self_eq_true,aP,e1,e2,aD];exact⟨_,_,rfl,rfl,⟨h2.1,hb.1.2⟩,fun r hr=>⟨h2.live (hb.2 r hr).1 (by omega),(hb.2 r hr).2⟩⟩
  have k1':(s.Kind == 1)=false:=by grind
  simp only[k1',aT,aS];by_cases k2:s.Kind=2
  ·obtain⟨x,y,e1,e2,L,rfl,h1,h2⟩:=aZ7 hb hs hw s;simp only[k2,beq_self_eq_true,aP,e1,e2,aD];exact⟨_,_,rfl,rfl,⟨hb.1.1,hb.1.2.1,h1,hb.1.2.2.2⟩,h2⟩
  have k2':(s.Kind == 2)=false:=by grind
  simp only[k2',aT,aS];by_cases k3:s.Kind=3
  ·obtain⟨x,y,e1,e2,c,rfl,h1,h2⟩:=aWE hb.1.2.1 s;simp only[k3,beq_self_eq_true,aP,e1,e2,aD];exact⟨_,_,rfl,rfl,⟨hb.1.1,h1,hb.1.2.2⟩,fun r hr=>⟨(hb.2 r hr).1,Int.le_trans (hb.2 r hr).2 h2⟩⟩
  have k3':(s.Kind == 3)=false:=by grind
  simp only[k3',aT,aS];by_cases k4:s.Kind=4
  ·obtain⟨x,y,e1,e2,m,L,rfl,h1,h2,h3,h4⟩:=aWL hb hw s;simp only[k4,beq_self_eq_true,aP,e1,e2,aD];exact⟨_,_,rfl,rfl,⟨h2,hb.1.2.1,h3,hb.1.2.2.2⟩,h4⟩
  have k4':(s.Kind == 4)=false:=by grind
  simp only[k4',aT,aS];by_cases k5:s.Kind=5
  ·obtain⟨x,y,e1,e2,c,rfl,h1,h2⟩:=bBV hb.1.2.1 hw s;simp only[k5,beq_self_eq_true,aP,e1,e2,aD];exact⟨_,_,rfl,rfl,⟨hb.1.1,h1,hb.1.2.2⟩,fun r hr=>⟨(hb.2 r hr).1,Int.le_trans (hb.2 r hr).2 h2⟩⟩
  have k5':(s.Kind == 5)=false:=by grind
  simp only[k5',aT,aS,bQ,bN,aD];grind
theorem nB.small{b:aA}(hb:nB b):aLW b:=by have h1:=hb.1.2.1.2.1;have h2:=hb.1.2.2.1.1;have h3:=hb.1.2.2.1.2.1;have h4:=hb.1.2.2.2.1;exact⟨(oA.facts hb.1.1).2.2.2.2.2.1,by omega,by omega,by omega,by omega⟩
end Go.Gv
end
noncomputable section
namespace Go.Gv
def RT(s:Sub)(code:Int):Sub:={s with Code:=code,dB:=true}
def OM(n:Int):Int:=if 1<=n/\n<=8 then 0 else if 1<=n/\n<=16 then 1 else if 1<=n/\n<=40 then 2 else -1
theorem aL7(n:Int):-1<=OM n/\OM n<=2:=by grind[OM]
theorem a0C(n:Int):GN n=some (OM n):=by
 have s1:∀k,0<=k/\k<=2->gJ n k=some (if 1<=n/\n<=gH k then .stop (Out.ret k) else .next (k+1)):=fun k hk=>by simp only[gJ];rw[aL (by simp;omega),sY,aD,cE,aD,aM (by omega) (by omega)];grind
 have z0:gH 0=8:=rfl;have z1:gH 1=16:=rfl;have z2:gH 2=40:=rfl;unfold GN OM;by_cases q0:1<=n/\n<=8
 ·rw[bV (by rw[s1 0 (by omega),aL (by omega)]),aL q0];rfl
 ·rw[bW (by rw[s1 0 (by omega),aO (by omega)]),aO q0,show(0:Int)+1=1 from rfl];by_cases q1:1<=n/\n<=16
  ·rw[bV (by rw[s1 1 (by omega),aL (by omega)]),aL q1];rfl
  ·rw[bW (by rw[s1 1 (by omega),aO (by omega)]),aO q1,show(1:Int)+1=2 from rfl];by_cases q2:1<=n/\n<=40
   ·rw[bV (by rw[s1 2 (by omega),aL (by omega)]),aL q2];rfl
   ·rw[bW (by rw[s1 2 (by omega),aO (by omega)]),aO q2,show(2:Int)+1=3 from rfl,bV (body:=gJ n) (r:=Out.brk ()) (by simp[gJ])];rfl
def aL8(l:List Int):List Int×Int:=(l.dropLast,l.getLastD (-1))
theorem aI4{s:aY}(h:s.aW.length<=1048576):uH s=some (⟨(aL8 s.aW).1⟩,(aL8 s.aW).2):=by
 unfold uH Q6 aL8;obtain⟨l⟩:=s;rcases aSB l with rfl | ⟨L,b,rfl⟩
 ·rfl
 ·simp only[aSA] at h ⊢;have hl:(L ++ [b]).length=L.length+1:=by simp
  rw[hl,aM (by omega) (by omega),show((L.length+1:Nat):Int) - 1=(L.length:Int) by omega,aO (by simp;omega),aK (by omega),aV (by omega)];simp
def YS(m:Mem)(w c:Int):Mem×Int:=(⟨m.Heap,⟨m.aB.Global,m.aB.Own.set (w*3+c).toNat ⟨(aL8 (gZ m.aB.Own (w*3+c).toNat)).1⟩⟩⟩,(aL8 (gZ m.aB.Own (w*3+c).toNat)).2)
def TX(m:Mem)(c:Int):Mem×Int:=(⟨m.Heap,⟨m.aB.Global.set c.toNat ⟨(aL8 (gZ m.aB.Global c.toNat)).1⟩,m.aB.Own⟩⟩,(aL8 (gZ m.aB.Global c.toNat)).2)
def pgF(h:Heap):Nat:=h.Class.findIdx (fun x=>decide (x = -1))
def YT(m:Mem)(c:Int):Mem×Int:=if pgF m.Heap=6 then(m,-1) else
 (⟨⟨gB m.Heap.Bytes (pgF m.Heap) c (dS c).toNat,m.Heap.Class.set (pgF m.Heap) c⟩,⟨m.aB.Global.set c.toNat ⟨gZ m.aB.Global c.toNat++(gS (pgF m.Heap) (dS c).toNat).drop 1⟩,m.aB.Own⟩⟩,(pgF m.Heap:Int)*4)
theorem a44{h:Heap}(hs:fI h):pgF h<=6:=by rw[<-hs.2.1];exact List.findIdx_le_length
theorem a45{h:Heap}(hs:fI h)(hq:pgF h≠6):pgF h<6/\cG h (pgF h) = -1:=by
 have h6:=hs.2.1;have hlt:pgF h<6:=by grind[a44]
 refine⟨hlt,?_⟩;rw[<-ZI hs hlt];have:=List.findIdx_getElem (xs:=h.Class) (p:=fun x=>decide (x = -1)) (w:=by grind[pgF]);exact of_decide_eq_true this
theorem a8F{h:Heap}(hs:fI h):∀j (hj:j<6),j<pgF h->cG h j≠-1:=fun j hj hlt=>by have:=List.not_of_lt_findIdx hlt;grind[ZI]
theorem bBY{h:Heap}(hh:YN h){c:Int}(hc:0<=c/\c<=2):uI h c=some (if pgF h=6 then(h,[]) else(⟨gB h.Bytes (pgF h) c (dS c).toNat,h.Class.set (pgF h) c⟩,gS (pgF h) (dS c).toNat)):=by
 have hs:=hh.1;have h6:=hs.2.1;have h384:=hs.1;have hle:=a44 hs;have s1:∀k (hk:k<pgF h),fL h c (k:Int)=some (.next ((k+1:Nat):Int)):=fun k hk=>by
  have n:(h.Class[k] != -1)=true:=by grind[a8F,ZI]
  simp only[fL,KZ];rw[aL (by simp;omega),aV (by omega),aD,n,aL rfl,aM (by omega) (by omega)];rfl
 unfold uI;by_cases hq:pgF h=6
 ·have a1:loop (fL h c) 0=some (Out.brk ()):=kT (pgF h) (fun k=>(k:Int)) _ s1 (by simp_all[fL]);rw[a1,aL hq];rfl
 ·obtain⟨hlt,he⟩:=a45 hs hq;rw[<-ZI hs hlt] at he;generalize hqq:pgF h=q at *;have a1:loop (fL h c) 0=some (Out.ret (⟨gB h.Bytes q c (dS c).toNat,h.Class.set q c⟩,gS q (dS c).toNat)):=kT q (fun k=>(k:Int)) _ s1 (by
   have e0:bB ((q:Int)*64)=((q*64:Nat):Int):=by grind[aM]
   have e1:bB (((q*64:Nat):Int)+1)=((q*64+1:Nat):Int):=by grind[aM]
   have e2:bB (((q*64:Nat):Int)+2)=((q*64+2:Nat):Int):=by grind[aM]
   have n:(h.Class[q] != -1)=false:=by grind
   simp only[fL,e0,e1,e2,OR];rw[aL (by simp;omega),aV (by omega),aD,n,aO (by simp),aV (by omega),aD,aV (by simp;omega),aD,jT,aD,aV (by simp;omega),aD];have:=aL3 h384 hlt hc;simp only[gB] at this;rw[this];rfl)
  rw[a1,aO hq];rfl
theorem a0D{m:Mem}(hm:oA m){c:Int}(hc:0<=c/\c<=2):GO m c=some (YT m c):=by
 have h3:=hm.1.2.1;have hpp:0<dS c:=nN.2 hc;have hp4:=nZ c;obtain⟨_,_,_,_,_,_,_,_,hsG,_⟩:=oA.facts hm;unfold GO YT;rw[bBY hm.1.1 hc];by_cases hq:pgF m.Heap=6
 ·simp_all
 ·have hk:c.toNat<m.aB.Global.length:=by omega
  have hg0:=hsG _ (dW hk);have hx:idx m.aB.Global c=some m.aB.Global[c.toNat]:=eW hc.1 (by omega);have hz:idx (gS (pgF m.Heap) (dS c).toNat) 0=some ((pgF m.Heap:Int)*4):=by grind[aV,gS]
  have hn:(((dS c).toNat:Int) == 0)=false:=by grind
  have ht:(gS (pgF m.Heap) (dS c).toNat).take (dS c).toNat=gS (pgF m.Heap) (dS c).toNat:=aON (by grind[aL2]);have hd:((gS (pgF m.Heap) (dS c).toNat).drop 1).length<=4:=by grind
  simp only[aO hq,aD,aL2,hn,aT,aS,hx,hz,K0,ht];grind[aK,eP]
def bBZ(m:Mem)(s:Int):Int:=if 1<=mM m.Heap s/\mM m.Heap s<=6 then mM m.Heap s*32+s else 0
theorem a8G{m:Mem}(hs:fI m.Heap){s:Int}(hc:0<=bD m.Heap s):BV m s=some (bBZ m s):=by
 unfold BV Q7 zU bBZ;rw[qW hs hc,aD,cE,cE];have h1:=(AA hc).1;simp only[b9 h1,aD,eF,aT,aS];by_cases q:1<=mM m.Heap s/\mM m.Heap s<=6
 ·simp only[b9 q,eF,aT,aS,aL q];grind[aM]
 grind
def YU(b:aA)(s:Sub)(p:Mem×Int):aA×Sub:=
 if 0<=p.2 then({b with Mem:=p.1},RT {s with Out:=bBZ p.1 p.2} 0) else if s.Pc=3 then({b with Mem:=p.1},RT s 3) else({b with Mem:=p.1},{s with Pc:=s.Pc+1})
def aRL(b:aA)(w:Int)(s:Sub):aA×Sub:=
 if OM s.A<0 then(b,RT s 2)
 else if s.Pc=0 then YU b s (YS b.Mem w (OM s.A))
 else if s.Pc=1\/s.Pc=3 then YU b s (TX b.Mem (OM s.A))
 else if s.Pc=2 then YU b s (YT b.Mem (OM s.A))
 else(b,RT s 1)
theorem a0E{b:aA}(hm:oA b.Mem){w:Int}(hw:0<=w/\w<=2)(s:Sub):BW b w s=some (aRL b w s):=by
 obtain⟨hcnt,h3,h9,h1,h2,hsm,hcp,hlo,hsG,hsO⟩:=oA.facts hm;have hs:=hm.1.1.1;have hr:=aL7 s.A;unfold BW aRL;rw[a0C];simp only[aD];by_cases c0:OM s.A<0
 ·simp only[b9 c0,aP,bQ,aL c0];rfl
 generalize OM s.A=c at *;have hc:0<=c/\c<=2:=by omega
 simp only[eE c0,aT,aS,aO c0];have fin:∀(p:Mem×Int),-1<=p.2->(0<=p.2->fI p.1.Heap/\0<=bD p.1.Heap p.2)->s.Pc<=3/\0<=s.Pc->j8 s p.2 ⟨p.1,b.aG,b.bH,b.qZ⟩=some (YU b s p):=by
  intro p hp hx hpc;unfold j8 YU;simp only[zW,UP,bQ];by_cases x0:0<=p.2
  ·rw[eE (show ¬p.2<0 by omega),b9 x0];simp only[aT,aS,aP,aL x0,a8G (hx x0).1 (hx x0).2,aD];rfl
  ·rw[b9 (show p.2<0 by omega),eE x0];by_cases p3:s.Pc=3
   ·have p3':(s.Pc == 3)=true:=by grind
    simp only[p3',aP,aO x0,aL p3,aD];rfl
   ·have p3':(s.Pc == 3)=false:=by grind
    have e:bB (s.Pc+1)=s.Pc+1:=aM (by omega) (by omega);grind
 have popL:∀l:List Int,-1<=(aL8 l).2\/(aL8 l).2∈l:=fun l=>by unfold aL8;grind
 by_cases p0:s.Pc=0
 ·have hk:(w*3+c).toNat<b.Mem.aB.Own.length:=by omega
  have hx:idx b.Mem.aB.Own (w*3+c)=some b.Mem.aB.Own[(w*3+c).toNat]:=eW (by omega) (by omega);obtain⟨l,t,x,e1,e2,e3,g1,g2,g3⟩:=aL6 hm hw hc;have hl:=hsO _ (dW hk);rw[hx] at e1;cases e1;rw[aI4 (by omega)] at e2;have ep:YS b.Mem w c=(⟨b.Mem.Heap,⟨b.Mem.aB.Global,b.Mem.aB.Own.set (w*3+c).toNat t⟩⟩,x):=by grind[YS,eP]
  have hx0:-1<=x:=by
   injection e2 with e2;injection e2 with e4 e5
   rcases popL b.Mem.aB.Own[(w*3+c).toNat].aW with h | h
   ·omega
   ·rw[<-e5];have:=hm.1.2.2.2.2.1 _ (aSD _ (aOM.2 ⟨_,dW hk,h⟩));omega
  have p0':(s.Pc == 0)=true:=by grind
  have:=fin (YS b.Mem w c) (by grind) (by grind) (by omega);rw[ep] at this;simp only[p0',aP,aL p0,(TW hw hc).1,aD,hx];grind[aI4]
 ·have p0':(s.Pc == 0)=false:=by grind
  simp only[p0',aT,aS,zX,aO p0];have hk:c.toNat<b.Mem.aB.Global.length:=by omega
  have hx:idx b.Mem.aB.Global c=some b.Mem.aB.Global[c.toNat]:=eW (by omega) (by omega);obtain⟨l,t,x,e1,e2,e3,g1,g2,g3⟩:=aAT hm hc;have hl:=hsG _ (dW hk);rw[hx] at e1;cases e1;rw[aI4 (by omega)] at e2;have ep:TX b.Mem c=(⟨b.Mem.Heap,⟨b.Mem.aB.Global.set c.toNat t,b.Mem.aB.Own⟩⟩,x):=by grind[TX,eP]
  have hx0:-1<=x:=by
   injection e2 with e2;injection e2 with e4 e5
   rcases popL b.Mem.aB.Global[c.toNat].aW with h | h
   ·omega
   ·rw[<-e5];have:=hm.1.2.2.2.2.1 _ (aOL _ (aOM.2 ⟨_,dW hk,h⟩));omega
  have tg:0<=s.Pc/\s.Pc<=3->(idx b.Mem.aB.Global c).bind (fun x13=>(uH x13).bind fun x14=>j8 s x14.2 ({b with Mem:=(⟨b.Mem.Heap,(⟨b.Mem.aB.Global.set c.toNat x14.1,b.Mem.aB.Own⟩:aB)⟩:Mem)}:aA))=some (YU b s (TX b.Mem c)):=fun hpc=>by grind[aI4]
  by_cases p1:s.Pc=1
  ·grind
  ·have p1':(s.Pc == 1)=false:=by grind
   simp only[p1',aT,aS];by_cases p3:s.Pc=3
   ·grind
   ·have p3':(s.Pc == 3)=false:=by grind
    have n13:¬(s.Pc=1\/s.Pc=3):=by omega
    simp only[p3',aT,aS,aO n13];by_cases p2:s.Pc=2
    ·obtain⟨m',y,f1,f2,k1,k2,k3⟩:=aT2 hm hc;have hg:=a0D hm hc;rw[f1] at hg;have hg':YT b.Mem c=(m',y):=by grind
     have hy:-1<=(YT b.Mem c).2:=by grind[YT]
     grind
    ·have p2':(s.Pc == 2)=false:=by grind
     simp only[p2',aT,aS,bQ,aO p2,aD];rfl
end Go.Gv
end
noncomputable section
namespace Go.Gv
def mO(c:aG)(w:Int):wW:=c.cW.getD w.toNat ⟨false,0,false,0⟩
theorem EF{c:aG}(hc:W3 c){w:Int}(hw:0<=w/\w<=2):idx c.cW w=some (mO c w):=by have:=hc.2.1;grind[eW,mO]
def aL9(c:aG)(w e:Int):aG×Bool:=
 if(mO c w).On=false\/(mO c w).fB=true\/(mO c w).aQ=e then(c,true)
 else if(mO c w).Seen=2 then(⟨c.aQ,c.cW.set w.toNat {mO c w with fB:=true,Seen:=0}⟩,true)
 else(⟨c.aQ,c.cW.set w.toNat {mO c w with Seen:=(mO c w).Seen+1}⟩,false)
theorem a46{c:aG}(hc:W3 c){w:Int}(hw:0<=w/\w<=2):POk c.aQ (mO c w):=by
 have:=EF hc hw;have h2:=hc.2.1;rw[eW hw.1 (by omega)] at this;injection this with this
 rw[<-this];exact hc.2.2 _ (dW _)
theorem a47{c:aG}(hc:W3 c){w:Int}(hw:0<=w/\w<=2)(e:Int):J3 c w e=some (aL9 c w e):=by have hp:=a46 hc hw;have hx:=EF hc hw;have hsm:=hc.small;unfold J3 GU aL9;rw[oE hsm.1,jV,b9 hc,cE,b9 hw,hx];simp only[aD,eF,aT,aS,sQ,hx];generalize mO c w=p at *;have ew:bB (p.Seen+1)=p.Seen+1:=aM (by have:=hp.2.1;omega) (by have:=hp.2.1;omega);grind
def aMA(c:aG)(e:Int):aG×Bool:=if c.aQ=e/\e≠100000 then(⟨e+1,c.cW⟩,true) else(c,false)
theorem a48{c:aG}(hc:W3 c)(e:Int):S9 c e=some (aMA c e):=by
 have hsm:=hc.small;unfold S9 GV aMA;rw[oE hsm.1,jV,b9 hc];simp only[aD,eF,aT,aS];by_cases h1:c.aQ=e
 ·have he:=hc.1;grind[aM]
 ·simp[h1]
def YV(c:aG)(w e:Int):aG×Bool:=if 0<=e/\e<=c.aQ then(⟨c.aQ,c.cW.set w.toNat ⟨true,e,false,0⟩⟩,true) else(c,false)
theorem a0F{c:aG}(hc:W3 c){w:Int}(hw:0<=w/\w<=2)(e:Int):N3 c w e=some (YV c w e):=by have hsm:=hc.small;unfold N3 BX YV;rw[oE hsm.1,jV,b9 hc,cE,b9 hw,cE];simp only[aD,eF,aT,aS];grind[EF]
def RU(c:aG)(w:Int):aG×Bool:=if(mO c w).On then(⟨c.aQ,c.cW.set w.toNat ⟨false,0,false,0⟩⟩,true) else(c,false)
theorem ZL{c:aG}(hc:W3 c){w:Int}(hw:0<=w/\w<=2):IF c w=some (RU c w):=by have hsm:=hc.small;have hx:=EF hc hw;unfold IF BY RU;rw[oE hsm.1,jV,b9 hc,cE,b9 hw,hx];grind
def aDZ(b:aA)(s:Sub):aA×Sub:=
 if s.Pc=0 then(b,{s with Pc:=1,E:=b.aG.aQ,B:=0})
 else if s.Pc=1 then
  if 0<=s.B/\s.B<=2 then
   if(aL9 b.aG s.B s.E).2 then({b with aG:=(aL9 b.aG s.B s.E).1},{s with Pc:=if s.B=2 then 2 else 1,B:=s.B+1})
   else({b with aG:=(aL9 b.aG s.B s.E).1},RT s 8)
  else(b,RT s 1)
 else if s.Pc=2 then({b with aG:=(aMA b.aG s.E).1},RT {s with Out:=if(aMA b.aG s.E).2 then 1 else s.Out} 0)
 else(b,RT s 1)
theorem aT3{b:aA}(hc:W3 b.aG)(s:Sub):vJ b s=some (aDZ b s):=by
 unfold vJ aDZ;rw[a48 hc,cE];simp only[bQ,uJ,uK,aD];by_cases p0:s.Pc=0
 ·grind
 ·have p0':(s.Pc == 0)=false:=by grind
  simp only[p0',aT,aS,aO p0];by_cases p1:s.Pc=1
  ·have p1':(s.Pc == 1)=true:=by grind
   simp only[p1',aP,aL p1];by_cases hB:0<=s.B/\s.B<=2
   ·have ew:bB (s.B+1)=s.B+1:=aM (by omega) (by omega);simp only[b9 hB,eF,aT,aS,aL hB,a47 hc hB,aD,ew];grind[RT]
   ·simp only[eE hB,o7,aP,aO hB];rfl
  ·have p1':(s.Pc == 1)=false:=by grind
   simp only[p1',aT,aS,aO p1];by_cases p2:s.Pc=2
   ·have p2':(s.Pc == 2)=true:=by grind
    simp only[p2',aP,aL p2];cases h:(aMA b.aG s.E).2<;>rfl
   ·have p2':(s.Pc == 2)=false:=by grind
    simp only[p2',aT,aS,aO p2];rfl
def a8H(b:aA)(w:Int)(s:Sub):aA×Sub:=
 if s.Pc=0 then(b,{s with Pc:=1,E:=b.aG.aQ})
 else if s.Pc=1 then
  if(YV b.aG w s.E).2 then({b with aG:=(YV b.aG w s.E).1},{s with Pc:=2}) else({b with aG:=(YV b.aG w s.E).1},RT s 1)
 else if s.Pc=2 then if b.aG.aQ=s.E then(b,RT s 0) else(b,{s with Pc:=0})
 else(b,RT s 1)
theorem a8I{b:aA}(hc:W3 b.aG){w:Int}(hw:0<=w/\w<=2)(s:Sub):J4 b w s=some (a8H b w s):=by
 unfold J4 a8H;rw[a0F hc hw];simp only[bQ,aD];by_cases p0:s.Pc=0
 ·grind
 ·have p0':(s.Pc == 0)=false:=by grind
  simp only[p0',aT,aS,aO p0];by_cases p1:s.Pc=1
  ·have p1':(s.Pc == 1)=true:=by grind
   simp only[p1',aP,aL p1];cases h:(YV b.aG w s.E).2<;>rfl
  ·have p1':(s.Pc == 1)=false:=by grind
   simp only[p1',aT,aS,aO p1];by_cases p2:s.Pc=2
   ·have p2':(s.Pc == 2)=true:=by grind
    simp only[p2',aP,aL p2];by_cases q:b.aG.aQ=s.E
    ·have q':(b.aG.aQ == s.E)=true:=by grind
     simp only[q',aP,aL q];rfl
    grind
   ·have p2':(s.Pc == 2)=false:=by grind
    simp only[p2',aT,aS,aO p2];rfl
def DY(l:List bM)(w:Int):List eJ:=(l.getD w.toNat ⟨[]⟩).Rows
theorem VC{l:List bM}(hl:tJ l){w:Int}(hw:0<=w/\w<=2):idx l w=some ⟨DY l w⟩:=by have:=hl.1;rw[eW hw.1 (by omega)];simp[DY,M6,l9 (show w.toNat<l.length by omega)]
theorem aPC{l:List bM}(hl:tJ l){w:Int}(hw:0<=w/\w<=2):(DY l w).length<=24:=by
 have h:=VC hl hw;have h3:=hl.1;rw[eW hw.1 (by omega)] at h;injection h with h
 have:=hl.small.2.2.2 _ (dW (show w.toNat<l.length by omega));grind
def aI5(b:aA)(w:Int)(s:Sub):aA×Sub:=
 if s.Pc=0 then(b,{s with Pc:=1,E:=b.aG.aQ})
 else if s.Pc=1 then
  if 0<=s.E/\s.E<=b.aG.aQ then
   if mN b.Mem s.A/\¬cD b.bH (s.A % 32) then({b with bH:=b.bH.set w.toNat ⟨DY b.bH w ++ [⟨s.A,s.E⟩]⟩},RT s 0) else(b,RT s 4)
  else(b,RT s 1)
 else(b,RT s 1)
theorem aWM{b:aA}(hb:nB b){w:Int}(hw:0<=w/\w<=2)(s:Sub):yK b w s=some (aI5 b w s):=by
 have hL:=hb.1.2.2.1;have hm:=hb.1.1;obtain⟨h1,h2,h3,_⟩:=oA.facts hm;have hx:=VC hL hw;have hrow:=aPC hL hw;unfold yK aI5;rw[cE,vO hm.1.1.1 (by omega) (by grind[maxLen]) (by grind[maxLen]),dV];simp only[bQ,aD,wS,GS];by_cases p0:s.Pc=0
 ·grind
 ·have p0':(s.Pc == 0)=false:=by grind
  simp only[p0',aT,aS,aO p0];by_cases p1:s.Pc=1
  ·have p1':(s.Pc == 1)=true:=by grind
   simp only[p1',aP,aL p1];by_cases q1:0<=s.E/\s.E<=b.aG.aQ
   ·simp only[b9 q1,eF,aT,aS,aL q1];by_cases q2:mN b.Mem s.A
    ·have hh:=q2.1;simp only[b9 q2,eF,aT,aS,aL hh,K5 hL,aD];by_cases q3:cD b.bH (s.A % 32)
     ·simp only[b9 q3,aP,aO (show ¬(mN b.Mem s.A/\¬cD b.bH (s.A % 32)) from fun h=>h.2 q3)];rfl
     ·simp only[eE q3,aT,aS,hx,aD,aL (show mN b.Mem s.A/\¬cD b.bH (s.A % 32) from⟨q2,q3⟩)];rw[aK (by simp;omega)];rfl
    ·simp only[eE q2,o7,aP,aO (show ¬(mN b.Mem s.A/\¬cD b.bH (s.A % 32)) from fun h=>q2 h.1)];rfl
   ·simp only[eE q1,o7,aP,aO q1];rfl
  ·have p1':(s.Pc == 1)=false:=by grind
   simp only[p1',aT,aS,aO p1];rfl
def WR(r:eJ)(e:Int):Prop:=2<=e/\r.aQ<=bB (e - 2)
instance (r:eJ) (e:Int):Decidable (WR r e):=by unfold WR;infer_instance
theorem aMB(r:eJ)(e:Int):MZ r e=some (decide (WR r e)):=by unfold MZ MN WR;grind
def LH(l:List eJ)(e:Int)(k:Nat):Nat:=k+(l.drop k).findIdx (fun r=>decide (WR r e))
theorem a49{l:List eJ}(hl:l.length<=1000){from_ e:Int}:zY l from_ e=some (if LH l e from_.toNat<l.length then(LH l e from_.toNat:Int) else -1):=by
 have hst:(if 0<from_ then from_ else 0)=(from_.toNat:Int):=by omega
 unfold zY;rw[hst];have key:∀d k:Nat,l.length<=k+d->loop (fM l e) (k:Int)=some (if LH l e k<l.length then Out.ret (LH l e k:Int) else Out.brk ()):=by
  intro d;induction d with
  | zero =>
   intro k hk;rw[bV (r:=Out.brk ()) (by simp_all[fM,aO]),aO (by grind[LH])]
  | succ d ih =>
   intro k hk;by_cases hkl:k<l.length
   ·have hd:l.drop k=l[k] :: l.drop (k+1):=M5 hkl;by_cases hr:WR l[k] e
    ·have hs:LH l e k=k:=by grind[LH]
     simp_all[bV,fM,aV,aMB]
    ·have hs:LH l e k=LH l e (k+1):=by unfold LH;grind
     rw[bW (s':=((k+1:Nat):Int)) (by simp only[fM];rw[aL (by simp;omega),aV hkl,aD,aMB _ e,aD,eE hr,aO (by simp),aM (by omega) (by omega)];rfl),ih (k+1) (by omega),hs]
   grind
 rw[key l.length from_.toNat (by omega)];split<;>rfl
def KF(m:Mem)(w h:Int):Mem:=
 if h / 32+1<=6 then
  if(gZ m.aB.Own (w*3+bD m.Heap (h % 32)).toNat).length<2 then⟨⟨st4 m.Heap.Bytes (gA (h % 32) (bD m.Heap (h % 32))).toNat (h / 32+1),m.Heap.Class⟩,⟨m.aB.Global,m.aB.Own.set (w*3+bD m.Heap (h % 32)).toNat ⟨gZ m.aB.Own (w*3+bD m.Heap (h % 32)).toNat ++ [h % 32]⟩⟩⟩
  else⟨⟨st4 m.Heap.Bytes (gA (h % 32) (bD m.Heap (h % 32))).toNat (h / 32+1),m.Heap.Class⟩,⟨m.aB.Global.set (bD m.Heap (h % 32)).toNat ⟨gZ m.aB.Global (bD m.Heap (h % 32)).toNat ++ [h % 32]⟩,m.aB.Own⟩⟩
 else⟨⟨st4 m.Heap.Bytes (gA (h % 32) (bD m.Heap (h % 32))).toNat (h / 32+1),m.Heap.Class⟩,m.aB⟩
theorem aMC{m:Mem}(hm:oA m){w h:Int}(hw:0<=w/\w<=2)(hv:mN m h):J2 m w (h % 32)=some (KF m w h):=by
 obtain⟨hcnt,h3,h9,h1,h2,hsm,hcp,hlo,hsG,hsO⟩:=oA.facts hm;have hs:=hm.1.1.1;have hh:=hv.1;have hcl:=jF hv.2.1;have hgo:=HC hcl;have hc2:0<=bD m.Heap (h % 32)/\bD m.Heap (h % 32)<=2:=by obtain⟨_,q,e⟩:=AA hcl;rw[e];exact nN.1 (by omega)
 have hg6:1<=h / 32/\h / 32<=6:=by grind[kW]
 have eo:gA (h % 32) (bD m.Heap (h % 32))=(((gA (h % 32) (bD m.Heap (h % 32))).toNat:Nat):Int):=by omega
 have ew:bB (h / 32+1)=h / 32+1:=aM (by omega) (by omega);unfold J2 KF;rw[jU hs,aD,qW hs hcl,hv.2.2,aD,v8,aD,ew];generalize hgn:(gA (h % 32) (bD m.Heap (h % 32))).toNat=a at eo;rw[eo,K6 (by omega) (by omega) (by omega)];simp only[aD,N2,N0,ew];generalize bD m.Heap (h % 32)=c at *;by_cases q:h / 32+1<=6
 ·have hk:(w*3+c).toNat<m.aB.Own.length:=by omega
  have hx:idx m.aB.Own (w*3+c)=some m.aB.Own[(w*3+c).toNat]:=eW (by omega) (by omega);have hk2:c.toNat<m.aB.Global.length:=by omega
  have hx2:idx m.aB.Global c=some m.aB.Global[c.toNat]:=eW (by omega) (by omega);have b1:=hsO _ (dW hk);have b2:=hsG _ (dW hk2);rw[b9 q,aL rfl,aL q];unfold X0;rw[(TW hw hc2).1];simp only[aD,hx,hx2,NZ,XY,XZ,<-eP hk,<-eP hk2];by_cases q2:m.aB.Own[(w*3+c).toNat].aW.length<2
  ·have y1:(m.aB.Own[(w*3+c).toNat].aW.length:Int)<2:=by omega
   simp only[b9 y1,aP,aL q2];grind[aK]
  ·have y1:¬(m.aB.Own[(w*3+c).toNat].aW.length:Int)<2:=by omega
   simp only[eE y1,aT,aS,aO q2];grind[aK]
 simp_all[aO]
def aMD(z:List Int)(w:Int):Int:=z.getD w.toNat 0
theorem TY{z:List Int}(hz:RO z){w:Int}(hw:0<=w/\w<=2):idx z w=some (aMD z w):=by have:=hz.1;grind[eW,aMD]
def YW(l:List eJ)(k:Int):eJ:=l.getD k.toNat ⟨0,0⟩
theorem aD0{l:List eJ}{k:Int}(h:0<=k/\k<l.length):idx l k=some (YW l k):=by grind[eW,YW]
def WS(l:List eJ)(s:Sub):Prop:=0<=s.Row/\s.Row<l.length/\(YW l s.Row).Handle=s.H
instance (l:List eJ) (s:Sub):Decidable (WS l s):=by unfold WS;infer_instance
def aD1(b:aA)(w:Int)(s:Sub):aA×Sub:=
 if s.Pc=0 then(b,{s with Pc:=1,E:=b.aG.aQ,Row:=0})
 else if s.Pc=1 then
  if LH (DY b.bH w) s.E s.Row.toNat<(DY b.bH w).length then(b,{s with Pc:=2,Row:=(LH (DY b.bH w) s.E s.Row.toNat:Int),B:=0,H:=(YW (DY b.bH w) (LH (DY b.bH w) s.E s.Row.toNat:Int)).Handle})
  else(b,RT s 0)
 else if s.Pc=2 then
  if(0<=s.B/\s.B<=2)/\WS (DY b.bH w) s then
   if aMD b.qZ s.B=s.H then(b,{s with Pc:=1,Row:=s.Row+1}) else(b,{s with Pc:=if s.B=2 then 3 else 2,B:=s.B+1})
  else(b,RT s 1)
 else if s.Pc=3 then
  if WS (DY b.bH w) s/\WR (YW (DY b.bH w) s.Row) s.E then({b with Mem:=KF b.Mem w s.H,bH:=b.bH.set w.toNat ⟨(DY b.bH w).eraseIdx s.Row.toNat⟩},{s with Pc:=1,Out:=bB (s.Out+1)})
  else(b,RT s 1)
 else(b,RT s 1)
theorem aGD{l:List bM}(hl:tJ l){w:Int}(hw:0<=w/\w<=2){r:eJ}(hr:r∈DY l w):r∈cS l:=by
 have h:=VC hl hw;have h3:=hl.1;rw[eW hw.1 (by omega)] at h;injection h with h
 exact aOM.2 ⟨l[w.toNat],dW _,by grind⟩
theorem aT4{l:List eJ}{k:Int}(h:0<=k/\k<l.length):YW l k∈l:=by have:=aD0 h;grind[eW]
theorem aT5{b:aA}(hb:nB b){w:Int}(hw:0<=w/\w<=2)(s:Sub):vK b w s=some (aD1 b w s):=by
 have hL:=hb.1.2.2.1;have hm:=hb.1.1;have hx:=VC hL hw;have hrow:=aPC hL hw;have hfl:=fun r hr=>aGD hL hw (r:=r) hr;unfold vK aD1;rw[hx];simp only[aD,bQ];generalize DY b.bH w=l at *;by_cases p0:s.Pc=0
 ·grind
 have p0':(s.Pc == 0)=false:=by grind
 simp only[p0',aT,aS,aO p0];by_cases p1:s.Pc=1
 ·have p1':(s.Pc == 1)=true:=by grind
  simp only[p1',aP,aL p1,a49 (show l.length<=1000 by omega),aD];by_cases q:LH l s.E s.Row.toNat<l.length
  ·have n:¬(LH l s.E s.Row.toNat:Int)<0:=by omega
   simp only[aL q,eE n,aT,aS,aD0 (l:=l) (k:=(LH l s.E s.Row.toNat:Int)) (by omega),aD]
  ·simp only[aO q,b9 (show(-1:Int)<0 by omega),aP];rfl
 have p1':(s.Pc == 1)=false:=by grind
 simp only[p1',aT,aS,aO p1];have el:bB ((l.length:Int) - 1)=(l.length:Int) - 1:=aM (by omega) (by omega);by_cases p2:s.Pc=2
 ·have p2':(s.Pc == 2)=true:=by grind
  simp only[p2',aP,aL p2,cE,el,aD,fX,uL,bQ];by_cases hB:0<=s.B/\s.B<=2
  ·simp only[b9 hB,eF,aT,aS];by_cases hR:0<=s.Row/\s.Row<=(l.length:Int) - 1
   ·simp only[b9 hR,eF,aT,aS,aD0 (l:=l) (k:=s.Row) (by omega),aD];by_cases hH:(YW l s.Row).Handle=s.H
    ·have hH':((YW l s.Row).Handle != s.H)=false:=by grind
     have ha:(0<=s.B/\s.B<=2)/\WS l s:=⟨hB,hR.1,by omega,hH⟩;have e1:bB (s.B+1)=s.B+1:=aM (by omega) (by omega);have e2:bB (s.Row+1)=s.Row+1:=aM (by omega) (by omega);simp only[hH',aT,aS,aL ha,TY hb.1.2.2.2 hB,aD,e1,e2];grind
    ·have hH':((YW l s.Row).Handle != s.H)=true:=by grind
     have ha:¬((0<=s.B/\s.B<=2)/\WS l s):=fun h=>hH h.2.2.2;simp only[hH',aP,aO ha,aD];rfl
   ·have ha:¬((0<=s.B/\s.B<=2)/\WS l s):=fun h=>hR ⟨h.2.1,by have:=h.2.2.1;omega⟩;simp only[eE hR,o7,aP,aO ha,aD];rfl
  ·have ha:¬((0<=s.B/\s.B<=2)/\WS l s):=fun h=>hB h.1;simp only[eE hB,o7,aP,aO ha,aD];rfl
 have p2':(s.Pc == 2)=false:=by grind
 simp only[p2',aT,aS,aO p2];by_cases p3:s.Pc=3
 ·have p3':(s.Pc == 3)=true:=by grind
  simp only[p3',aP,aL p3,cE,el,aD,fY,DU,bQ];by_cases hR:0<=s.Row/\s.Row<=(l.length:Int) - 1
  ·simp only[b9 hR,eF,aT,aS,aD0 (l:=l) (k:=s.Row) (by omega),aD];by_cases hH:(YW l s.Row).Handle=s.H
   ·have hH':((YW l s.Row).Handle != s.H)=false:=by grind
    simp only[hH',aT,aS,aMB,aD];by_cases hr:WR (YW l s.Row) s.E
    ·have ha:WS l s/\WR (YW l s.Row) s.E:=⟨⟨hR.1,by omega,hH⟩,hr⟩;have e2:bB (s.Row+1)=s.Row+1:=aM (by omega) (by omega);have hlive:=(hb.2 _ (hfl _ (aT4 (l:=l) (k:=s.Row) (by omega)))).1;rw[hH] at hlive;have et:(s.Row+1).toNat=s.Row.toNat+1:=by omega
     simp only[b9 hr,eF,aT,aS,aL ha,e2,dV,aL hlive.1,aD,aMC hm hw hlive,et];grind[aK,del_eq]
    ·have ha:¬(WS l s/\WR (YW l s.Row) s.E):=fun h=>hr h.2;simp only[eE hr,o7,aP,aO ha,aD];rfl
   ·have hH':((YW l s.Row).Handle != s.H)=true:=by grind
    have ha:¬(WS l s/\WR (YW l s.Row) s.E):=fun h=>hH h.1.2.2;simp only[hH',aP,aO ha,aD];rfl
  ·have ha:¬(WS l s/\WR (YW l s.Row) s.E):=fun h=>hR ⟨h.1.1,by have:=h.1.2.1;omega⟩;simp only[eE hR,o7,aP,aO ha,aD];rfl
 ·have p3':(s.Pc == 3)=false:=by grind
  simp only[p3',aT,aS,aO p3];rfl
def iC(b:aA)(w:Int)(s:Sub):aA×Sub:=
 if s.dB then(b,s) else if s.Kind=1 then aRL b w s else if s.Kind=2 then aI5 b w s else if s.Kind=3 then aDZ b s else if s.Kind=4 then aD1 b w s else if s.Kind=5 then a8H b w s else(b,RT s 1)
theorem aD2{b:aA}(hb:nB b){w:Int}(hw:0<=w/\w<=2)(s:Sub):yL b w s=some (iC b w s):=by
 unfold yL iC;rw[a0E hb.1.1 hw,aWM hb hw,aT3 hb.1.2.1,aT5 hb hw,a8I hb.1.2.1 hw];simp only[aD,bQ];cases s.dB
 ·simp only[aT,aS,beq_iff_eq];split<;>(try rfl);split<;>(try rfl);split<;>(try rfl);split<;>(try rfl);split<;>rfl
 ·rfl
theorem a8J{b:aA}(hb:nB b){w:Int}(hw:0<=w/\w<=2)(s:Sub):nB (iC b w s).1:=by obtain⟨x,y,e1,_,h⟩:=step_eq hb hb.small hw s;grind[aD2]
end Go.Gv
end
noncomputable section
namespace Go.Gv
theorem aI6{b:List Int}{a:Nat}{n:Int}(h:a+4<=b.length){j:Nat}(hj:j<a\/a+4<=j):bt (O2 b a n) j=bt b j:=by unfold O2;rw[RS (by simp;omega),RS (by simp;omega),RS (by simp;omega),RS (by omega),aO (by omega),aO (by omega),aO (by omega),aO (by omega)]
theorem YN.put{h:Heap}(hh:YN h){s:Int}(hc:0<=bD h s){n:Int}(hn:0<=n/\n<=4294967295) :
  YN ⟨O2 h.Bytes ((gA s (bD h s)).toNat+4) n,h.Class⟩/\∀t,0<=bD h t->mM ⟨O2 h.Bytes ((gA s (bD h s)).toNat+4) n,h.Class⟩ t=mM h t:=by
 obtain⟨hs,hp⟩:=hh;have h384:=hs.1;have hs':fI ⟨O2 h.Bytes ((gA s (bD h s)).toNat+4) n,h.Class⟩:=⟨by grind[aDV],hs.2.1,aZ8 hs.2.2.1 _ hn,hs.2.2.2⟩;obtain⟨p,i,p6,hi,es,ec,eo,ep⟩:=yU hc;have hcl:0<=cG h p/\cG h p<=2:=nN.1 (by omega);have hroom:8+i*(bE (cG h p)).toNat+8<=64/\∀j,j<(dS (cG h p)).toNat->j*(bE (cG h p)).toNat+4<=i*(bE (cG h p)).toNat+4\/i*(bE (cG h p)).toNat+12<=j*(bE (cG h p)).toNat:=by grind[dS,bE]
 have hgen:∀q j,q<6->j<(dS (cG h q)).toNat->ld (O2 h.Bytes ((gA s (bD h s)).toNat+4) n) (q*64+8+j*(bE (cG h q)).toNat) 4=ld h.Bytes (q*64+8+j*(bE (cG h q)).toNat) 4:=fun q j hq hj=>by
  have hz:=wA hs hq rfl hj;refine VA (by omega) (by grind[aDV]) fun k k1 k2=>?_;by_cases e:q=p
  ·grind[aI6]
  grind[aI6]
 refine⟨⟨hs',fun q hq=>?_⟩,fun t ht=>?_⟩
 ·rw[KE hs' hq];have hold:=(KE hs hq).1 (hp q hq);by_cases e:q=p
  ·subst e;have hcl':¬cG h q<0:=by omega
   unfold aDW at hold ⊢;have hcc:cG ⟨O2 h.Bytes ((gA s (bD h s)).toNat+4) n,h.Class⟩ q=cG h q:=rfl;rw[hcc];rw[aO hcl'] at hold ⊢;obtain⟨⟨a1,a2,a3⟩,a4,a5⟩:=hold;have bs:∀k,k<8->bt (O2 h.Bytes ((gA s (bD h s)).toNat+4) n) (q*64+k)=bt h.Bytes (q*64+k):=fun k hk=>aI6 (by omega) (by omega);have b0:=bs 0 (by omega);grind
  ·refine aDW.same hq hs (by grind[aDV]) rfl (fun k hk=>aI6 (by omega) (by omega)) hold
 ·obtain⟨p',i',p6',hi',es',ec',eo',ep'⟩:=yU ht;have e2:bD ⟨O2 h.Bytes ((gA s (bD h s)).toNat+4) n,h.Class⟩ t=bD h t:=rfl;grind[mM]
theorem oA.put{m:Mem}(hm:oA m){s:Int}(hc:0<=bD m.Heap s){n:Int}(hn:0<=n/\n<=4294967295):vP m ⟨⟨O2 m.Heap.Bytes ((gA s (bD m.Heap s)).toNat+4) n,m.Heap.Class⟩,m.aB⟩ (-1):=by obtain⟨a,b⟩:=YN.put hm.1.1 hc hn;refine⟨oA.heap hm a fun x hx=>⟨rfl,b x (oA.tC hm hx).1⟩,fun t ht _=>?_⟩;have ht':=qO.1 ht;have e:=b t ht'.1;exact⟨qO.2 ⟨ht'.1,ht'.2.1,by grind⟩,e,rfl⟩
theorem start_eq{h:Heap}(hs:fI h){s:Int}(hc:0<=bD h s):MM s (bD h s)=some (gA s (bD h s)+4)/\FM s (bD h s)=some (gA s (bD h s)+4):=by have hg:=HC hc;unfold MM FM;rw[v8,B6,aD,aO (by simp;omega),aM (by omega) (by omega)];simp
theorem aME{h:Heap}(hs:fI h){s:Int}(hc:0<=bD h s):zE h s 0 4=some (gA s (bD h s)+4):=by
 have hg:=HC hc;have hc2:0<=bD h s/\bD h s<=2:=by obtain⟨_,q,e⟩:=AA hc;rw[e];exact nN.1 (by omega)
 have hz:8<=gH (bD h s)/\gH (bD h s)<=40:=by rcases oL hc2 with e | e | e<;>rw[e]<;>decide
 unfold zE UJ;rw[iY hs,aD,(start_eq hs hc).2,aD,aO (by simp;omega),OG];grind[eC,aM]
theorem aGE{n:Int}(hn:0<=n/\n<=65535):∃t:List UInt8,UO n 4=some t/\(t == [])=false:=by
 have st:∀(m:Int) (c:List UInt8) (i:Nat),c.length<=4->i<4->0<=m->m<=4294967295->JE 4 (m,c,(i:Int))=some (.next (m / 256,[u8 (m % 256)]++c,((i+1:Nat):Int))):=fun m c i hc hi h0 h1=>by simp only[JE];rw[aL (by simp;omega),aK (by simp;omega),OF h0,aLL h0,aM (x:=m / 256) (by omega) (by omega),aM (by omega) (by omega)];rfl
 unfold UO;rw[cE];simp only[aD,show(decide ((1:Int)<=4/\(4:Int)<=7))=true from rfl,eF,aT,aS,Q8,eE (show ¬n<0 by omega)];rw[show(0:Int)=((0:Nat):Int) from rfl,bW (st n [] 0 (by simp) (by omega) hn.1 (by omega)),bW (st _ _ 1 (by simp) (by omega) (by omega) (by omega)),bW (st _ _ 2 (by simp) (by omega) (by omega) (by omega)),bW (st _ _ 3 (by simp) (by omega) (by omega) (by omega)),bV (by simp only[JE];rw[aO (by simp)])];simp only[aD,aAF,aAE];rw[aO (by simp;omega)];simp
theorem aWN{m:Mem}(hm:oA m){h n:Int}(hn:0<=n/\n<=65535):∃x c,GR m h 0 4 n=some (x,c)/\L7 m h 0 4 n=some (x,c)/\vP m x (-1)/\(c≠0->x=m):=by
 obtain⟨hcnt,h3,h9,h1,h2,hsm,hcp,hlo,hsG,hsO⟩:=oA.facts hm;have hs:=hm.1.1.1;have hbl:m.Heap.Bytes.length<=maxLen:=by grind[maxLen]
 have hall:(eU m.aB).length<=1073741824:=by omega
 have hg:m.aB.Global.length<=maxLen:=by omega
 have ho:m.aB.Own.length<=maxLen:=by omega
 have hw4:jQ 4=some true:=by grind[jQ,eC]
 unfold GR L7 XX XQ;rw[aGB hsm,QF hsm,RN hbl hall,JK hbl hall,b9 hm,cE,hw4,OL ⟨hn.1,by omega⟩];simp only[aD,eF,aT,aS,GQ,FN,show(decide ((1:Int)<=4/\(4:Int)<=7))=true from rfl,vO hs hall hg ho,HE hs hall hg ho];by_cases hv:mN m h
 ·have hh:=hv.1;have hcl:=jF hv.2.1;have hgo:=HC hcl;have hc2:0<=bD m.Heap (h % 32)/\bD m.Heap (h % 32)<=2:=by obtain⟨_,q,e⟩:=AA hcl;rw[e];exact nN.1 (by omega)
  have hz:8<=gH (bD m.Heap (h % 32))/\gH (bD m.Heap (h % 32))<=40:=by rcases oL hc2 with e | e | e<;>rw[e]<;>decide
  obtain⟨p,i,p6,hi,es,ec,eo,ep⟩:=yU hcl;have hroom:(gA (h % 32) (bD m.Heap (h % 32))).toNat+8<=384:=by
   rw[eo];have hcl':0<=cG m.Heap p/\cG m.Heap p<=2:=by rw[<-ec];exact hc2
   generalize cG m.Heap p=c at hi hcl';rcases oL hcl' with rfl | rfl | rfl
   ·rw[show(dS 0).toNat=4 from rfl] at hi;rw[show(bE 0).toNat=12 from rfl];omega
   ·rw[show(dS 1).toNat=2 from rfl] at hi;rw[show(bE 1).toNat=20 from rfl];omega
   ·rw[show(dS 2).toNat=1 from rfl] at hi;rw[show(bE 2).toNat=44 from rfl];omega
  simp only[b9 hv,eF,aT,aS,dV,aL hh,aD,jU hs,sY,cE,hh.mod.1,aME hs hcl];rw[aM (x:=gH (bD m.Heap (h % 32)) - 1) (by omega) (by omega),b9 (show(0:Int)<=0/\(0:Int)<=gH (bD m.Heap (h % 32)) - 1 by omega),aM (x:=gH (bD m.Heap (h % 32)) - 0) (by omega) (by omega),eE (show ¬gH (bD m.Heap (h % 32)) - 0<4 by omega)];simp only[eF,aT,aS,GP,(start_eq hs hcl).1,aD];rw[aM (x:=gA (h % 32) (bD m.Heap (h % 32))+4+0) (by omega) (by omega),Int.add_zero,eE (show ¬gA (h % 32) (bD m.Heap (h % 32))+4<0 by omega)];have eo':gA (h % 32) (bD m.Heap (h % 32))+4=(((gA (h % 32) (bD m.Heap (h % 32))).toNat+4:Nat):Int):=by omega
  have hput:=oA.put hm hcl (n:=n) ⟨hn.1,by omega⟩;have hspf:∃t:List UInt8,UO n 4=some t/\(t == [])=false:=aGE hn;obtain⟨t,ht1,ht2⟩:=hspf;have hld:jR m.Heap.Bytes (((gA (h % 32) (bD m.Heap (h % 32))).toNat+4:Nat):Int) 4=some (ld m.Heap.Bytes ((gA (h % 32) (bD m.Heap (h % 32))).toNat+4) 4):=nA hs.2.2.1 (w:=4) (by omega) (by omega) (by omega);rw[eo',hld];simp only[aD,aT,aS,bne_self_eq_false,ht1,ht2,show(HF n == [])=false from rfl];rw[aFO (by omega) (by omega) ⟨hn.1,by omega⟩,aL0 (by omega) (by omega) ⟨hn.1,by omega⟩];exact⟨_,_,rfl,rfl,hput,fun q=>absurd rfl q⟩
 ·simp only[eE hv,o7,aP,aD,show((4:Int) != 0)=true from rfl];grind[vP.refl]
theorem aWO{b:aA}(hm:oA b.Mem)(h:Int):∃r,QA b.Mem.Heap h 0 4=some r/\L8 b h 0 4=some r:=by
 have hs:=hm.1.1.1;have h1:=hs.1;have hbl:b.Mem.Heap.Bytes.length<=maxLen:=by grind[maxLen]
 have hw4:jQ 4=some true:=by grind[jQ,eC]
 unfold QA L8 tT;rw[fP,fQ,cE,hw4,HB hbl,b9 hs];simp only[aD,GX,uV,show(decide ((1:Int)<=4/\(4:Int)<=7))=true from rfl,eF,aT,aS];by_cases hh:kW h
 ·simp only[b9 hh,eF,aT,aS,dV,aL hh,aD,jU hs,iY hs,hh.mod.1];by_cases hcl:bD b.Mem.Heap (h % 32)<0
  ·simp_all[oX]
  ·have hcl':0<=bD b.Mem.Heap (h % 32):=by omega
   have hgo:=HC hcl';have hc2:0<=bD b.Mem.Heap (h % 32)/\bD b.Mem.Heap (h % 32)<=2:=by obtain⟨_,q,e⟩:=AA hcl';rw[e];exact nN.1 (by omega)
   have hz:8<=gH (bD b.Mem.Heap (h % 32))/\gH (bD b.Mem.Heap (h % 32))<=40:=by rcases oL hc2 with e | e | e<;>rw[e]<;>decide
   obtain⟨p,i,p6,hi,es,ec,eo,ep⟩:=yU hcl';have hroom:(gA (h % 32) (bD b.Mem.Heap (h % 32))).toNat+8<=384:=by grind[bE]
   simp only[eE hcl,aT,aS,sY,cE,aD,aME hs hcl'];rw[aM (x:=gH (bD b.Mem.Heap (h % 32)) - 1) (by omega) (by omega),b9 (show(0:Int)<=0/\(0:Int)<=gH (bD b.Mem.Heap (h % 32)) - 1 by omega),aM (x:=gH (bD b.Mem.Heap (h % 32)) - 0) (by omega) (by omega),eE (show ¬gH (bD b.Mem.Heap (h % 32)) - 0<4 by omega)];simp only[eF,aT,aS,oX,dV,aL hh,(start_eq hs hcl').1,aD];rw[aM (x:=gA (h % 32) (bD b.Mem.Heap (h % 32))+4+0) (by omega) (by omega),Int.add_zero,eE (show ¬gA (h % 32) (bD b.Mem.Heap (h % 32))+4<0 by omega)];have eo':gA (h % 32) (bD b.Mem.Heap (h % 32))+4=(((gA (h % 32) (bD b.Mem.Heap (h % 32))).toNat+4:Nat):Int):=by omega
   have hld:jR b.Mem.Heap.Bytes (((gA (h % 32) (bD b.Mem.Heap (h % 32))).toNat+4:Nat):Int) 4=some (ld b.Mem.Heap.Bytes ((gA (h % 32) (bD b.Mem.Heap (h % 32))).toNat+4) 4):=nA hs.2.2.1 (w:=4) (by omega) (by omega) (by omega);have hls:xZ b.Mem.Heap.Bytes (((gA (h % 32) (bD b.Mem.Heap (h % 32))).toNat+4:Nat):Int) 4=some (ld b.Mem.Heap.Bytes ((gA (h % 32) (bD b.Mem.Heap (h % 32))).toNat+4) 4):=HA hs.2.2.1 (w:=4) (by omega) (by omega) (by omega);rw[eo',hld,hls];simp
 simp_all
end Go.Gv
end
noncomputable section
namespace Go.Gv
theorem aT6{l:List kE}(hl:l.length<=maxLen)(f:kE->Bool)(g:kE->Option Bool)(hg:∀x∈l,g x=some (f x)):nT l g=some (l.any f):=by
 obtain⟨o,e,h⟩:=TQ l f (body:=nS l g) (fun k hk=>by
  simp only[nS];rw[aL (by simp;omega),aV hk,lC (H0 hk hl)];grind) (by simp[nS])
 grind[nT,AO,E2,E1]
theorem aMF{l:List Queue}(hl:l.length<=maxLen)(f:Queue->Bool)(g:Queue->Option Bool)(hg:∀x∈l,g x=some (f x)):lG l g=some (l.any f):=by
 obtain⟨o,e,h⟩:=TQ l f (body:=lF l g) (fun k hk=>by
  simp only[lF];rw[aL (by simp;omega),aV hk,lC (H0 hk hl)];grind) (by simp[lF])
 grind[lG,tQ,AH,AG]
def HH(k:Int):Prop:=k=1\/k=2\/k=3\/k=7
instance (k:Int):Decidable (HH k):=by unfold HH;infer_instance
def tD(o:kE):Prop:=(1<=o.Kind/\o.Kind<=7)/\(HH o.Kind\/o.Cell=0)/\(0<=o.Cell/\o.Cell<=1)/\if o.Kind=1 then(0<=o.lY/\o.lY<=100)/\0<=o.cK/\o.cK<=65535 else o.lY=0/\o.cK=0
instance (o:kE):Decidable (tD o):=by unfold tD;infer_instance
theorem hb0(x:Int):(x == 0)=decide (x=0):=by grind
theorem bB0:HH 1:=.inl rfl
theorem aPD(k:Int):xB k=some (decide (HH k)):=by grind[xB,mQ,HH]
theorem aRM(o:kE):ZF o=some (decide (tD o)):=by
 unfold ZF ET LM LN tD;rw[cE,aPD,cE,cE,cE];by_cases h1:1<=o.Kind/\o.Kind<=7
 ·by_cases h2:HH o.Kind
  ·by_cases h3:0<=o.Cell/\o.Cell<=1
   ·by_cases h4:o.Kind=1
    ·by_cases h5:0<=o.lY/\o.lY<=100<;>simp[h1,h2,h3,h4,h5,bB0]<;>exact hb0 _
    grind
   grind
  ·by_cases h0:o.Cell=0
   ·by_cases h4:o.Kind=1
    ·exact absurd (.inl h4) h2
    grind
   grind
 ·simp[h1]
theorem aRN(o:kE):SY o=some (decide (tD o)):=by
 have key:∀x,pY o x=if 1<=o.Kind/\o.Kind<=7 then(if x then some (decide ((0<=o.Cell/\o.Cell<=1)/\if o.Kind=1 then(0<=o.lY/\o.lY<=100)/\0<=o.cK/\o.cK<=65535 else o.lY=0/\o.cK=0):Bool) else some (decide (o.Cell=0/\if o.Kind=1 then(0<=o.lY/\o.lY<=100)/\0<=o.cK/\o.cK<=65535 else o.lY=0/\o.cK=0))) else some false:=fun x=>by
  unfold pY E3 LS LU;rw[eC,eC,eC,eC];by_cases h1:1<=o.Kind/\o.Kind<=7
  ·cases x
   ·by_cases h0:o.Cell=0
    ·by_cases h4:o.Kind=1
     ·by_cases h5:0<=o.lY/\o.lY<=100<;>simp[h1,h0,h4,h5,bB0]<;>exact hb0 _
     grind
    grind
   ·by_cases h3:0<=o.Cell/\o.Cell<=1
    ·by_cases h4:o.Kind=1
     ·by_cases h5:0<=o.lY/\o.lY<=100<;>simp[h1,h3,h4,h5,bB0]<;>exact hb0 _
     grind
    grind
  ·simp[h1]
 have key2:SY o=pY o (decide (HH o.Kind)):=by unfold SY HH;grind
 rw[key2,key];unfold tD;by_cases h1:1<=o.Kind/\o.Kind<=7
 ·by_cases h2:HH o.Kind
  ·simp only[h1,h2,and_self,decide_true,aP,true_or,true_and]
  ·by_cases h0:o.Cell=0
   ·simp[h1,h2,h0]
   ·simp[h1,h2,h0]
 ·simp[h1]
theorem aD3(h:Int):xQ h=some (decide (eV h)):=by grind[xQ,xP,eV,fQ]
def aT7(l:List kE):Prop:=∀o∈l,tD o
instance (l:List kE):Decidable (aT7 l):=by unfold aT7;infer_instance
def QOk(q:Queue):Prop:=q.lX.length<=12/\aT7 q.lX
instance (q:Queue):Decidable (QOk q):=by unfold QOk;infer_instance
def YX(l:List Queue):Prop:=l.length=3/\∀q∈l,QOk q
instance (l:List Queue):Decidable (YX l):=by unfold YX;infer_instance
theorem aRO{l:List Queue}(hl:l.length<=maxLen):LO l=some (decide (YX l)):=by
 unfold LO;have inner:∀k (hk:k<l.length),l[k].lX.length<=12->loop (pH l (k:Int)) 0=some (if aT7 l[k].lX then Out.brk () else Out.ret false):=by
  intro k hk h12;have hb:∀j (hj:j<l[k].lX.length),pH l (k:Int) (j:Int)=if tD l[k].lX[j] then some (.next ((j+1:Nat):Int)) else some (.stop (Out.ret false)):=by intro j hj;simp only[pH];rw[aV hk,aD,aL (by simp;omega),aD,aV hj,aD,aRM,aD,aM (by omega) (by omega)];simp
  have:=kV (f:=pH l (k:Int)) l[k].lX (fun j=>(j:Int)) tD (Out.brk ()) (Out.ret false) (fun j hj hp=>by grind) (fun j hj hp=>by grind) (by
   simp_all[pH,aV])
  refine Eq.trans this ?_;congr 1
 have hs:∀k (hk:k<l.length),pI l (k:Int)=if QOk l[k] then some (.next ((k+1:Nat):Int)) else some (.stop (Out.ret false)):=by
  intro k hk;simp only[pI];rw[aL (by simp;omega),aV hk,aD];by_cases h12:l[k].lX.length<=12
  ·rw[aO (by simp;omega),inner k hk h12];by_cases q:aT7 l[k].lX
   ·rw[aL q,aL ⟨h12,q⟩];grind[VO,VN,lC]
   ·rw[aO q,aO (fun a=>q a.2)];rfl
  ·rw[aL (by simp;omega),aO (fun a=>h12 a.1)]
 have key:loop (pI l) 0=_:=kV (f:=pI l) l (fun k=>(k:Int)) QOk (Out.brk ()) (Out.ret false) (fun k hk hp=>by grind) (fun k hk hp=>by grind) (by simp[pI]);rw[key];by_cases q:∀x∈l,QOk x
 ·rw[aL q];simp only[aD,VQ,VM];congr 1;rw[QJ];simp only[beq_iff_eq,decide_eq_true_eq];exact⟨fun a=>⟨by omega,q⟩,fun a=>by have:=a.1;omega⟩
 ·rw[aO q,eE (show ¬YX l from fun a=>q a.2)];rfl
theorem aRP{l:List Queue}(hl:l.length<=maxLen)(hq:∀q∈l,q.lX.length<=maxLen):PT l=some (decide (YX l)):=by
 have e1:∀q∈l,IW q=some (!decide (QOk q)):=by
  intro q hm;unfold IW y5;have e:∀x∈q.lX,CC x=some (!decide (tD x)):=fun x _=>by grind[CC,aRN]
  rw[aT6 (hq q hm) (fun x=>!decide (tD x)) _ e,ZH];by_cases h:q.lX.length<=12
  ·rw[aO (by simp;omega)];by_cases h2:∀x∈q.lX,tD x
   ·rw[b9 h2,b9 (show QOk q from⟨h,h2⟩)];rfl
   ·rw[eE h2,eE (show ¬QOk q from fun a=>h2 a.2)];rfl
  ·rw[aL (by simp;omega),eE (show ¬QOk q from fun a=>h a.1)];rfl
 unfold PT E4;rw[aMF hl (fun q=>!decide (QOk q)) _ e1,ZH];by_cases h:l.length=3
 ·rw[aL (by simp;omega)];grind[YX]
 ·rw[aO (by simp;omega),eE (show ¬YX l from fun a=>h a.1)]
def aT8:fU:=⟨false,⟨0,0,0,0⟩,0,0,⟨0,0,0,0,0,0,0,0,0,false⟩,0,0,0,0⟩
def JOk(j:fU):Prop:=if j.iI then tD j.Op/\eV j.H/\eV j.Old else j=aT8
instance (j:fU):Decidable (JOk j):=by unfold JOk;infer_instance
theorem YY{j:fU}(hb:j.iI=true):JOk j↔tD j.Op/\eV j.H/\eV j.Old:=by simp_all[JOk]
theorem aT9{j:fU}(hb:j.iI=false):JOk j↔j=aT8:=by simp_all[JOk]
def SOk(s:aE):Prop:=nB s.aA/\s.Cells.length=2/\s.aH.length=3/\YX s.cC/\(0<=s.aI/\s.aI<=1000000)/\(∀h∈s.Cells,eV h)/\∀j∈s.aH,JOk j
instance (s:aE):Decidable (SOk s):=by unfold SOk;infer_instance
end Go.Gv
end
noncomputable section
namespace Go.Gv
theorem ON{α:Type}{l:List α}{w:Int}(h0:0<=w)(h1:w<l.length)(x:α):idx (l.set w.toNat x) w=some x:=by simp_all[idx]
theorem iH{a b:Int}(h:¬a=b):(a == b)=false:=by grind
theorem VD{a b:Int}(h:¬a=b):(a != b)=true:=by grind
theorem aD5{c:aG}(hc:W3 c){w:Int}(hw:0<=w/\w<=2):∃r,IF c w=some r/\UK c w=some r/\W3 r.1/\r.1.aQ=c.aQ:=by
 obtain⟨p,hp,hpk⟩:=aFN hc hw;unfold IF UK;rw[oE hc.small.1,JL hc.small.1,jV,C6 hc.small.2,kD,cE,b9 hc,b9 hw];simp only[aD,eF,aT,aS,hp,BY,BH];cases p.On with
 | true =>
  simp only[eF,aT,aS];have h0:=hc.1;exact⟨_,rfl,rfl,hc.aRF ⟨by grind,by simp,fun _=>rfl⟩,rfl⟩
 | false=>simp_all
theorem RO.set{z:List Int}(hz:RO z)(k:Nat){h:Int}(hh:eV h):RO (z.set k h):=⟨by simpa using hz.1,fun q hq=>(oC hq).elim (hz.2 q) (fun e=>e ▸ hh)⟩
theorem aWP{z:List Int}(hz:RO z){w:Int}(hw:0<=w/\w<=2)(h:Int):∃r,GW z w h=some r/\MA z w h=some r/\RO r.1:=by
 have h3:=hz.1;have hx:idx z w=some (z[w.toNat]'(by omega)):=eW hw.1 (by omega);unfold GW MA;rw[II (by omega),AB (by omega),B8 (by grind[maxLen]),aAQ (by grind[maxLen]),b9 hz,cE,kD,b9 hw,fP,fQ];simp only[aD,eF,aT,aS,vL,uW,hx];by_cases q:kW h
 ·simp only[b9 q,eF,aT,aS];exact⟨_,rfl,rfl,hz.set _ (.inr q)⟩
 simp_all
theorem a5A{z:List Int}(hz:RO z){w:Int}(hw:0<=w/\w<=2):∃r,N4 z w=some r/\UL z w=some r/\RO r.1:=by
 have h3:=hz.1;have hx:idx z w=some (z[w.toNat]'(by omega)):=eW hw.1 (by omega);unfold N4 UL;rw[II (by omega),AB (by omega),B8 (by grind[maxLen]),aAQ (by grind[maxLen]),b9 hz,cE,kD,b9 hw];simp only[aD,eF,aT,aS,BZ,BI,hx];by_cases q:(z[w.toNat]'(by omega))=0
 ·simp_all
 ·simp only[iH q,aT,aS];exact⟨_,rfl,rfl,hz.set _ (.inl rfl)⟩
theorem nB.clock{b:aA}(hb:nB b){cl:aG}(h:W3 cl)(e:b.aG.aQ<=cl.aQ):nB ⟨b.Mem,cl,b.bH,b.qZ⟩:=⟨⟨hb.1.1,h,hb.1.2.2⟩,fun r hr=>⟨(hb.2 r hr).1,Int.le_trans (hb.2 r hr).2 e⟩⟩
theorem nB.haz{b:aA}(hb:nB b){z:List Int}(h:RO z):nB ⟨b.Mem,b.aG,b.bH,z⟩:=⟨⟨hb.1.1,hb.1.2.1,hb.1.2.2.1,h⟩,hb.2⟩
theorem nB.mem{b:aA}(hb:nB b){m:Mem}(h:vP b.Mem m (-1)):nB ⟨m,b.aG,b.bH,b.qZ⟩:=⟨⟨h.1,hb.1.2⟩,fun r hr=>⟨h.live (hb.2 r hr).1 (by omega),(hb.2 r hr).2⟩⟩
theorem SOk.put{s:aE}(hs:SOk s){w:Int}{b:aA}(hb:nB b){c:List Int}(hc:c.length=2/\∀h∈c,eV h){j:fU}(hj:JOk j)(l:List Ev):SOk ⟨b,c,s.aH.set w.toNat j,s.cC,l,s.aI⟩:=
 ⟨hb,hc.1,by simpa using hs.2.2.1,hs.2.2.2.1,hs.2.2.2.2.1,hc.2,fun q hq=>(oC hq).elim (hs.2.2.2.2.2.2 q) (fun e=>e ▸ hj)⟩
theorem dO{j:fU}(h:j.iI=true)(h1:tD j.Op/\eV j.H/\eV j.Old):JOk j:=(YY h).2 h1
noncomputable section
variable {s:aE} (hs:SOk s) (hl:s.Log.length<=1000000000) {w:Int} (hw:0<=w/\w<=2) {j:fU} (hj:idx s.aH w=some j) (hb:j.iI=true) (hjo:tD j.Op/\eV j.H/\eV j.Old)
include hs hl hw hj hb hjo
theorem bB1(hk:j.Op.Kind=1):∃x,((J5 s w j).bind fun q=>dA w q.1 q.2)=some x/\FR s w=some x/\SOk x/\x.Log.length<=s.Log.length+1:=by
 have h3:=hs.2.2.1;have hset:∀x,idx (s.aH.set w.toNat x) w=some x:=ON hw.1 (by omega);have hn:∀(e:Ev) {α:Type} (k:Option α),need (s.Log.length + [e].length<=1073741824) k=k:=fun e _ k=>aK (by simp;omega) k;have hcs:s.Cells.length=2/\∀h∈s.Cells,eV h:=⟨hs.2.1,hs.2.2.2.2.2.1⟩;have hcell:idx s.Cells j.Op.Cell=some (s.Cells[j.Op.Cell.toNat]'(by have:=hjo.1.2.2.1;omega)):=eW hjo.1.2.2.1.1 (by have:=hjo.1.2.2.1;omega);have hcm:eV (s.Cells[j.Op.Cell.toNat]'(by grind)):=hcs.2 _ (dW _);generalize (s.Cells[j.Op.Cell.toNat]'(by grind))=cell at hcell hcm;have hval:0<=j.Op.cK/\j.Op.cK<=65535:=by have:=hjo.1.2.2.2;grind
 unfold J5 FR;rw[hj];simp only[aD,bI,bS,dY,dA,iU,eO];by_cases p0:j.Pc=0
 ·obtain⟨x,y,e1,e2,hx⟩:=step_eq hs.1 hs.1.small hw j.Sub;simp only[p0,beq_self_eq_true,aP,e1,e2,aD];cases hd:y.dB with
  | false=>simp only[o7,aP,aD,hj];exact⟨_,rfl,rfl,hs.put hx hcs (by grind[dO]) _,jC _⟩
  | true =>
   simp only[eF,aT,aS];by_cases c0:y.Code=0
   ·simp only[c0,bne_self_eq_false,aT,aS,fP,fQ,aD];by_cases o0:kW y.Out
    ·simp only[b9 o0,eF,aT,aS,aD,hj];exact⟨_,rfl,rfl,hs.put hx hcs (by exact dO hb ⟨hjo.1,.inr o0,hjo.2.2⟩) _,jC _⟩
    ·simp only[eE o0,o7,aP,aD,hj];exact⟨_,rfl,rfl,hs.put hx hcs (by grind[dO]) _,jC _⟩
   ·simp only[VD c0,aP,aD,hj];exact⟨_,rfl,rfl,hs.put hx hcs (by grind[dO]) _,jC _⟩
 simp only[iH p0,aT,aS];by_cases p1:j.Pc=1
 ·obtain⟨x,c,e1,e2,h1,h2⟩:=aWN hs.1.1.1 (h:=j.H) hval;simp only[p1,beq_self_eq_true,aP,e1,e2,aD,FO,hj,bS,dY];by_cases c0:c=0
  ·simp only[c0,bne_self_eq_false,aT,aS,aD,hj];exact⟨_,rfl,rfl,hs.put (hs.1.mem h1) hcs (by grind[dO]) _,jC _⟩
  ·have:=h2 c0;subst this;simp only[VD c0,aP,aD,hj];exact⟨_,rfl,rfl,hs.put hs.1 hcs (by grind[dO]) _,jC _⟩
 simp only[iH p1,aT,aS];by_cases p2:j.Pc=2
 ·have hc2:(s.Cells.set j.Op.Cell.toNat j.H).length=2/\∀h∈s.Cells.set j.Op.Cell.toNat j.H,eV h:=⟨by grind,fun q hq=>(oC hq).elim (hcs.2 q) (fun e=>e ▸ hjo.2.1)⟩;simp only[p2,beq_self_eq_true,aP,hcell,aD,hset,hn,FQ,dU,eG,FP,bS,dY,eO];by_cases c0:cell=0
  ·simp only[c0,beq_self_eq_true,aP,aD,hj,K8];exact⟨_,rfl,rfl,hs.put hs.1 hc2 (by grind[dO]) _,by simp⟩
  ·simp only[iH c0,aT,aS,aD,hj,K8];exact⟨_,rfl,rfl,hs.put hs.1 hc2 (by grind[dO]) _,by simp⟩
 simp only[iH p2,aT,aS];by_cases p3:j.Pc=3
 ·obtain⟨x,y,e1,e2,hx⟩:=step_eq hs.1 hs.1.small hw j.Sub;simp only[p3,beq_self_eq_true,aP,e1,e2,aD];cases hd:y.dB with
  | false=>simp only[o7,aP,aT,aS,aD,hj];exact⟨_,rfl,rfl,hs.put hx hcs (by grind[dO]) _,jC _⟩
  | true=>simp only[eF,aP,aT,aS,aD,hj];exact⟨_,rfl,rfl,hs.put hx hcs (by grind[dO]) _,jC _⟩
 simp only[iH p3,aT,aS,aD,hj];exact⟨_,rfl,rfl,hs.put hs.1 hcs (by grind[dO]) _,jC _⟩
theorem get_eq(hk:j.Op.Kind=2):∃x,((J6 s w j).bind fun q=>dA w q.1 q.2)=some x/\FT s w=some x/\SOk x/\x.Log.length<=s.Log.length+1:=by
 have h3:=hs.2.2.1;have hset:∀x,idx (s.aH.set w.toNat x) w=some x:=ON hw.1 (by omega);have hn:∀(e:Ev) {α:Type} (k:Option α),need (s.Log.length + [e].length<=1073741824) k=k:=fun e _ k=>aK (by simp;omega) k;have hcs:s.Cells.length=2/\∀h∈s.Cells,eV h:=⟨hs.2.1,hs.2.2.2.2.2.1⟩;have hcell:idx s.Cells j.Op.Cell=some (s.Cells[j.Op.Cell.toNat]'(by have:=hjo.1.2.2.1;omega)):=eW hjo.1.2.2.1.1 (by have:=hjo.1.2.2.1;omega);have hcm:eV (s.Cells[j.Op.Cell.toNat]'(by grind)):=hcs.2 _ (dW _);generalize (s.Cells[j.Op.Cell.toNat]'(by grind))=cell at hcell hcm;obtain⟨pn,hpn,_⟩:=aFN hs.1.1.2.1 hw;unfold J6 FT;rw[hj];simp only[aD,bI,bS,dY,dA];by_cases p0:j.Pc=0
 ·obtain⟨x,y,e1,e2,hx⟩:=step_eq hs.1 hs.1.small hw j.Sub;simp only[p0,beq_self_eq_true,aP,e1,e2,aD];cases hd:y.dB with
  | false=>simp only[o7,aP,aT,aS,aD,hj];exact⟨_,rfl,rfl,hs.put hx hcs (by grind[dO]) _,jC _⟩
  | true=>simp only[eF,aP,aT,aS,aD,hj];exact⟨_,rfl,rfl,hs.put hx hcs (by grind[dO]) _,jC _⟩
 simp only[iH p0,aT,aS];by_cases p1:j.Pc=1
 ·simp only[p1,beq_self_eq_true,aP,hcell,aD,kS,hn,xO,hj,dU,eG,hset];by_cases c0:cell=0
  ·simp only[c0,beq_self_eq_true,aP,aD,hj,K8];exact⟨_,rfl,rfl,hs.put hs.1 hcs (by grind[dO]) _,by simp⟩
  ·simp only[iH c0,aT,aS,aD,hj,K8];exact⟨_,rfl,rfl,hs.put hs.1 hcs (by grind[dO]) _,by simp⟩
 simp only[iH p1,aT,aS];by_cases p2:j.Pc=2
 ·obtain⟨r,e1,e2⟩:=aWO hs.1.1.1 j.H;simp only[p2,beq_self_eq_true,aP,qN,m7,hj,e1,e2,aD,hset,K8];exact⟨_,rfl,rfl,hs.put hs.1 hcs (by grind[dO]) _,jC _⟩
 simp only[iH p2,aT,aS];by_cases p3:j.Pc=3
 ·simp only[p3,beq_self_eq_true,aP,v7,nF,hj,hpn,aD,dY,lT,jH,oK,bI];cases pn.On with
  | false=>simp only[aT,aS,aD,o7,aP,hj];exact⟨_,rfl,rfl,hs.put hs.1 hcs (by grind[dO]) _,jC _⟩
  | true =>
   simp only[aP,aD];cases pn.fB with
   | false=>simp only[aT,aS,aD,o7,eF,aP,hj];exact⟨_,rfl,rfl,hs.put hs.1 hcs (by grind[dO]) _,jC _⟩
   | true=>simp only[aT,aS,aD,o7,eF,aP,hj];exact⟨_,rfl,rfl,hs.put hs.1 hcs (by grind[dO]) _,jC _⟩
 simp only[iH p3,aT,aS];by_cases p4:j.Pc=4
 ·obtain⟨r,e1,e2,h1,h2⟩:=aD5 hs.1.1.2.1 hw;simp only[p4,beq_self_eq_true,aP,e1,e2,k9,aD,hj];exact⟨_,rfl,rfl,hs.put (hs.1.clock h1 (by omega)) hcs (by grind[dO]) _,jC _⟩
 simp only[iH p4,aT,aS,aD,hj];exact⟨_,rfl,rfl,hs.put hs.1 hcs (by grind[dO]) _,jC _⟩
theorem bB2(hk:j.Op.Kind=3):∃x,((J7 s w j).bind fun q=>dA w q.1 q.2)=some x/\FW s w=some x/\SOk x/\x.Log.length<=s.Log.length+1:=by
 have h3:=hs.2.2.1;have hset:∀x,idx (s.aH.set w.toNat x) w=some x:=ON hw.1 (by omega);have hn:∀(e:Ev) {α:Type} (k:Option α),need (s.Log.length + [e].length<=1073741824) k=k:=fun e _ k=>aK (by simp;omega) k;have hcs:s.Cells.length=2/\∀h∈s.Cells,eV h:=⟨hs.2.1,hs.2.2.2.2.2.1⟩;have hcell:idx s.Cells j.Op.Cell=some (s.Cells[j.Op.Cell.toNat]'(by have:=hjo.1.2.2.1;omega)):=eW hjo.1.2.2.1.1 (by have:=hjo.1.2.2.1;omega);have hcm:eV (s.Cells[j.Op.Cell.toNat]'(by grind)):=hcs.2 _ (dW _);generalize (s.Cells[j.Op.Cell.toNat]'(by grind))=cell at hcell hcm;unfold J7 FW;rw[hj];simp only[aD,bI,bS,dY,dA,FU,FV];by_cases p0:j.Pc=0
 ·simp only[p0,beq_self_eq_true,aP,hcell,aD,kS,hn,hj,dU,eG,hset];by_cases c0:cell=0
  ·simp only[c0,beq_self_eq_true,aP,aD,hj,K8,hn];exact⟨_,rfl,rfl,hs.put hs.1 hcs (by grind[dO]) _,by simp⟩
  ·simp only[iH c0,aT,aS,aD,hj,K8];exact⟨_,rfl,rfl,hs.put hs.1 hcs (by grind[dO]) _,jC _⟩
 simp only[iH p0,aT,aS];by_cases p1:j.Pc=1
 ·obtain⟨r,e1,e2,h1⟩:=aWP hs.1.1.2.2.2 hw j.H;simp only[p1,beq_self_eq_true,aP,e1,e2,aD,hj];exact⟨_,rfl,rfl,hs.put (hs.1.haz h1) hcs (by grind[dO]) _,jC _⟩
 simp only[iH p1,aT,aS];by_cases p2:j.Pc=2
 ·simp only[p2,beq_self_eq_true,aP,hcell,aD,kS,hn,hj,dU,eG];by_cases c0:cell=j.H
  ·simp only[c0,bne_self_eq_false,aT,aS,aD,hj];exact⟨_,rfl,rfl,hs.put hs.1 hcs (by grind[dO]) _,by simp⟩
  ·simp only[VD c0,aP,aD,hj];exact⟨_,rfl,rfl,hs.put hs.1 hcs (by grind[dO]) _,jC _⟩
 simp only[iH p2,aT,aS];by_cases p3:j.Pc=3
 ·obtain⟨r,e1,e2⟩:=aWO hs.1.1.1 j.H;simp only[p3,beq_self_eq_true,aP,qN,m7,hj,e1,e2,aD,hset,K8];exact⟨_,rfl,rfl,hs.put hs.1 hcs (by grind[dO]) _,jC _⟩
 simp only[iH p3,aT,aS];by_cases p4:j.Pc=4
 ·obtain⟨r,e1,e2,h1⟩:=a5A hs.1.1.2.2.2 hw;simp only[p4,beq_self_eq_true,aP,e1,e2,aD,hj];exact⟨_,rfl,rfl,hs.put (hs.1.haz h1) hcs (by grind[dO]) _,jC _⟩
 simp only[iH p4,aT,aS,aD,hj];exact⟨_,rfl,rfl,hs.put hs.1 hcs (by grind[dO]) _,jC _⟩
theorem a8K(hk:j.Op.Kind=7):∃x,((GY s w j).bind fun q=>dA w q.1 q.2)=some x/\CM s w=some x/\SOk x/\x.Log.length<=s.Log.length+1:=by
 have h3:=hs.2.2.1;have hset:∀x,idx (s.aH.set w.toNat x) w=some x:=ON hw.1 (by omega);have hn:∀(e:Ev) {α:Type} (k:Option α),need (s.Log.length + [e].length<=1073741824) k=k:=fun e _ k=>aK (by simp;omega) k;have hcs:s.Cells.length=2/\∀h∈s.Cells,eV h:=⟨hs.2.1,hs.2.2.2.2.2.1⟩;have hcell:idx s.Cells j.Op.Cell=some (s.Cells[j.Op.Cell.toNat]'(by have:=hjo.1.2.2.1;omega)):=eW hjo.1.2.2.1.1 (by have:=hjo.1.2.2.1;omega);have hcm:eV (s.Cells[j.Op.Cell.toNat]'(by grind)):=hcs.2 _ (dW _);generalize (s.Cells[j.Op.Cell.toNat]'(by grind))=cell at hcell hcm;obtain⟨pn,hpn,_⟩:=aFN hs.1.1.2.1 hw;unfold GY CM;rw[hj,hpn];simp only[aD,bI,bS,dY,dA,DK,tZ,tY,hj];by_cases p0:j.Pc=0
 ·simp only[p0,beq_self_eq_true,aP];cases pn.On with
  | false=>simp only[o7,aP,aD,hj];exact⟨_,rfl,rfl,hs.put hs.1 hcs (by grind[dO]) _,jC _⟩
  | true =>
   simp only[eF,aT,aS];cases pn.fB with
   | true=>simp only[aP,aD,hj];exact⟨_,rfl,rfl,hs.put hs.1 hcs (by grind[dO]) _,jC _⟩
   | false =>
    simp only[aT,aS,hcell,aD,kS,hn,xO,hj,dU,eG,hset];by_cases c0:cell=0
    ·simp only[c0,beq_self_eq_true,aP,aD,hj,K8];exact⟨_,rfl,rfl,hs.put hs.1 hcs (by grind[dO]) _,by simp⟩
    ·simp only[iH c0,aT,aS,aD,hj,K8];exact⟨_,rfl,rfl,hs.put hs.1 hcs (by grind[dO]) _,by simp⟩
 simp only[iH p0,aT,aS,hj,aD];by_cases p1:j.Pc=1
 ·obtain⟨r,e1,e2⟩:=aWO hs.1.1.1 j.H;simp only[p1,beq_self_eq_true,aP,qN,m7,hj,e1,e2,aD,hset,K8];exact⟨_,rfl,rfl,hs.put hs.1 hcs (by grind[dO]) _,jC _⟩
 simp only[iH p1,aT,aS];by_cases p2:j.Pc=2
 ·simp only[p2,beq_self_eq_true,aP,v7,nF,hj,hpn,aD,dY,lT,jH,oK,bI];cases pn.On with
  | false=>simp only[aT,aS,aD,o7,aP,hj];exact⟨_,rfl,rfl,hs.put hs.1 hcs (by grind[dO]) _,jC _⟩
  | true =>
   simp only[aP,aD];cases pn.fB with
   | false=>simp only[aT,aS,aD,o7,eF,aP,hj];exact⟨_,rfl,rfl,hs.put hs.1 hcs (by grind[dO]) _,jC _⟩
   | true=>simp only[aT,aS,aD,o7,eF,aP,hj];exact⟨_,rfl,rfl,hs.put hs.1 hcs (by grind[dO]) _,jC _⟩
 simp only[iH p2,aT,aS,aD,hj];exact⟨_,rfl,rfl,hs.put hs.1 hcs (by grind[dO]) _,jC _⟩
theorem a5B(hk:j.Op.Kind=4\/j.Op.Kind=5\/j.Op.Kind=6):∃x,((B4 s w j).bind fun q=>dA w q.1 q.2)=some x/\zG s w=some x/\SOk x/\x.Log.length<=s.Log.length+1:=by
 have h3:=hs.2.2.1;have hset:∀x,idx (s.aH.set w.toNat x) w=some x:=ON hw.1 (by omega);have hcs:s.Cells.length=2/\∀h∈s.Cells,eV h:=⟨hs.2.1,hs.2.2.2.2.2.1⟩;obtain⟨x,y,e1,e2,hx⟩:=step_eq hs.1 hs.1.small hw j.Sub;unfold B4 zG;rw[hj];simp only[aD,bI,bS,dY,dA,iU,eO,z5,i7,rK,rG,rJ,rI,rH,hj,e1,e2];rcases hk with k4 | k5 | k6
 ·simp only[k4,show((4:Int) == 6)=false from rfl,show((4:Int) == 5)=false from rfl,show((4:Int) == 4)=true from rfl,aT,aS,aP];by_cases p0:j.Pc=0
  ·simp only[p0,bne_self_eq_false,beq_self_eq_true,aT,aS,aP];cases hd:y.dB with
   | false=>simp only[o7,aP,aT,aS,aD,hj];exact⟨_,rfl,rfl,hs.put hx hcs (by grind[dO]) _,jC _⟩
   | true=>simp only[eF,aP,aT,aS,aD,hj];exact⟨_,rfl,rfl,hs.put hx hcs (by grind[dO]) _,jC _⟩
  ·simp only[VD p0,iH p0,aT,aS,aP];by_cases p1:j.Pc=1
   ·simp only[p1,bne_self_eq_false,beq_self_eq_true,aT,aS,aP,show((1:Int) == 0)=false from rfl];cases hd:y.dB with
    | false=>simp only[o7,aP,aT,aS,aD,hj];exact⟨_,rfl,rfl,hs.put hx hcs (by grind[dO]) _,jC _⟩
    | true=>simp only[eF,aP,aT,aS,aD,hj];exact⟨_,rfl,rfl,hs.put hx hcs (by grind[dO]) _,jC _⟩
   ·simp only[VD p1,iH p1,aT,aS,aP,aD,hj];exact⟨_,rfl,rfl,hs.put hs.1 hcs (by grind[dO]) _,jC _⟩
 ·simp only[k5,show((5:Int) == 6)=false from rfl,show((5:Int) == 5)=true from rfl,show((5:Int) == 4)=false from rfl,aT,aS,aP];by_cases p0:j.Pc=0
  ·simp only[p0,bne_self_eq_false,beq_self_eq_true,aT,aS,aP];cases hd:y.dB with
   | false=>simp only[o7,aP,aT,aS,aD,hj];exact⟨_,rfl,rfl,hs.put hx hcs (by grind[dO]) _,jC _⟩
   | true=>simp only[eF,aP,aT,aS,aD,hj];exact⟨_,rfl,rfl,hs.put hx hcs (by grind[dO]) _,jC _⟩
  ·simp only[VD p0,iH p0,aT,aS,aP];by_cases p1:j.Pc=1
   ·simp only[p1,bne_self_eq_false,aT,aS,aP,aD,hj];exact⟨_,rfl,rfl,hs.put hs.1 hcs (by grind[dO]) _,jC _⟩
   ·simp only[VD p1,aP,aD,hj];exact⟨_,rfl,rfl,hs.put hs.1 hcs (by grind[dO]) _,jC _⟩
 ·simp only[k6,beq_self_eq_true,show((6:Int) == 5)=false from rfl,show((6:Int) == 4)=false from rfl,aT,aS,aP];by_cases p0:j.Pc=0
  ·obtain⟨r,f1,f2,h1,h2⟩:=aD5 hs.1.1.2.1 hw;simp only[p0,beq_self_eq_true,aP,f1,f2,k9,aD];cases hr:r.2 with
   | false=>simp only[o7,aP,aD,hj];exact⟨_,rfl,rfl,hs.put (hs.1.clock h1 (by omega)) hcs (by grind[dO]) _,jC _⟩
   | true=>simp only[eF,aT,aS,aD,hj];exact⟨_,rfl,rfl,hs.put (hs.1.clock h1 (by omega)) hcs (by grind[dO]) _,jC _⟩
  ·simp only[iH p0,aT,aS,aD,hj];exact⟨_,rfl,rfl,hs.put hs.1 hcs (by grind[dO]) _,jC _⟩
end
theorem aWQ{l:List kE}(h:0<l.length)(hl:l.length<=1000):y6 l 0 1=some (l.drop 1):=by
 have e:=del_eq (l:=l) (k:=0) h;unfold y6;rw[aK (by omega),aO (by simp),aK (by omega),aK (by omega),aK (by omega),aK]
 ·simp only[Int.toNat_zero,Int.toNat_one] at e ⊢;rw[VJ] at e;rw[VJ,e,List.eraseIdx_zero,List.drop_one]
 ·rw[eY (by omega)];simp only[RX,ZZ,eY (show(0:Int).toNat<=l.length by simp)];omega
theorem aMG{o:kE}(ho:tD o)(ser pc:Int)(sub:Sub)(code:Int):JOk ⟨true,o,ser,pc,sub,0,0,0,code⟩:=(YY rfl).2 ⟨ho,.inl rfl,.inl rfl⟩
theorem a5C{s:aE}(hs:SOk s)(hl:s.Log.length<=1000000000){w:Int}(hw:0<=w/\w<=2){j:fU}(hj:idx s.aH w=some j):∃x,B3 s w=some x/\y7 s w=some x/\SOk x/\x.Log.length<=s.Log.length+1:=by
 have h3:=hs.2.2.1;have ht:=hs.2.2.2.1;have hser:=hs.2.2.2.2.1;have hset:∀x,idx (s.aH.set w.toNat x) w=some x:=ON hw.1 (by omega);have hn:∀(e:Ev) {α:Type} (k:Option α),need (s.Log.length + [e].length<=1073741824) k=k:=fun e _ k=>aK (by simp;omega) k;have hq:idx s.cC w=some (s.cC[w.toNat]'(by have:=ht.1;omega)):=eW hw.1 (by have:=ht.1;omega);have hqk:QOk (s.cC[w.toNat]'(by have:=ht.1;omega)):=ht.2 _ (dW _);generalize (s.cC[w.toNat]'(by have:=ht.1;omega))=q at hq hqk;obtain⟨pn,hpn,_⟩:=aFN hs.1.1.2.1 hw;have ew:bB (s.aI+1)=s.aI+1:=aM (by omega) (by omega);unfold B3 y7;rw[hq];simp only[aD,zZ,rC];by_cases l0:q.lX.length=0
 ·simp only[show((q.lX.length:Int) == 0)=true by rw[l0];rfl,aP];exact⟨_,rfl,rfl,hs,jC _⟩
 ·simp only[show((q.lX.length:Int) == 0)=false from iH (by omega),aT,aS];by_cases s0:s.aI=1000000
  ·simp only[s0,beq_self_eq_true,aP];exact⟨_,rfl,rfl,hs,jC _⟩
  ·simp only[iH s0,aT,aS,hq,aD];have hx:idx q.lX 0=some (q.lX[0]'(by omega)):=by have:=aV (l:=q.lX) (k:=0) (by omega);simpa using this
   have ho:tD (q.lX[0]'(by omega)):=hqk.2 _ (dW _);have h12:=hqk.1;have hdel:=aWQ (l:=q.lX) (by omega) (by omega);generalize (q.lX[0]'(by omega))=o at hx ho;have etk:(q.lX.take q.lX.length).drop (1:Int).toNat=q.lX.drop 1:=by rw[List.take_length];rfl
   have hT:YX (s.cC.set w.toNat ⟨q.lX.drop 1⟩):=⟨by simpa using ht.1,fun z hz=>(oC hz).elim (ht.2 z) (fun e=>by
    subst e;exact⟨by simp only[aBZ];omega,fun a ha=>hqk.2 a (aB0 ha)⟩)⟩
   have fin:∀(jb:fU) (l:List Ev),JOk jb->SOk ⟨s.aA,s.Cells,s.aH.set w.toNat jb,s.cC.set w.toNat ⟨q.lX.drop 1⟩,l,s.aI+1⟩:=fun jb l hjb=>
    ⟨hs.1,hs.2.1,by simpa using h3,hT,by simp only;omega,hs.2.2.2.2.2.1,fun z hz=>(oC hz).elim (hs.2.2.2.2.2.2 z) (fun e=>e ▸ hjb)⟩
   simp only[hx,hdel,aD,iU,eO,ew];rw[aK (by omega)];by_cases k1:o.Kind=1
   ·simp only[k1,beq_self_eq_true,aP,fN,eQ,hj,dU,eG,aD,hset,hn,etk,ew];exact⟨_,rfl,rfl,fin _ _ (aMG ho _ _ _ _),by simp⟩
   simp only[iH k1,aT,aS];have pin:∀z,z=true->∃x,j9 s w q o z=some x/\kU s w o (q.lX.drop 1) z=some x/\SOk x/\x.Log.length<=s.Log.length+1:=fun z hz=>by
    subst hz;simp only[j9,kU,aP,iU,eO,hpn,aD,bS];cases pn.On with
    | true =>
     simp only[aP,fN,eQ,hj,dU,eG,aD,hset,hn,etk,ew];exact⟨_,rfl,rfl,fin _ _ (aMG ho _ _ _ _),by simp⟩
    | false =>
     simp only[aT,aS,fN,eQ,hj,dU,eG,aD,hset,hn,etk,ew];exact⟨_,rfl,rfl,fin _ _ (aMG ho _ _ _ _),by simp⟩
   by_cases k2:o.Kind=2
   ·simp only[k2,beq_self_eq_true,aP];exact pin true rfl
   simp only[iH k2,aT,aS];by_cases k5:o.Kind=5
   ·simp only[k5,beq_self_eq_true];exact pin true rfl
   simp only[iH k5,j9,kU,aT,aS,iU,eO,aD];by_cases k4:o.Kind=4
   ·simp only[k4,beq_self_eq_true,aP,fN,eQ,hj,dU,eG,aD,hset,hn,etk,ew];exact⟨_,rfl,rfl,fin _ _ (aMG ho _ _ _ _),by simp⟩
   ·simp only[iH k4,aT,aS,fN,eQ,hj,dU,eG,aD,hset,hn,etk,ew];exact⟨_,rfl,rfl,fin _ _ (aMG ho _ _ _ _),by simp⟩
theorem aRQ{s:aE}(hs:SOk s)(hl:s.Log.length<=1000000000){w:Int}(hw:0<=w/\w<=2):∃x,UQ s w=some x/\uX s w=some x/\SOk x/\x.Log.length<=s.Log.length+1:=by
 have h3:=hs.2.2.1;have hset:∀x,idx (s.aH.set w.toNat x) w=some x:=ON hw.1 (by omega);have hn:∀(e:Ev) {α:Type} (k:Option α),need (s.Log.length + [e].length<=1073741824) k=k:=fun e _ k=>aK (by simp;omega) k;have hj:idx s.aH w=some (s.aH[w.toNat]'(by omega)):=eW hw.1 (by omega);have hjk:JOk (s.aH[w.toNat]'(by omega)):=hs.2.2.2.2.2.2 _ (dW _);generalize (s.aH[w.toNat]'(by omega))=j at hj hjk;unfold UQ uX;rw[hj];simp only[aD];cases hb:j.iI with
 | false =>
  simp_all[a5C]
 | true =>
  have hjo:=(YY hb).1 hjk;simp only[eF,aT,aS];by_cases p9:j.Pc=9
  ·simp only[p9,beq_self_eq_true,aP,hn,dU,eG,hj,aD];exact⟨_,rfl,rfl,hs.put hs.1 ⟨hs.2.1,hs.2.2.2.2.2.1⟩ ((aT9 rfl).2 rfl) _,by simp⟩
  simp only[iH p9,aT,aS];have close:∀{A B:Option aE} {x:aE},A=some x->B=some x->SOk x->x.Log.length<=s.Log.length+1->∃x,A=some x/\(B.bind fun z=>some z)=some x/\SOk x/\x.Log.length<=s.Log.length+1:=fun h1 h2 h3 h4=>⟨_,h1,by rw[h2];rfl,h3,h4⟩;by_cases k1:j.Op.Kind=1
  ·simp_all[bB1]
  simp only[iH k1,aT,aS];by_cases k2:j.Op.Kind=2
  ·simp_all[get_eq]
  simp only[iH k2,aT,aS];by_cases k3:j.Op.Kind=3
  ·simp_all[bB2]
  simp only[iH k3,aT,aS];by_cases k7:j.Op.Kind=7
  ·simp_all[a8K]
  simp only[iH k7,aT,aS];have hkr:=hjo.1.1;grind[a5B]
end Go.Gv
end
noncomputable section
namespace Go.Gv
def RV(m:Mem)(h n:Int):Mem×Int:=if mN m h then(⟨⟨O2 m.Heap.Bytes ((gA (h % 32) (bD m.Heap (h % 32))).toNat+4) n,m.Heap.Class⟩,m.aB⟩,0) else(m,4)
theorem a9Z{h:Heap}{s:Int}(hcl:0<=bD h s):(gA s (bD h s)).toNat+8<=384/\8<=gH (bD h s)/\gH (bD h s)<=40:=by
 have hc2:0<=bD h s/\bD h s<=2:=by obtain⟨_,q,e⟩:=AA hcl;rw[e];exact nN.1 (by omega)
 grind[gH,bD,yU,dS,bE]
theorem a0H{m:Mem}(hm:oA m){h n:Int}(hn:0<=n/\n<=65535):GR m h 0 4 n=some (RV m h n):=by
 obtain⟨hcnt,h3,h9,h1,h2,hsm,hcp,hlo,hsG,hsO⟩:=oA.facts hm;have hs:=hm.1.1.1;have hbl:m.Heap.Bytes.length<=maxLen:=by grind[maxLen]
 have hall:(eU m.aB).length<=1073741824:=by omega
 have hg:m.aB.Global.length<=maxLen:=by omega
 have ho:m.aB.Own.length<=maxLen:=by omega
 unfold GR XX RV;rw[aGB hsm,RN hbl hall,b9 hm,cE];simp only[aD,eF,aT,aS,GQ,show(decide ((1:Int)<=4/\(4:Int)<=7))=true from rfl,vO hs hall hg ho];by_cases hv:mN m h
 ·have hh:=hv.1;have hcl:=jF hv.2.1;have hgo:=HC hcl;obtain⟨hroom,hz⟩:=a9Z hcl;simp only[b9 hv,eF,aT,aS,aL hv,dV,aL hh,aD,jU hs,sY,cE];rw[aM (x:=gH (bD m.Heap (h % 32)) - 1) (by omega) (by omega),b9 (show(0:Int)<=0/\(0:Int)<=gH (bD m.Heap (h % 32)) - 1 by omega),aM (x:=gH (bD m.Heap (h % 32)) - 0) (by omega) (by omega),eE (show ¬gH (bD m.Heap (h % 32)) - 0<4 by omega)];simp only[eF,aT,aS,GP,(start_eq hs hcl).1,aD];rw[aM (x:=gA (h % 32) (bD m.Heap (h % 32))+4+0) (by omega) (by omega),Int.add_zero];have eo':gA (h % 32) (bD m.Heap (h % 32))+4=(((gA (h % 32) (bD m.Heap (h % 32))).toNat+4:Nat):Int):=by omega
  obtain⟨t,ht1,ht2⟩:=aGE hn;rw[eo'];simp only[aD,aT,aS,bne_self_eq_false,ht1,ht2];rw[aFO (by omega) (by omega) ⟨hn.1,by omega⟩];rfl
 grind
def a5D(h:Heap)(x:Int):Int:=if kW x/\0<=bD h (x % 32) then ld h.Bytes ((gA (x % 32) (bD h (x % 32))).toNat+4) 4 else 0
theorem aRR{s:aE}(hm:oA s.aA.Mem)(j:fU):qN s j=some (a5D s.aA.Mem.Heap j.H):=by
 have hs:=hm.1.1.1;have h1:=hs.1;unfold qN QA a5D;generalize j.H=h;rw[fP,cE];simp only[aD,GX,show(decide ((1:Int)<=4/\(4:Int)<=7))=true from rfl,eF,aT,aS];by_cases hh:kW h
 ·simp only[b9 hh,eF,aT,aS,dV,aL hh,aD,jU hs];by_cases hcl:bD s.aA.Mem.Heap (h % 32)<0
  ·simp_all[oX,aO]
  ·have hcl':0<=bD s.aA.Mem.Heap (h % 32):=by omega
   have hgo:=HC hcl';obtain⟨hroom,hz⟩:=a9Z hcl';simp only[eE hcl,aT,aS,sY,cE,aD,aL (show kW h/\0<=bD s.aA.Mem.Heap (h % 32) from⟨hh,hcl'⟩)];rw[aM (x:=gH (bD s.aA.Mem.Heap (h % 32)) - 1) (by omega) (by omega),b9 (show(0:Int)<=0/\(0:Int)<=gH (bD s.aA.Mem.Heap (h % 32)) - 1 by omega),aM (x:=gH (bD s.aA.Mem.Heap (h % 32)) - 0) (by omega) (by omega),eE (show ¬gH (bD s.aA.Mem.Heap (h % 32)) - 0<4 by omega)];simp only[eF,aT,aS,oX,dV,aL hh,(start_eq hs hcl').1,aD];rw[aM (x:=gA (h % 32) (bD s.aA.Mem.Heap (h % 32))+4+0) (by omega) (by omega),Int.add_zero];have eo':gA (h % 32) (bD s.aA.Mem.Heap (h % 32))+4=(((gA (h % 32) (bD s.aA.Mem.Heap (h % 32))).toNat+4:Nat):Int):=by omega
   rw[eo',show(4:Int)=((4:Nat):Int) from rfl,HA hs.2.2.1 (by omega) (by omega) (by omega)];rfl
 grind
def aMH(z:List Int)(w h:Int):List Int:=if kW h then z.set w.toNat h else z
theorem aUA{z:List Int}(hz:RO z){w:Int}(hw:0<=w/\w<=2)(h:Int):∃t,GW z w h=some (aMH z w h,t):=by
 have h3:=hz.1;unfold GW vL aMH;rw[II (by omega),B8 (by simp only[maxLen];omega),b9 hz,cE,b9 hw,fP];by_cases q:kW h
 ·simp only[b9 q,TY hz hw,aD,eF,aT,aS,aL q];exact⟨_,rfl⟩
 ·simp only[eE q,aD,eF,o7,aT,aS,aP,aO q];exact⟨_,rfl⟩
def aWR(z:List Int)(w:Int):List Int:=if aMD z w=0 then z else z.set w.toNat 0
theorem a0I{z:List Int}(hz:RO z){w:Int}(hw:0<=w/\w<=2):∃t,N4 z w=some (aWR z w,t):=by
 have h3:=hz.1;unfold N4 BZ aWR;rw[II (by omega),B8 (by simp only[maxLen];omega),b9 hz,cE,b9 hw,TY hz hw];by_cases q:aMD z w=0
 ·have q':(aMD z w == 0)=true:=by simpa using q
  simp only[q',aD,eF,aT,aS,aP,aL q,TY hz hw];exact⟨_,rfl⟩
 ·have q':(aMD z w == 0)=false:=by simpa using q
  simp only[q',aD,eF,aT,aS,aO q,TY hz hw];exact⟨_,rfl⟩
structure JR where
 b:aA
 c:List Int
 j:fU
 l:List Ev
def uP(j:fU)(pc code:Int):fU:={j with Pc:=pc,Code:=code}
def W4(kind a:Int):Sub:=⟨kind,a,0,0,0,0,0,0,0,false⟩
def cellAt(c:List Int)(k:Int):Int:=c.getD k.toNat 0
def aRS(c:aG)(w:Int)(j:fU)(pc:Int):fU:=if(mO c w).On=true/\(mO c w).fB=false then uP j pc 0 else uP {j with cK:=0} pc 6
noncomputable section
variable (s:aE) (w:Int) (j:fU)
def aAU(h:Int):Ev:=⟨3,w,j.aI,j.Op.Cell,h,0,0⟩
def a8L:JR:=
 if j.Pc=0 then
  if(iC s.aA w j.Sub).2.dB then
   if(iC s.aA w j.Sub).2.Code≠0 then⟨(iC s.aA w j.Sub).1,s.Cells,uP {j with Sub:=(iC s.aA w j.Sub).2} 9 (iC s.aA w j.Sub).2.Code,[]⟩
   else if kW (iC s.aA w j.Sub).2.Out then⟨(iC s.aA w j.Sub).1,s.Cells,uP {j with Sub:=(iC s.aA w j.Sub).2,H:=(iC s.aA w j.Sub).2.Out} 1 0,[]⟩
   else⟨(iC s.aA w j.Sub).1,s.Cells,uP {j with Sub:=(iC s.aA w j.Sub).2} 9 1,[]⟩
  else⟨(iC s.aA w j.Sub).1,s.Cells,{j with Sub:=(iC s.aA w j.Sub).2},[]⟩
 else if j.Pc=1 then⟨{s.aA with Mem:=(RV s.aA.Mem j.H j.Op.cK).1},s.Cells,if(RV s.aA.Mem j.H j.Op.cK).2=0 then uP j 2 0 else uP j 9 (RV s.aA.Mem j.H j.Op.cK).2,[]⟩
 else if j.Pc=2 then⟨s.aA,s.Cells.set j.Op.Cell.toNat j.H,if cellAt s.Cells j.Op.Cell=0 then uP {j with Old:=0} 9 0 else uP {j with Sub:=W4 2 (cellAt s.Cells j.Op.Cell),Old:=cellAt s.Cells j.Op.Cell} 3 0,[⟨2,w,j.aI,j.Op.Cell,j.H,j.Op.cK,0⟩]⟩
 else if j.Pc=3 then⟨(iC s.aA w j.Sub).1,s.Cells,if(iC s.aA w j.Sub).2.dB then uP {j with Sub:=(iC s.aA w j.Sub).2} 9 (iC s.aA w j.Sub).2.Code else {j with Sub:=(iC s.aA w j.Sub).2},[]⟩
 else⟨s.aA,s.Cells,uP j 9 1,[]⟩
def a8M:JR:=
 if j.Pc=0 then⟨(iC s.aA w j.Sub).1,s.Cells,if(iC s.aA w j.Sub).2.dB then uP {j with Sub:=(iC s.aA w j.Sub).2} 1 0 else {j with Sub:=(iC s.aA w j.Sub).2},[]⟩
 else if j.Pc=1 then⟨s.aA,s.Cells,if cellAt s.Cells j.Op.Cell=0 then uP {j with H:=0} 4 8 else uP {j with H:=cellAt s.Cells j.Op.Cell} 2 0,[aAU w j (cellAt s.Cells j.Op.Cell)]⟩
 else if j.Pc=2 then⟨s.aA,s.Cells,uP {j with cK:=a5D s.aA.Mem.Heap j.H} 3 0,[]⟩
 else if j.Pc=3 then⟨s.aA,s.Cells,aRS s.aA.aG w j 4,[]⟩
 else if j.Pc=4 then⟨{s.aA with aG:=(RU s.aA.aG w).1},s.Cells,uP j 9 j.Code,[]⟩
 else⟨s.aA,s.Cells,uP j 9 1,[]⟩
def a8N:JR:=
 if j.Pc=0 then if cellAt s.Cells j.Op.Cell=0 then⟨s.aA,s.Cells,uP {j with H:=0} 4 8,[aAU w j 0]⟩ else⟨s.aA,s.Cells,uP {j with H:=cellAt s.Cells j.Op.Cell} 1 0,[]⟩
 else if j.Pc=1 then⟨{s.aA with qZ:=aMH s.aA.qZ w j.H},s.Cells,uP j 2 0,[]⟩
 else if j.Pc=2 then if cellAt s.Cells j.Op.Cell=j.H then⟨s.aA,s.Cells,uP j 3 0,[aAU w j j.H]⟩ else⟨s.aA,s.Cells,uP j 0 0,[]⟩
 else if j.Pc=3 then⟨s.aA,s.Cells,uP {j with cK:=a5D s.aA.Mem.Heap j.H} 4 0,[]⟩
 else if j.Pc=4 then⟨{s.aA with qZ:=aWR s.aA.qZ w},s.Cells,uP j 9 j.Code,[]⟩
 else⟨s.aA,s.Cells,uP j 9 1,[]⟩
def aY2:JR:=
 if j.Pc=0 then
  if(mO s.aA.aG w).On=false then⟨s.aA,s.Cells,uP j 9 5,[]⟩
  else if(mO s.aA.aG w).fB=true then⟨s.aA,s.Cells,uP j 9 6,[]⟩
  else⟨s.aA,s.Cells,if cellAt s.Cells j.Op.Cell=0 then uP {j with H:=0} 9 8 else uP {j with H:=cellAt s.Cells j.Op.Cell} 1 0,[aAU w j (cellAt s.Cells j.Op.Cell)]⟩
 else if j.Pc=1 then⟨s.aA,s.Cells,uP {j with cK:=a5D s.aA.Mem.Heap j.H} 2 0,[]⟩
 else if j.Pc=2 then⟨s.aA,s.Cells,aRS s.aA.aG w j 9,[]⟩
 else⟨s.aA,s.Cells,uP j 9 1,[]⟩
def aRT:JR:=
 if j.Op.Kind=6 then
  if j.Pc=0 then⟨{s.aA with aG:=(RU s.aA.aG w).1},s.Cells,uP j 9 (if(RU s.aA.aG w).2 then 0 else 5),[]⟩
  else⟨s.aA,s.Cells,uP j 9 1,[]⟩
 else if j.Pc=0\/j.Pc=1/\j.Op.Kind≠5 then
  ⟨(iC s.aA w j.Sub).1, s.Cells, if(iC s.aA w j.Sub).2.dB then
   if j.Op.Kind=5 then uP {j with Sub:=(iC s.aA w j.Sub).2} 9 (iC s.aA w j.Sub).2.Code
   else if j.Pc=0 then uP {j with Sub:=W4 4 0} 1 0
   else uP {j with Sub:=(iC s.aA w j.Sub).2,cK:=(iC s.aA w j.Sub).2.Out} 9 (iC s.aA w j.Sub).2.Code
   else {j with Sub:=(iC s.aA w j.Sub).2},[]⟩
 else⟨s.aA,s.Cells,uP j 9 1,[]⟩
def a8O:JR:=if j.Op.Kind=1 then a8L s w j else if j.Op.Kind=2 then a8M s w j else if j.Op.Kind=3 then a8N s w j else if j.Op.Kind=7 then aY2 s w j else aRT s w j
end
def oB(s:aE)(w:Int)(r:JR):aE:=⟨r.b,r.c,s.aH.set w.toNat r.j,s.cC,s.Log++r.l,s.aI⟩
def aUB(t:List Queue)(w:Int):List kE:=(t.getD w.toNat ⟨[]⟩).lX
def vQ(s:aE)(w:Int):fU:=s.aH.getD w.toNat aT8
def a5E(c:aG)(w:Int)(o:kE)(ser:Int):fU:=
 if o.Kind=1 then⟨true,o,ser,0,W4 1 o.lY,0,0,0,0⟩
 else if o.Kind=2\/o.Kind=5 then if(mO c w).On then⟨true,o,ser,9,W4 5 0,0,0,0,1⟩ else⟨true,o,ser,0,W4 5 0,0,0,0,0⟩
 else if o.Kind=4 then⟨true,o,ser,0,W4 3 0,0,0,0,0⟩
 else⟨true,o,ser,0,⟨0,0,0,0,0,0,0,0,0,false⟩,0,0,0,0⟩
def aRU(s:aE)(w:Int):aE:=match aUB s.cC w with
 | []=>s
 | o :: r => if s.aI = 1000000 then s else
  ⟨s.aA,s.Cells,s.aH.set w.toNat (a5E s.aA.aG w o (s.aI+1)),s.cC.set w.toNat ⟨r⟩,s.Log ++ [⟨1,w,s.aI+1,o.Cell,0,0,0⟩],s.aI+1⟩
def bD0(w:Int)(j:fU):Ev:=⟨4,w,j.aI,j.Op.Cell,j.H,j.cK,j.Code⟩
def aGF(s:aE)(w:Int):aE:=
 if(vQ s w).iI=false then aRU s w
 else if(vQ s w).Pc=9 then⟨s.aA,s.Cells,s.aH.set w.toNat aT8,s.cC,s.Log ++ [bD0 w (vQ s w)],s.aI⟩
 else oB s w (a8O s w (vQ s w))
noncomputable section
variable {s:aE} (hs:SOk s) (hl:s.Log.length<=1000000000) {w:Int} (hw:0<=w/\w<=2) {j:fU} (hjo:tD j.Op/\eV j.H/\eV j.Old)
include hs
theorem ZM(hw:0<=w/\w<=2):idx s.aH w=some (vQ s w):=by have:=hs.2.2.1;grind[eW,vQ]
theorem VE{k:Int}(hk:0<=k/\k<=1):idx s.Cells k=some (cellAt s.Cells k):=by have:=hs.2.1;grind[eW,cellAt]
include hw
theorem aUC(x:aE)(hx:x.aH=s.aH)(j:fU):dA w x j=some {x with aH:=x.aH.set w.toNat j}:=by grind[dA,ZM]
include hl hjo
theorem a8P(hk:j.Op.Kind=1):((J5 s w j).bind fun q=>dA w q.1 q.2)=some (oB s w (a8L s w j)):=by
 have hn:∀(e:Ev) {α:Type} (k:Option α),need (s.Log.length + [e].length<=1073741824) k=k:=fun e _ k=>aK (by simp;omega) k;have hcell:=VE hs hjo.1.2.2.1;have hval:0<=j.Op.cK/\j.Op.cK<=65535:=by have:=hjo.1.2.2.2;grind
 have hj:=fun x hx j=>aUC hs hw x hx j;unfold J5 a8L;simp only[aD2 hs.1 hw,a0H hs.1.1.1 hval,hcell,aD,bI,iU,hn];by_cases p0:j.Pc=0
 ·have p0':(j.Pc == 0)=true:=by grind
  simp only[p0',aP,aL p0];cases hd:(iC s.aA w j.Sub).2.dB with
  | false=>simp_all[oB]
  | true =>
   simp only[eF,aT,aS,aP];by_cases c0:(iC s.aA w j.Sub).2.Code=0
   ·have c0':((iC s.aA w j.Sub).2.Code != 0)=false:=by simpa using c0
    simp only[c0',aT,aS,aO (show ¬(iC s.aA w j.Sub).2.Code≠0 from fun h=>h c0),fP,aD];by_cases o0:kW (iC s.aA w j.Sub).2.Out
    ·simp only[b9 o0,eF,aT,aS,aL o0,aD];refine(hj _ ?_ _).trans ?_;rfl;simp[oB,uP]
    ·simp only[eE o0,o7,aP,aO o0,aD];refine(hj _ ?_ _).trans ?_;rfl;simp[oB,uP]
   simp_all[oB,uP]
 have p0':(j.Pc == 0)=false:=by simpa using p0
 simp only[p0',aT,aS,aO p0];by_cases p1:j.Pc=1
 ·have p1':(j.Pc == 1)=true:=by simpa using p1
  simp only[p1',aP,aL p1];by_cases c0:(RV s.aA.Mem j.H j.Op.cK).2=0
  ·have c0':((RV s.aA.Mem j.H j.Op.cK).2 != 0)=false:=by simpa using c0
   simp only[c0',aT,aS,aL c0,aD];refine(hj _ ?_ _).trans ?_;rfl;simp[oB,uP]
  ·have c0':((RV s.aA.Mem j.H j.Op.cK).2 != 0)=true:=by simpa using c0
   simp only[c0',aP,aO c0,aD];refine(hj _ ?_ _).trans ?_;rfl;simp[oB,uP]
 have p1':(j.Pc == 1)=false:=by simpa using p1
 simp only[p1',aT,aS,aO p1];by_cases p2:j.Pc=2
 ·have p2':(j.Pc == 2)=true:=by simpa using p2
  simp only[p2',aP,aL p2];by_cases c0:cellAt s.Cells j.Op.Cell=0
  ·have c0':(cellAt s.Cells j.Op.Cell == 0)=true:=by simpa using c0
   simp only[c0',aP,aL c0,aD];refine(hj _ ?_ _).trans ?_;rfl;simp[oB,uP,c0]
  ·have c0':(cellAt s.Cells j.Op.Cell == 0)=false:=by simpa using c0
   simp only[c0',aT,aS,aO c0,aD];refine(hj _ ?_ _).trans ?_;rfl;simp[oB,uP,W4]
 have p2':(j.Pc == 2)=false:=by grind
 simp only[p2',aT,aS,aO p2];by_cases p3:j.Pc=3
 ·have p3':(j.Pc == 3)=true:=by grind
  simp only[p3',aP,aL p3];cases hd:(iC s.aA w j.Sub).2.dB with
  | false=>simp_all[oB]
  | true=>simp_all[oB,uP]
 simp_all[oB,uP]
theorem a8Q:((J6 s w j).bind fun q=>dA w q.1 q.2)=some (oB s w (a8M s w j)):=by
 have hn:∀(e:Ev) {α:Type} (k:Option α),need (s.Log.length + [e].length<=1073741824) k=k:=fun e _ k=>aK (by simp;omega) k;have hcell:=VE hs hjo.1.2.2.1;have hj:=fun x hx j=>aUC hs hw x hx j;unfold J6 a8M;simp only[aD2 hs.1 hw,hcell,aD,bI,kS,hn,aRR hs.1.1.1,ZL hs.1.1.2.1 hw,v7,EF hs.1.1.2.1 hw];by_cases p0:j.Pc=0
 ·have p0':(j.Pc == 0)=true:=by simpa using p0
  simp only[p0',aP,aL p0];cases hd:(iC s.aA w j.Sub).2.dB with
  | false=>simp only[o7,aP,aT,aS,aD];refine(hj _ ?_ _).trans ?_;rfl;simp[oB]
  | true=>simp only[eF,aT,aS,aP,aD];refine(hj _ ?_ _).trans ?_;rfl;simp[oB,uP]
 have p0':(j.Pc == 0)=false:=by simpa using p0
 simp only[p0',aT,aS,aO p0];by_cases p1:j.Pc=1
 ·have p1':(j.Pc == 1)=true:=by simpa using p1
  simp only[p1',aP,aL p1];by_cases c0:cellAt s.Cells j.Op.Cell=0
  ·have c0':(cellAt s.Cells j.Op.Cell == 0)=true:=by simpa using c0
   simp only[c0',aP,aL c0,aD];refine(hj _ ?_ _).trans ?_;rfl;simp[oB,uP,aAU,c0]
  ·have c0':(cellAt s.Cells j.Op.Cell == 0)=false:=by simpa using c0
   simp only[c0',aT,aS,aO c0,aD];refine(hj _ ?_ _).trans ?_;rfl;simp[oB,uP,aAU]
 have p1':(j.Pc == 1)=false:=by simpa using p1
 simp only[p1',aT,aS,aO p1];by_cases p2:j.Pc=2
 ·have p2':(j.Pc == 2)=true:=by simpa using p2
  simp only[p2',aP,aL p2,aD];refine(hj _ ?_ _).trans ?_;rfl;simp[oB,uP]
 have p2':(j.Pc == 2)=false:=by simpa using p2
 simp only[p2',aT,aS,aO p2];by_cases p3:j.Pc=3
 ·have p3':(j.Pc == 3)=true:=by simpa using p3
  simp only[p3',aP,aL p3,aD,oK,bI,aRS];cases h1:(mO s.aA.aG w).On<;>cases h2:(mO s.aA.aG w).fB<;>simp only[o7,eF,aT,aS,aP,aD,and_false,and_true,false_and,true_and,reduceCtorEq]<;>(refine(hj _ ?_ _).trans ?_;rfl;simp[oB,uP])
 have p3':(j.Pc == 3)=false:=by simpa using p3
 simp only[p3',aT,aS,aO p3];by_cases p4:j.Pc=4
 ·have p4':(j.Pc == 4)=true:=by simpa using p4
  simp only[p4',aP,aL p4,aD];refine(hj _ ?_ _).trans ?_;rfl;simp[oB,uP]
 have p4':(j.Pc == 4)=false:=by simpa using p4
 simp only[p4',aT,aS,aO p4,aD];refine(hj _ ?_ _).trans ?_;rfl;simp[oB,uP]
theorem a8R:((J7 s w j).bind fun q=>dA w q.1 q.2)=some (oB s w (a8N s w j)):=by
 have hn:∀(e:Ev) {α:Type} (k:Option α),need (s.Log.length + [e].length<=1073741824) k=k:=fun e _ k=>aK (by simp;omega) k;have hcell:=VE hs hjo.1.2.2.1;have hj:=fun x hx j=>aUC hs hw x hx j;obtain⟨t1,e1⟩:=aUA hs.1.1.2.2.2 hw j.H;obtain⟨t2,e2⟩:=a0I hs.1.1.2.2.2 hw;unfold J7 a8N;simp only[hcell,aD,bI,kS,hn,aRR hs.1.1.1,e1,e2];by_cases p0:j.Pc=0
 ·have p0':(j.Pc == 0)=true:=by simpa using p0
  simp only[p0',aP,aL p0];by_cases c0:cellAt s.Cells j.Op.Cell=0
  ·have c0':(cellAt s.Cells j.Op.Cell == 0)=true:=by simpa using c0
   simp only[c0',aP,aL c0,aD];refine(hj _ ?_ _).trans ?_;rfl;simp[oB,uP,aAU,c0]
  ·have c0':(cellAt s.Cells j.Op.Cell == 0)=false:=by simpa using c0
   simp only[c0',aT,aS,aO c0,aD];refine(hj _ ?_ _).trans ?_;rfl;simp[oB,uP]
 have p0':(j.Pc == 0)=false:=by simpa using p0
 simp only[p0',aT,aS,aO p0];by_cases p1:j.Pc=1
 ·have p1':(j.Pc == 1)=true:=by simpa using p1
  simp only[p1',aP,aL p1,aD];refine(hj _ ?_ _).trans ?_;rfl;simp[oB,uP]
 have p1':(j.Pc == 1)=false:=by simpa using p1
 simp only[p1',aT,aS,aO p1];by_cases p2:j.Pc=2
 ·have p2':(j.Pc == 2)=true:=by simpa using p2
  simp only[p2',aP,aL p2];by_cases c0:cellAt s.Cells j.Op.Cell=j.H
  ·have c0':(cellAt s.Cells j.Op.Cell != j.H)=false:=by simpa using c0
   simp only[c0',aT,aS,aL c0,aD];refine(hj _ ?_ _).trans ?_;rfl;simp[oB,uP,aAU]
  ·have c0':(cellAt s.Cells j.Op.Cell != j.H)=true:=by simpa using c0
   simp only[c0',aP,aO c0,aD];refine(hj _ ?_ _).trans ?_;rfl;simp[oB,uP]
 have p2':(j.Pc == 2)=false:=by simpa using p2
 simp only[p2',aT,aS,aO p2];by_cases p3:j.Pc=3
 ·have p3':(j.Pc == 3)=true:=by simpa using p3
  simp only[p3',aP,aL p3,aD];refine(hj _ ?_ _).trans ?_;rfl;simp[oB,uP]
 have p3':(j.Pc == 3)=false:=by simpa using p3
 simp only[p3',aT,aS,aO p3];by_cases p4:j.Pc=4
 ·have p4':(j.Pc == 4)=true:=by simpa using p4
  simp only[p4',aP,aL p4,aD];refine(hj _ ?_ _).trans ?_;rfl;simp[oB,uP]
 have p4':(j.Pc == 4)=false:=by simpa using p4
 simp only[p4',aT,aS,aO p4,aD];refine(hj _ ?_ _).trans ?_;rfl;simp[oB,uP]
theorem a5F:((GY s w j).bind fun q=>dA w q.1 q.2)=some (oB s w (aY2 s w j)):=by
 have hn:∀(e:Ev) {α:Type} (k:Option α),need (s.Log.length + [e].length<=1073741824) k=k:=fun e _ k=>aK (by simp;omega) k;have hcell:=VE hs hjo.1.2.2.1;have hj:=fun x hx j=>aUC hs hw x hx j;unfold GY aY2;simp only[hcell,aD,bI,kS,hn,aRR hs.1.1.1,v7,EF hs.1.1.2.1 hw];by_cases p0:j.Pc=0
 ·have p0':(j.Pc == 0)=true:=by grind
  simp only[p0',aP,aL p0];cases h1:(mO s.aA.aG w).On with
  | false=>simp_all[oB,uP]
  | true =>
   cases h2:(mO s.aA.aG w).fB with
   | true=>simp only[eF,aT,aS,aP,aD,reduceCtorEq];refine(hj _ ?_ _).trans ?_;rfl;simp[oB,uP]
   | false =>
    simp only[eF,aT,aS,reduceCtorEq];by_cases c0:cellAt s.Cells j.Op.Cell=0
    ·have c0':(cellAt s.Cells j.Op.Cell == 0)=true:=by simpa using c0
     simp only[c0',aP,aL c0,aD];refine(hj _ ?_ _).trans ?_;rfl;simp[oB,uP,aAU,c0]
    ·have c0':(cellAt s.Cells j.Op.Cell == 0)=false:=by simpa using c0
     simp only[c0',aT,aS,aO c0,aD];refine(hj _ ?_ _).trans ?_;rfl;simp[oB,uP,aAU]
 have p0':(j.Pc == 0)=false:=by grind
 simp only[p0',aT,aS,aO p0];by_cases p1:j.Pc=1
 ·simp_all[oB,uP]
 have p1':(j.Pc == 1)=false:=by grind
 simp only[p1',aT,aS,aO p1];by_cases p2:j.Pc=2
 ·have p2':(j.Pc == 2)=true:=by grind
  simp only[p2',aP,aL p2,aD,oK,bI,aRS];cases h1:(mO s.aA.aG w).On<;>cases h2:(mO s.aA.aG w).fB<;>simp only[o7,eF,aT,aS,aP,aD,and_false,and_true,false_and,true_and,reduceCtorEq]<;>(grind[oB,uP])
 simp_all[oB,uP]
theorem a0J:((B4 s w j).bind fun q=>dA w q.1 q.2)=some (oB s w (aRT s w j)):=by
 have hj:=fun x hx j=>aUC hs hw x hx j;unfold B4 aRT z5;simp only[ZL hs.1.1.2.1 hw,aD,bI];have step:j.Op.Kind≠6->(j.Pc=0\/j.Pc=1/\j.Op.Kind≠5)->((i7 s w j false).bind fun q=>dA w q.1 q.2)=some (oB s w ⟨(iC s.aA w j.Sub).1,s.Cells,if(iC s.aA w j.Sub).2.dB then if j.Op.Kind=5 then uP {j with Sub:=(iC s.aA w j.Sub).2} 9 (iC s.aA w j.Sub).2.Code else if j.Pc=0 then uP {j with Sub:=W4 4 0} 1 0 else uP {j with Sub:=(iC s.aA w j.Sub).2,cK:=(iC s.aA w j.Sub).2.Out} 9 (iC s.aA w j.Sub).2.Code else {j with Sub:=(iC s.aA w j.Sub).2},[]⟩):=fun k6 kp=>by
  unfold i7;simp only[aT,aS,aD2 hs.1 hw,aD,bI,iU];cases hd:(iC s.aA w j.Sub).2.dB with
  | false=>simp_all[oB]
  | true =>
   simp only[eF,aT,aS,aP];by_cases k5:j.Op.Kind=5
   ·have k5':(j.Op.Kind == 5)=true:=by simpa using k5
    simp only[k5',aP,aL k5,aD];refine(hj _ ?_ _).trans ?_;rfl;simp[oB,uP]
   ·have k5':(j.Op.Kind == 5)=false:=by simpa using k5
    simp only[k5',aT,aS,aO k5];by_cases p0:j.Pc=0
    ·have p0':(j.Pc == 0)=true:=by simpa using p0
     simp only[p0',aP,aL p0,aD];refine(hj _ ?_ _).trans ?_;rfl;simp[oB,uP,W4]
    ·have p0':(j.Pc == 0)=false:=by simpa using p0
     simp only[p0',aT,aS,aO p0,aD];refine(hj _ ?_ _).trans ?_;rfl;simp[oB,uP]
 have bad:((i7 s w j true).bind fun q=>dA w q.1 q.2)=some (oB s w ⟨s.aA,s.Cells,uP j 9 1,[]⟩):=by simp_all[i7,bI,oB,uP]
 by_cases k6:j.Op.Kind=6
 ·have k6':(j.Op.Kind == 6)=true:=by grind
  simp only[k6',aP,aL k6];by_cases p0:j.Pc=0
  ·have p0':(j.Pc == 0)=true:=by grind
   simp only[p0',aP,aL p0];cases h1:(RU s.aA.aG w).2 with
   | true=>simp_all[oB,uP]
   | false=>simp_all[oB,uP]
  grind
 grind
omit hjo
theorem a0K:B3 s w=some (aRU s w):=by
 have ht:=hs.2.2.2.1;have hser:=hs.2.2.2.2.1;have hn:∀(e:Ev) {α:Type} (k:Option α),need (s.Log.length + [e].length<=1073741824) k=k:=fun e _ k=>aK (by simp;omega) k;have hq:idx s.cC w=some ⟨aUB s.cC w⟩:=by have:=ht.1;rw[eW hw.1 (by omega)];simp[aUB,M6,l9 (show w.toNat<s.cC.length by omega)]
 have ew:bB (s.aI+1)=s.aI+1:=aM (by omega) (by omega);have h12:(aUB s.cC w).length<=12:=by
  have h3:=ht.1;rw[eW hw.1 (by omega)] at hq;injection hq with hq
  have:=(ht.2 _ (dW (show w.toNat<s.cC.length by omega))).1;grind
 unfold B3 aRU;rw[hq,aD];simp only[zZ,hq,aD];cases ho:aUB s.cC w with
 | nil=>simp
 | cons o r =>
  rw[ho] at h12;simp only[W5] at h12;have l0:(((o :: r).length:Int) == 0)=false:=by simp;omega
  simp only[l0,aT,aS];by_cases s0:s.aI=1000000
  ·grind
  have s0':(s.aI == 1000000)=false:=by grind
  have hx:idx (o :: r) 0=some o:=rfl;have etk:((o :: r).take (o :: r).length).drop (1:Int).toNat=r:=by simp
  simp only[s0',aT,aS,aO s0,hx,aD,iU,ew];rw[aK (by grind)];have fin:∀jb:fU,fN s w ⟨o :: r⟩ o jb=some ⟨s.aA,s.Cells,s.aH.set w.toNat jb,s.cC.set w.toNat ⟨r⟩,s.Log ++ [⟨1,w,s.aI+1,o.Cell,0,0,0⟩],s.aI+1⟩:=fun jb=>by grind[fN,ZM]
  unfold a5E;by_cases k1:o.Kind=1
  ·have k1':(o.Kind == 1)=true:=by grind
   simp only[k1',aP,aL k1,fin];rfl
  have k1':(o.Kind == 1)=false:=by grind
  simp only[k1',aT,aS,aO k1];have pin:∀z,z=true->j9 s w ⟨o :: r⟩ o z=some ⟨s.aA,s.Cells,s.aH.set w.toNat (if(mO s.aA.aG w).On then⟨true,o,s.aI+1,9,W4 5 0,0,0,0,1⟩ else⟨true,o,s.aI+1,0,W4 5 0,0,0,0,0⟩),s.cC.set w.toNat ⟨r⟩,s.Log ++ [⟨1,w,s.aI+1,o.Cell,0,0,0⟩],s.aI+1⟩:=fun z hz=>by subst hz;simp only[j9,aP,iU,EF hs.1.1.2.1 hw,aD,ew,fin];cases (mO s.aA.aG w).On<;>rfl
  by_cases k2:o.Kind=2
  ·grind
  have k2':(o.Kind == 2)=false:=by grind
  simp only[k2',aT,aS];by_cases k5:o.Kind=5
  ·grind
  have k5':(o.Kind == 5)=false:=by grind
  simp only[k5',j9,aT,aS,aO (show ¬(o.Kind=2\/o.Kind=5) from fun h=>h.elim k2 k5),iU,aD,ew,fin];by_cases k4:o.Kind=4
  ·have k4':(o.Kind == 4)=true:=by grind
   simp only[k4',aP,aL k4];rfl
  grind
theorem a5G:UQ s w=some (aGF s w):=by
 have hn:∀(e:Ev) {α:Type} (k:Option α),need (s.Log.length + [e].length<=1073741824) k=k:=fun e _ k=>aK (by simp;omega) k;have hjk:JOk (vQ s w):=by
  have h:=ZM hs hw;have h3:=hs.2.2.1;rw[eW hw.1 (by omega)] at h;injection h with h
  rw[<-h];exact hs.2.2.2.2.2.2 _ (dW _)
 unfold UQ aGF;rw[ZM hs hw,aD];cases hb:(vQ s w).iI with
 | false=>simp only[o7,aP,a0K hs hl hw,aD]
 | true =>
  have hjo:=(YY hb).1 hjk;simp only[eF,aT,aS,reduceCtorEq];by_cases p9:(vQ s w).Pc=9
  ·have p9':((vQ s w).Pc == 9)=true:=by simpa using p9
   simp only[p9',aP,aL p9,hn];rfl
  have p9':((vQ s w).Pc == 9)=false:=by simpa using p9
  simp only[p9',aT,aS,aO p9];unfold a8O;by_cases k1:(vQ s w).Op.Kind=1
  ·have k1':((vQ s w).Op.Kind == 1)=true:=by simpa using k1
   simp only[k1',aP,aL k1];exact a8P hs hl hw hjo k1
  have k1':((vQ s w).Op.Kind == 1)=false:=by simpa using k1
  simp only[k1',aT,aS,aO k1];by_cases k2:(vQ s w).Op.Kind=2
  ·have k2':((vQ s w).Op.Kind == 2)=true:=by simpa using k2
   simp only[k2',aP,aL k2];exact a8Q hs hl hw hjo
  have k2':((vQ s w).Op.Kind == 2)=false:=by simpa using k2
  simp only[k2',aT,aS,aO k2];by_cases k3:(vQ s w).Op.Kind=3
  ·have k3':((vQ s w).Op.Kind == 3)=true:=by simpa using k3
   simp only[k3',aP,aL k3];exact a8R hs hl hw hjo
  have k3':((vQ s w).Op.Kind == 3)=false:=by simpa using k3
  simp only[k3',aT,aS,aO k3];by_cases k7:(vQ s w).Op.Kind=7
  ·have k7':((vQ s w).Op.Kind == 7)=true:=by simpa using k7
   simp only[k7',aP,aL k7];exact a5F hs hl hw hjo
  have k7':((vQ s w).Op.Kind == 7)=false:=by simpa using k7
  simp only[k7',aT,aS,aO k7];exact a0J hs hl hw hjo
theorem aUD:uX s w=some (aGF s w)/\SOk (aGF s w)/\(aGF s w).Log.length<=s.Log.length+1:=by grind[aRQ,a5G]
end
end Go.Gv
end
noncomputable section
namespace Go.Gv
def wV:List Int->Nat->List UInt8->List Int
 | b,_,[]=>b
 | b,a,c :: t=>wV (b.set a (c.toNat:Int)) (a+1) t
theorem YZ:∀(t:List UInt8) (b:List Int) (a:Nat),(wV b a t).length=b.length
 | [],b,a=>rfl
 | c :: t,b,a=>by rw[wV,YZ];simp
theorem aPE:∀(t:List UInt8) {b:List Int} (a:Nat),sZ b->sZ (wV b a t)
 | [],b,a,h=>h
 | c :: t,b,a,h=>aPE t (a+1) (aT1 a h ⟨by omega,by have:=c.toNat_lt;omega⟩)
theorem aD6:∀(t:List UInt8) {b:List Int} {a:Nat},a+t.length<=b.length->∀{j:Nat},(j<a\/a+t.length<=j)->bt (wV b a t) j=bt b j
 | [],b,a,h,j,hj=>rfl
 | c :: t, b, a, h, j, hj => by simp only[W5] at h hj;rw[wV,aD6 t (by simp;omega) (by omega),RS (by omega),aO (by omega)]
theorem aGG(b:List Int)(a:Nat)(t:List UInt8)(hl:b.length<=100000)(h:a+t.length<=b.length):∀(r:List UInt8) (k:Nat) (c:List Int),c.length=b.length->t.drop k=r->k+r.length=t.length->loop (mF b (a:Int) t) (c,(k:Int))=some (wV c (a+k) r)
 | [], k, c, hc, hr, hk => by refine bV ?_;simp only[mF];rw[aK hc,aO (by grind)];rfl
 | x :: r, k, c, hc, hr, hk => by
  simp only[W5] at hk;have hkt:k<t.length:=by omega
  have e:=M5 hkt;rw[hr] at e;injection e with e1 e2
  have st:mF b (a:Int) t (c,(k:Int))=some (.next (c.set (a+k) (x.toNat:Int),((k+1:Nat):Int))):=by simp only[mF];rw[aK hc,aL (by simp;omega),aV hkt,aD,aM (x:=(a:Int)+k) (by omega) (by omega),show(a:Int)+k=((a+k:Nat):Int) by omega,aV (by omega),aD,aM (by omega) (by omega),<-e1];rfl
  rw[bW st,aGG b a t hl h r (k+1) _ (by grind) e2.symm (by omega),wV];rfl
theorem aPF{b:List Int}{a:Nat}{t:List UInt8}(hl:b.length<=100000)(h:a+t.length<=b.length):mG b (a:Int) t=some (wV b a t):=by unfold mG;rw[show(0:Int)=((0:Nat):Int) from rfl,aGG b a t hl h t 0 b rfl rfl (by omega),aD];grind[NM,NL,aK,YZ]
theorem YN.wV{h:Heap}(hh:YN h){s:Int}(hc:0<=bD h s){o:Nat}{t:List UInt8}(ht:((o+t.length:Nat):Int)<=gH (bD h s)) :
  YN ⟨Gv.wV h.Bytes ((gA s (bD h s)).toNat+4+o) t,h.Class⟩/\∀u,0<=bD h u->mM ⟨Gv.wV h.Bytes ((gA s (bD h s)).toNat+4+o) t,h.Class⟩ u=mM h u:=by
 obtain⟨hs,hp⟩:=hh;have h384:=hs.1;have hs':fI ⟨Gv.wV h.Bytes ((gA s (bD h s)).toNat+4+o) t,h.Class⟩:=⟨by grind[YZ],hs.2.1,aPE _ _ hs.2.2.1,hs.2.2.2⟩;obtain⟨p,i,p6,hi,es,ec,eo,ep⟩:=yU hc;have hcl:0<=cG h p/\cG h p<=2:=nN.1 (by omega);rw[ec] at ht;have hroom:8+i*(bE (cG h p)).toNat+4+(gH (cG h p)).toNat<=64/\∀j,j<(dS (cG h p)).toNat->j*(bE (cG h p)).toNat+4<=i*(bE (cG h p)).toNat+4\/i*(bE (cG h p)).toNat+4+(gH (cG h p)).toNat<=j*(bE (cG h p)).toNat:=by grind[dS,bE,gH]
 have hot:o+t.length<=(gH (cG h p)).toNat:=by omega
 have hgen:∀q j,q<6->j<(dS (cG h q)).toNat->ld (Gv.wV h.Bytes ((gA s (bD h s)).toNat+4+o) t) (q*64+8+j*(bE (cG h q)).toNat) 4=ld h.Bytes (q*64+8+j*(bE (cG h q)).toNat) 4:=fun q j hq hj=>by
  have hz:=wA hs hq rfl hj;refine VA (by omega) (by grind[YZ]) fun k k1 k2=>?_;by_cases e:q=p
  ·subst e;have:=hroom.2 j hj;exact aD6 _ (by omega) (by omega)
  ·exact aD6 _ (by omega) (by omega)
 refine⟨⟨hs',fun q hq=>?_⟩,fun u hu=>?_⟩
 ·rw[KE hs' hq];have hold:=(KE hs hq).1 (hp q hq);by_cases e:q=p
  ·subst e;have hcl':¬cG h q<0:=by omega
   unfold aDW at hold ⊢;have hcc:cG ⟨Gv.wV h.Bytes ((gA s (bD h s)).toNat+4+o) t,h.Class⟩ q=cG h q:=rfl;rw[hcc];rw[aO hcl'] at hold ⊢;obtain⟨⟨a1,a2,a3⟩,a4,a5⟩:=hold;have bs:∀k,k<8->bt (Gv.wV h.Bytes ((gA s (bD h s)).toNat+4+o) t) (q*64+k)=bt h.Bytes (q*64+k):=fun k hk=>aD6 _ (by omega) (by omega);have b0:=bs 0 (by omega);grind
  ·refine aDW.same hq hs (by grind[YZ]) rfl (fun k hk=>aD6 _ (by omega) (by omega)) hold
 ·obtain⟨p',i',p6',hi',es',ec',eo',ep'⟩:=yU hu;have e2:bD ⟨Gv.wV h.Bytes ((gA s (bD h s)).toNat+4+o) t,h.Class⟩ u=bD h u:=rfl;grind[mM]
theorem oA.wV{m:Mem}(hm:oA m){s:Int}(hc:0<=bD m.Heap s){o:Nat}{t:List UInt8}(ht:((o+t.length:Nat):Int)<=gH (bD m.Heap s)):vP m ⟨⟨Gv.wV m.Heap.Bytes ((gA s (bD m.Heap s)).toNat+4+o) t,m.Heap.Class⟩,m.aB⟩ (-1):=by obtain⟨a,b⟩:=YN.wV hm.1.1 hc ht;refine⟨oA.heap hm a fun x hx=>⟨rfl,b x (oA.tC hm hx).1⟩,fun t ht _=>?_⟩;have ht':=qO.1 ht;have e:=b t ht'.1;exact⟨qO.2 ⟨ht'.1,ht'.2.1,by grind⟩,e,rfl⟩
def aUE:iZ:=⟨0,0,0⟩
def aBT(h:Heap)(s:Int):Nat:=(gA s (bD h s)).toNat+4
def bB3(h:Heap)(s:Int):iZ:=⟨ld h.Bytes (aBT h s) 2,ld h.Bytes (aBT h s+2) 4,ld h.Bytes (aBT h s+6) 4⟩
def ZV(h:Heap)(x:Int):iZ:=if kW x/\0<=bD h (x % 32)/\10<=gH (bD h (x % 32)) then bB3 h (x % 32) else aUE
theorem aFP{h:Heap}{s:Int}(hcl:0<=bD h s)(h10:10<=gH (bD h s)):aBT h s+10<=384/\16<=gH (bD h s):=by grind[bD,aBT,yU,gH,dS,bE]
theorem aMI{h:Heap}(hs:fI h)(s:Int):GC h s=some (decide (10<=gH (bD h s))):=by grind[GC,iY,OG]
theorem aBU{h:Heap}(hs:fI h){s:Int}(hc:0<=bD h s):zI h s=some (aBT h s:Int):=by have:=HC hc;grind[zI,aBT,iY,start_eq]
theorem a0L{h:Heap}(hs:fI h){s:Int}(hc:0<=bD h s)(h10:10<=gH (bD h s)):P2 h s=some (bB3 h s):=by
 have hr:=(aFP hc h10).1;have h1:=hs.1;unfold P2 bB3;rw[aBU hs hc,aD,show(2:Int)=((2:Nat):Int) from rfl,show(4:Int)=((4:Nat):Int) from rfl,nA hs.2.2.1 (by omega) (by omega) (by omega),aD,
  aM (by omega) (by omega),show(aBT h s:Int)+((2:Nat):Int)=((aBT h s+2:Nat):Int) by omega,nA hs.2.2.1 (by omega) (by omega) (by omega),aD,
  aM (by omega) (by omega),show(aBT h s:Int)+6=((aBT h s+6:Nat):Int) by omega,nA hs.2.2.1 (by omega) (by omega) (by omega)];rfl
theorem aPG{m:Mem}(hm:oA m)(x:Int):∃c,J1 m x=some (ZV m.Heap x,c):=by
 have hs:=hm.1.1.1;unfold J1 ZV;rw[fQ,aD];by_cases hh:kW x
 ·rw[b9 hh,aO (by simp),(kW.mod hh).1,iY hs,aD];unfold GD;by_cases hc:bD m.Heap (x % 32)<0
  ·rw[b9 hc,aL rfl,aO (by omega)];exact⟨_,rfl⟩
  ·rw[eE hc,aO (by simp),(kW.mod hh).1,aMI hs,aD];by_cases h10:10<=gH (bD m.Heap (x % 32))
   ·simp_all[a0L]
   ·rw[eE h10,aL (by rfl),aO (by omega)];exact⟨_,rfl⟩
 ·rw[eE hh,aL (by rfl),aO (fun q=>hh q.1)];exact⟨_,rfl⟩
def aFQ(n:iZ):Int:=if kW n.Next then n.Next else 0
theorem aRV(n:iZ):iA n=some (aFQ n):=by unfold iA aFQ;rw[fQ,aD];grind
theorem aFR(n:iZ):eV (aFQ n):=by
 unfold aFQ;split
 ·exact .inr (by assumption)
 ·exact .inl rfl
def aUF(m:Mem)(x:Int):Prop:=mN m x/\10<=gH (bD m.Heap (x % 32))
instance (m:Mem) (x:Int):Decidable (aUF m x):=by unfold aUF;infer_instance
theorem aGH{m:Mem}(hm:oA m)(x:Int):∃c,BK m x=some c/\(c=0↔aUF m x):=by
 obtain⟨hcnt,h3,h9,h1,h2,hsm,hcp,hlo,hsG,hsO⟩:=oA.facts hm;have hs:=hm.1.1.1;unfold BK aUF;rw[HE hs (by omega) (by rw[h3];simp[maxLen]) (by rw[h9];simp[maxLen]),aD];by_cases hl:mN m x
 ·rw[b9 hl,aO (by simp),(kW.mod hl.1).1,aMI hs,aD];by_cases h10:10<=gH (bD m.Heap (x % 32))
  ·rw[b9 h10,aO (by simp)];exact⟨_,rfl,by simp[hl,h10]⟩
  ·rw[eE h10,aL (by rfl)];exact⟨_,rfl,by simp[hl,h10]⟩
 simp_all
def aMJ(n:Int):List UInt8:=[u8 (n / 256),u8 n]
theorem aWS{n:Int}(hn:0<=n/\n<=65535):lS n 2=some (aMJ n):=by
 have hw:jQ 2=some true:=by grind[jQ,eC]
 unfold lS;rw[hw];have e1:IntKind.u64.wrap (bB (8*2))=16:=by decide
 have e2:aJF .i64 1 16=65536:=by decide
 simp only[aD,eF,aT,aS,e1,e2];rw[aO (by simp;omega),aK (by omega),eE (by omega)];simp only[vT,aT,aS];rw[aK (by omega),show bB (2 - 1)=((1:Nat):Int) from by grind[aM]];have st:∀(m:Int) (c:List UInt8) (i:Nat),i<c.length->i<4->0<=m->qQ (m,c,(i:Int))=some (.next (m / 256,c.set i (u8 m),(i:Int) - 1)):=fun m c i hc hi h0=>by simp only[qQ];rw[aL (by simp),aV hc,aD,show(8:Int)=((8:Nat):Int) from rfl,aYU h0 (by omega),aM (by omega) (by omega),OR];rfl
 rw[bW (st n _ 1 (by simp) (by omega) hn.1),show((1:Nat):Int) - 1=((0:Nat):Int) by rfl,
  bW (st _ _ 0 (by simp) (by omega) (by omega)),bV (r:=aMJ n)]
 ·rfl
 ·simp only[qQ];rw[aO (by simp)];rfl
def bD1(n:iZ):List UInt8:=aMJ n.Key++HF n.cK++HF n.Next
def a0M(n:iZ):Prop:=(0<=n.Key/\n.Key<=99)/\(0<=n.cK/\n.cK<=65535)/\eV n.Next
instance (n:iZ):Decidable (a0M n):=by unfold a0M;infer_instance
theorem a0N(n:iZ):P4 n=some (decide (a0M n)):=by grind[P4,a0M,eC,aD3,xV]
theorem aUG{x:Int}(h:eV x):0<=x/\x<=223:=by
 rcases h with h | h
 ·omega
 ·have:=h.1;omega
def aUH(m:Mem)(x:Int)(n:iZ):Mem:=if a0M n/\aUF m x then⟨⟨wV m.Heap.Bytes (aBT m.Heap (x % 32)) (bD1 n),m.Heap.Class⟩,m.aB⟩ else m
theorem aWT{m:Mem}(hm:oA m)(x:Int)(n:iZ):∃c,MG m x n=some (aUH m x n,c):=by
 obtain⟨hcnt,h3,h9,h1,h2,hsm,hcp,hlo,hsG,hsO⟩:=oA.facts hm;have hs:=hm.1.1.1;have hbl:m.Heap.Bytes.length<=maxLen:=by grind[maxLen]
 unfold MG aUH;rw[QF hsm,aD,JK hbl (by omega),b9 hm,aD,aO (by simp),a0N,aD];unfold CU;by_cases hn:a0M n
 ·rw[b9 hn,aO (by simp)];obtain⟨c,e,hc⟩:=aGH hm x;rw[e,aD];by_cases hw:aUF m x
  ·have hcl:=jF hw.1.2.1;have hr:=(aFP hcl hw.2).1;have hnx:=aUG hn.2.2;have hk1:=hn.1.2;have hv1:=hn.2.1.2;obtain rfl:=hc.2 hw;rw[aL (by rfl),(kW.mod hw.1.1).1,aBU hs hcl,aD,aWS ⟨hn.1.1,by omega⟩,aD,OL ⟨hn.2.1.1,by omega⟩,aD,aK (by simp[aMJ,HF]),
    OL ⟨hnx.1,by omega⟩,aD,aK (by simp[aMJ,HF]),aPF (by omega) (by grind[aMJ,HF]),aD,aL ⟨hn,hw⟩]
   exact⟨_,rfl⟩
  ·rw[aO (by grind),aO (fun q=>hw q.2)];exact⟨_,rfl⟩
 simp_all
def aUI(m:Mem)(x y:Int):Mem:=if eV y/\aUF m x then⟨⟨wV m.Heap.Bytes (aBT m.Heap (x % 32)+6) (HF y),m.Heap.Class⟩,m.aB⟩ else m
theorem a0O{m:Mem}(hm:oA m)(x y:Int):∃c,P3 m x y=some (Gv.aUI m x y,c):=by
 obtain⟨hcnt,h3,h9,h1,h2,hsm,hcp,hlo,hsG,hsO⟩:=oA.facts hm;have hs:=hm.1.1.1;have hbl:m.Heap.Bytes.length<=maxLen:=by grind[maxLen]
 unfold P3 Gv.aUI;rw[QF hsm,aD,JK hbl (by omega),b9 hm,aD,aO (by simp),aD3,aD];unfold GI;by_cases hn:eV y
 ·rw[b9 hn,aO (by simp)];obtain⟨c,e,hc⟩:=aGH hm x;rw[e,aD];by_cases hw:aUF m x
  ·have hcl:=jF hw.1.2.1;have hr:=(aFP hcl hw.2).1;have hnx:=aUG hn;obtain rfl:=hc.2 hw;rw[aL (by rfl),(kW.mod hw.1.1).1,aBU hs hcl,aD,OL ⟨hnx.1,by omega⟩,aD,aM (by omega) (by omega),show(aBT m.Heap (x % 32):Int)+6=((aBT m.Heap (x % 32)+6:Nat):Int) by omega,
    aPF (by omega) (by grind[HF]),aD,aL ⟨hn,hw⟩]
   exact⟨_,rfl⟩
  ·rw[aO (by grind),aO (fun q=>hw q.2)];exact⟨_,rfl⟩
 simp_all
theorem a5H{m:Mem}(hm:oA m)(x:Int)(n:iZ):vP m (aUH m x n) (-1):=by
 unfold aUH;split
 ·rename_i h;have:=aFP (jF h.2.1.2.1) h.2.2;exact oA.wV hm (jF h.2.1.2.1) (o:=0) (by grind[bD1,aMJ,HF])
 ·exact⟨hm,fun s h _=>⟨h,rfl,rfl⟩⟩
theorem a5I{m:Mem}(hm:oA m)(x y:Int):vP m (Gv.aUI m x y) (-1):=by
 unfold Gv.aUI;split
 ·rename_i h;have:=aFP (jF h.2.1.2.1) h.2.2;exact oA.wV hm (jF h.2.1.2.1) (o:=6) (by grind[HF])
 ·exact⟨hm,fun s h _=>⟨h,rfl,rfl⟩⟩
end Go.Gv
end
noncomputable section
namespace Go.Gv
def a5J:Heap:=⟨List.replicate 384 0,[-1,-1,-1,-1,-1,-1]⟩
def bB4:aB:=⟨List.replicate 3 ⟨[]⟩,List.replicate 9 ⟨[]⟩⟩
def aUJ:aA:=⟨⟨a5J,bB4⟩,⟨0,List.replicate 3 ⟨false,0,false,0⟩⟩,List.replicate 3 ⟨[]⟩,List.replicate 3 0⟩
theorem aID:LP=some a5J:=by
 unfold LP;have key:loop uR (0,[])=some (List.replicate 6 (-1)):=kT (f:=uR) 6 (fun k=>((k:Int),List.replicate k (-1))) _ (fun k hk=>by
  simp only[uR];rw[aL (by simp;omega),aK (by simp;omega),aM (by omega) (by omega),List.replicate_succ'];rfl) (by simp[uR])
 rw[aK (by omega),key];rfl
theorem bB5:wJ [-1] 6=some [-1,-1,-1,-1,-1,-1]:=by
 unfold wJ;rw[aO (by simp),show QU (IntKind.u64.wrap (([-1]:List Int).length:Int)) (IntKind.u64.wrap 6)=some (0,6) by kernel_rfl];simp only[aD];rw[aO (by simp),eE (by omega)];simp only[pZ,aT,aS];rw[show IntKind.i64.wrap 6=6 from wrap_i64 (by omega) (by omega),aK (by omega),
  show(dC (List.replicate (Int.toNat 6) 0) 0 [-1],((min ([-1]:List Int).length ((List.replicate (Int.toNat 6) (0:Int)).length - 0):Nat):Int))=([-1,0,0,0,0,0],1) by kernel_rfl,
  bW (body:=mE) (s':=([-1,-1,0,0,0,0],2)) (by kernel_rfl),bW (body:=mE) (s':=([-1,-1,-1,-1,0,0],4)) (by kernel_rfl),
  bW (body:=mE) (s':=([-1,-1,-1,-1,-1,-1],6)) (by kernel_rfl),bV (body:=mE) (r:=[-1,-1,-1,-1,-1,-1]) (by kernel_rfl)]
 rfl
theorem aIE:LV=some a5J:=by unfold LV;rw[aK (by omega),bB5];rfl
theorem VF:EU=some aUJ/\E5=some aUJ:=by unfold EU E5 XG XL QP QV QQ QW QT QX XH XM;rw[aID,aIE,aK (by omega),aK (by omega),aK (by omega),aK (by omega),aK (by omega)];exact⟨rfl,rfl⟩
theorem aUK:nB aUJ:=of_decide_eq_true (by kernel_rfl)
def aY3:aE:=⟨⟨⟨⟨[],[]⟩,⟨[],[]⟩⟩,⟨0,[]⟩,[],[]⟩,[],[],[],[],0⟩
def A3(t:List Queue):aE:=⟨aUJ,List.replicate 2 0,List.replicate 3 aT8,t,[],0⟩
theorem aFS{t:List Queue}(h:YX t):SOk (A3 t):=
 ⟨aUK,rfl,rfl,h,by simp[A3],fun q hq=>by simp[A3] at hq;exact .inl hq,fun j hj=>by simp[A3] at hj;exact(aT9 (by rw[hj];rfl)).2 hj⟩
theorem aPH{l:List Queue}(hl:l.length<=1048576)(hq:∀q∈l,q.lX.length<=1048576):EW l=some l/\IX l=some l:=by
 constructor
 ·unfold EW;rw[TS l]
  ·rfl
  ·intro k hk;have:=hq _ (dW hk);simp only[EV];rw[aL (by simp;omega),aV hk];simp only[aD];rw[aK (by simp;omega),aK (by simp;omega),aM (by omega) (by omega)];rfl
  grind[EV]
 ·unfold IX;rw[TS l]
  ·rfl
  ·intro k hk;have:=hq _ (dW hk);simp only[H4];rw[aL (by simp;omega),aV hk];simp only[aD,KN];rw[aK (by simp;omega),aD,aK (by simp;omega),aM (by omega) (by omega)];rfl
  grind[H4]
theorem aGI{t:List Queue}(hl:t.length<=1048576)(hq:∀q∈t,q.lX.length<=1048576):IQ t=some (if YX t then A3 t else aY3)/\IY t=some (if YX t then A3 t else aY3):=by
 have hm:t.length<=maxLen:=by grind[maxLen]
 unfold IQ IY;rw[aRO hm,aRP hm (fun q h=>by grind[maxLen])];simp only[aD];by_cases h:YX t
 ·simp only[b9 h,eF,aT,aS,aL h,VF.1,VF.2,aD,(aPH hl hq).1,(aPH hl hq).2];rw[aK (by omega),aK (by omega),aK (by omega),aK (by omega)];exact⟨rfl,rfl⟩
 ·simp only[eE h,o7,aP,aO h];exact⟨rfl,rfl⟩
end Go.Gv
end
noncomputable section
namespace Go.Gv
def tF{α:Type}(o:Option α)(Q:α->Prop):Prop:=∃x,o=some x/\Q x
abbrev a90{σ ρ:Type}(I:σ->Prop)(Q:ρ->Prop):Step σ ρ->Prop
 | .next s=>I s
 | .stop r=>Q r
namespace tF
variable {α β σ ρ:Type} {Q:α->Prop}
theorem ret{x:α}(h:Q x):tF (some x) Q:=⟨x,rfl,h⟩
theorem bind{P:β->Prop}{o:Option β}{f:β->Option α}(h:tF o P)(hf:∀x,P x->tF (f x) Q):tF (o.bind f) Q:=by obtain⟨x,e,hx⟩:=h;grind
theorem need{p:Prop}[Decidable p]{k:Option α}(h:p)(hk:tF k Q):tF (Gv.need p k) Q:=by grind[aK]
theorem ite{c:Prop}[Decidable c]{a b:Option α}(h1:c->tF a Q)(h2:¬c->tF b Q):tF (if c then a else b) Q:=by grind
theorem mono{P:α->Prop}{o:Option α}(h:tF o P)(hf:∀x,P x->Q x):tF o Q:=by obtain⟨x,e,hx⟩:=h;exact⟨x,e,hf x hx⟩
theorem idx{l:List β}{i:Int}(h:0<=i/\i<l.length):tF (Gv.idx l i) (fun x=>x∈l):=⟨_,eW h.1 h.2,dW _⟩
theorem loop{Q:ρ->Prop}{f:σ->Option (Step σ ρ)}{s:σ}(μ:σ->Nat)(Inv:σ->Prop)(h0:Inv s)(hb:∀s,Inv s->tF (f s) (a90 (fun s'=>Inv s'/\μ s'<μ s) (fun r=>Q r))):tF (Gv.loop f s) Q:=by
 have key:∀n s,μ s<n->Inv s->tF (Gv.loop f s) Q:=by
  intro n;induction n with
  | zero=>omega
  | succ n ih =>
   intro s h hs;obtain⟨q,e,hq⟩:=hb s hs;cases q with
   | next s'=>grind[bW]
   | stop r=>rw[bV e];exact⟨r,rfl,hq⟩
 exact key _ s (Nat.lt_succ_self _) h0
theorem of{o:Option α}{x:α}(h:o=some x):tF o (fun y=>y=x):=⟨x,h,rfl⟩
end tF
def Cu(b:List UInt8)(i:Int):Prop:=(0<=i/\i<=b.length)/\b.length<=1048576
theorem a5K(x:Int):0<=iP .and .i64 x 255/\iP .and .i64 x 255<=255:=by have e:iP .and .i64 x 255=IntKind.i64.wrap ((BitVec.ofInt 64 x &&& BitVec.ofInt 64 255).toNat:Int):=rfl;grind[Nat.and_le_right,wrap_i64]
noncomputable section
variable {b:List UInt8} {i h:Int} (hc:Cu b i)
include hc
theorem aUL:tF (tH ⟨b,i,h⟩) (fun x=>(0<=x.1/\x.1<=255)/\Cu b x.2.1):=by
 unfold tH EN;obtain⟨⟨a1,a2⟩,a3⟩:=hc;refine .ite (fun q=>?_) (fun q=>?_)
 ·have q':=of_decide_eq_true q;simp only at q';refine .bind (.idx ⟨a1,q'⟩) fun x _=>.ret ⟨a5K _,?_⟩;grind[Cu,aM]
 ·exact .ret ⟨a5K _,⟨a1,a2⟩,a3⟩
theorem below{n:Int}(hn:n<=1000000):tF (dI ⟨b,i,h⟩ n) (fun x=>(0<=x.1/\(x.1<n\/n<=0/\x.1=0))/\Cu b x.2.1):=by
 unfold dI;refine .ite (fun q=>?_) (fun q=>?_)
 ·have q':=of_decide_eq_true q;exact .ret ⟨by simp;omega,hc⟩
 ·have q0:0<n:=by grind
  refine .ite (fun q=>?_) (fun q=>?_)
  ·refine .bind (aUL hc) fun x ⟨hx,h1⟩=>.need (by omega) (.ret ⟨?_,h1⟩);simp only[OF hx.1];exact⟨Int.emod_nonneg _ (by omega),.inl (Int.emod_lt_of_pos _ q0)⟩
  ·refine .bind (aUL hc) fun x ⟨hx,h1⟩=>.bind (aUL h1) fun y ⟨hy,h2⟩=>.bind (aUL h2) fun z ⟨hz,h3⟩=>.bind (aUL h3) fun w ⟨hw,h4⟩=>.need (by omega) (.ret ⟨?_,h4⟩);have e:bB (bB (bB (bB (x.1*16777216)+bB (y.1*65536))+bB (z.1*256))+w.1)=x.1*16777216+y.1*65536+z.1*256+w.1:=by grind[aM]
   simp only[e];rw[OF (by omega)];exact⟨Int.emod_nonneg _ (by omega),.inl (Int.emod_lt_of_pos _ q0)⟩
theorem a91{n:Int}(hn:n<=1000000):tF (PE ⟨b,i,h⟩ n) (fun x=>Cu b x.2.1):=
 .bind (below hc hn) fun _ ⟨_,h1⟩=>.ret h1
theorem aAV{l:List Int}(hl:0<l.length)(hl2:l.length<=1000):tF (iQ ⟨b,i,h⟩ l) (fun x=>x.1∈l/\Cu b x.2.1):=
 .bind (below hc (by omega)) fun x ⟨hx,h1⟩=>.bind (.idx (by omega)) fun y hy=>.ret ⟨hy,h1⟩
end
theorem bD2{code:List UInt8}(hl:code.length<=1048576):tF (NF code) (fun x=>Cu code x.1):=by
 unfold NF;refine .bind (P:=fun _=>True) (.loop (fun s=>code.length - s.2.toNat) (fun s=>0<=s.2/\s.2<=code.length) ⟨by simp,by simp⟩ ?_) fun x _=>.ret ⟨⟨by simp,by simp⟩,hl⟩;rintro⟨a,k⟩ ⟨h1,h2⟩;simp only[Z5,IK];simp only at h1 h2;have nx:k<code.length->tF ((idx code k).bind fun x7=>some (Step.next (iP .and .i64 (bB ((bB ((bB (a*131))+(x7.toNat:Int)))+7)) 1073741823,bB (k+1)))) (a90 (ρ:=Int) (fun s'=>(0<=s'.2/\s'.2<=code.length)/\code.length - s'.2.toNat<code.length - k.toNat) (fun r=>True)):=fun hk=>by refine .bind (.idx ⟨h1,hk⟩) fun x _=>.ret ?_;grind[aM]
 refine .ite (fun q=>?_) (fun q=>?_)
 ·have q':=of_decide_eq_true q;exact .ite (fun _=>nx q') (fun _=>.ret trivial)
 ·rw[aO (by simp)];exact .ret trivial
end Go.Gv
end
