import Derived.Test.YtdooodokcphomaaGreatXUG
set_option linter.unusedVariables false
set_option linter.unusedSimpArgs false
set_option linter.unusedSectionVars false
set_option linter.constructorNameAsVariable false
set_option linter.unnecessarySimpa false
set_option linter.defProp false
noncomputable section
namespace Go.Gv
variable{c n s w x:Int}{xs z:an}{t:bh}{l:bn}{m:Mem}{i j k p:Nat}{O:Type}
def K3(h:Heap)(l:an)(c:Int):Prop:=∀x∈l,bO h x=c/\kL h x<=6
instance (h:Heap) (l:an) (c:Int):Decidable (K3 h l c):=by unfold K3;infer_instance
def YQ{h:Heap}(g:gC h){l:an}(hl:l.length<=maxLen)(hc:0<=c):EK h l c=some (decide (K3 h l c)):=by
 unfold EK;have key:loop (oP h l c) 0=some (if ∀x∈l,bO h x=c/\kL h x<=6 then Out.brk () else Out.ret false):=by
  have a:∀k (hk:k<l.length),oP h l c (k:Int)=if bO h l[k]=c/\kL h l[k]<=6 then some (.next ((k+1:Nat):Int)) else some (.stop (Out.ret false)):=by
   intro k hk;simp only[oP];rw[cO,aS hk];generalize l[k]=x;simp only[aI,nD g,CL];by_cases q:bO h x=c
   .have b:(bO h x != c)=false:=by simp only[bne_eq_false_iff_eq];exact q
    simp only[b,bQ,bN,sE g (show 0<=bO h x by omega),aI,nT (R3 hk hl)];by_cases e:kL h x<=6
    .rw[T8,aM ⟨q,e⟩]
    .rw[cO,aO (λx=>e x.2)]
   .have b:(bO h x != c)=true:=by simp only[bne_iff_ne];exact q
    simp only[b,bS];rw[aO (λx=>q x.1)]
  refine m0 (f:=oP h l c) l (λk=>(k:Int)) (λx=>bO h x=c/\kL h x<=6) _ _ (λk hk d=>?_) (λk hk d=>?_) ?_
  .rw[a k hk,aM d]
  .rw[a k hk,aO d]
  .simp[oP]
 rw[key];by_cases q:∀x∈l,bO h x=c/\kL h x<=6
 .rw[aM q,bY (show K3 h l c from q)];rfl
 .rw[aO q,eQ (show ¬K3 h l c from q)];rfl
def YR{h:Heap}(g:gC h){s:bK}(hl:s.aW.length<=maxLen)(hc:0<=c):EB h s c=some (decide (K3 h s.aW c)):=by
 unfold EB;have key:loop (oK h s c) 0=some (if ∀x∈s.aW,bO h x=c/\kL h x<=6 then Out.brk () else Out.ret false):=by
  have a:∀k (hk:k<s.aW.length),oK h s c (k:Int)=if bO h s.aW[k]=c/\kL h s.aW[k]<=6 then some (.next ((k+1:Nat):Int)) else some (.stop (Out.ret false)):=by
   intro k hk;simp only[oK];rw[cO,aS hk];generalize s.aW[k]=x;simp only[aI,lI g,CF];by_cases q:bO h x=c
   .have b:(bO h x != c)=false:=by simp only[bne_eq_false_iff_eq];exact q
    simp only[b,bQ,bN,N3 g (show 0<=bO h x by omega),aI,nT (R3 hk hl)];by_cases e:kL h x<=6
    .rw[T8,aM ⟨q,e⟩]
    .rw[cO,aO (λx=>e x.2)]
   .have b:(bO h x != c)=true:=by simp only[bne_iff_ne];exact q
    simp only[b,bS];rw[aO (λx=>q x.1)]
  refine m0 (f:=oK h s c) s.aW (λk=>(k:Int)) (λx=>bO h x=c/\kL h x<=6) _ _ (λk hk d=>?_) (λk hk d=>?_) ?_
  .rw[a k hk,aM d]
  .rw[a k hk,aO d]
  .simp[oK]
 rw[key];by_cases q:∀x∈s.aW,bO h x=c/\kL h x<=6
 .rw[aM q,bY (show K3 h s.aW c from q)];rfl
 .rw[aO q,eQ (show ¬K3 h s.aW c from q)];rfl
def fE(l:bf)(k:Nat):an:=(l.getD k ⟨[]⟩).aW
theorem eB{l:bf}(h:k<l.length):l[k].aW=fE l k:=by grind[fE]
def WV(m:Mem)(k:Nat):Prop:=K3 m.Heap (fE m.aC.Global k) (k:Int)
def LL(m:Mem)(k:Nat):Prop:=K3 m.Heap (fE m.aC.Own k) ((k % 3:Nat):Int)
instance (m:Mem) (k:Nat):Decidable (WV m k):=by unfold WV;infer_instance
instance (m:Mem) (k:Nat):Decidable (LL m k):=by unfold LL;infer_instance
instance (m:Mem):Decidable (∀k,k<3->WV m k):=Nat.decidableBallLT 3 λk _=>WV m k
instance (m:Mem):Decidable (∀k,k<9->LL m k):=Nat.decidableBallLT 9 λk _=>LL m k
instance (m:Mem) (c:Nat):Decidable (∀w,w<3->LL m (w*3+c)):=Nat.decidableBallLT 3 λw _=>LL m (w*3+c)
instance (m:Mem):Decidable (∀k,k<3->WV m k/\∀w,w<3->LL m (w*3+k)):=Nat.decidableBallLT 3 λk _=>WV m k/\∀w,w<3->LL m (w*3+k)
def lN(m:Mem):Prop:=(HOk m.Heap/\LOk m.aC)/\(∀k,k<3->WV m k)/\∀k,k<9->LL m k
instance (m:Mem):Decidable (lN m):=by unfold lN;infer_instance
def LOk.aYO{l:aC}(h:LOk l)(a:(eN l).length<=1073741824):(∀s∈l.Global,s.aW.length<=1073741824)/\∀s∈l.Own,s.aW.length<=1073741824:=by grind[eN,aF8,aT2]
def a96:(∀k,k<3->WV m k/\∀w,w<3->LL m (w*3+k))↔(∀k,k<3->WV m k)/\∀k,k<9->LL m k:=by
 constructor
 .intro h;refine⟨λk hk=>(h k hk).1,λk hk=>?_⟩;have:=(h (k % 3) aa).2 (k/3) aa;grind
 grind
def aXP(r:m.Heap.Bytes.length<=maxLen)(hl:(eN m.aC).length<=1073741824):ZN m=some (decide (lN m)):=by
 unfold ZN NP;rw[aT1 r,aPP hl];by_cases h:HOk m.Heap
 .by_cases d:LOk m.aC
  .have n:(1073741824:Nat)<=maxLen:=by simp[maxLen]
   have b:=LOk.aYO d hl;simp only[bY h,bY d,aI,jI,bQ,bN];have o:∀c:Nat,c<3->loop (EM m (c:Int)) 0=some (if ∀w,w<3->LL m (w*3+c) then Out.brk () else Out.ret false):=by
    intro c hc;have i:∀w:Nat,w<3->EM m (c:Int) (w:Int)=if LL m (w*3+c) then some (.next ((w+1:Nat):Int)) else some (.stop (Out.ret false)):=by
     intro w s;have hk:w*3+c<m.aC.Own.length:=by rw[d.2.1];omega
     have e:AZ (w:Int) (c:Int)=some ((w*3+c:Nat):Int):=by unfold AZ EL;rw[cR,cR,bY aa,bY aa];simp only[aI,jI,bQ,bN];grind[cC]
     have a:=b.2 _ (cQ hk);simp only[EM];rw[cO,e];simp only[aI,aS hk];rw[YQ h.1 aa aa,eB hk];have t:(w*3+c) % 3=c:=aa
     have ho:LL m (w*3+c)↔K3 m.Heap (fE m.aC.Own (w*3+c)) (c:Int):=by grind[LL]
     rw[cY];grind
    refine BP (f:=EM m (c:Int)) 3 (λk=>(k:Int)) (λw=>LL m (w*3+c)) _ _ (λk hk j=>?_) (λk hk j=>?_) ?_
    .grind
    .grind
    .rfl
   have p:loop (EN m) 0=some (if ∀k,k<3->WV m k/\∀w,w<3->LL m (w*3+k) then Out.brk () else Out.ret false):=by
    have i:∀c:Nat,c<3->EN m (c:Int)=if WV m c/\∀w,w<3->LL m (w*3+c) then some (.next ((c+1:Nat):Int)) else some (.stop (Out.ret false)):=by
     intro c hc;have hk:c<m.aC.Global.length:=by rw[d.1];omega
     have a:=b.1 _ (cQ hk);simp only[EN];rw[cO];simp only[aI,aS hk];rw[YQ h.1 aa aa,eB hk,o c hc];by_cases q:WV m c
     .have l:K3 m.Heap (fE m.aC.Global c) (c:Int):=q;rw[bY l];simp only[aI,jI,bQ,bN];by_cases g:∀w,w<3->LL m (w*3+c)
      .rw[aM g,aM ⟨q,g⟩];simp only[aGI,aGH];grind[cC]
      .rw[aO g,aO (λx=>g x.2)];rfl
     .have l:¬K3 m.Heap (fE m.aC.Global c) (c:Int):=q;grind
    refine BP (f:=EN m) 3 (λk=>(k:Int)) (λk=>WV m k/\∀w,w<3->LL m (w*3+k)) _ _ (λk hk j=>?_) (λk hk j=>?_) ?_
    .grind
    .grind
    .rfl
   rw[p];by_cases q:∀k,k<3->WV m k/\∀w,w<3->LL m (w*3+k)
   .rw[aM q,bY (show lN m from⟨⟨h,d⟩,a96.1 q⟩)];rfl
   .rw[aO q,eQ (λx:lN m=>q (a96.2 x.2))];rfl
  grind[lN]
 grind[lN]
def E4(o:m.Heap.Bytes.length<=maxLen)(hl:(eN m.aC).length<=1073741824):AI m=some (decide (lN m)):=by
 unfold AI NA;rw[TF o,aBV hl];by_cases e:HOk m.Heap
 .by_cases a:LOk m.aC
  .have i:(1073741824:Nat)<=maxLen:=by simp[maxLen]
   have c:=LOk.aYO a hl;simp only[bY e,bY a,aI,jI,bQ,bN];have j:loop (yK m) 0=some (if ∀k,k<9->LL m k then Out.brk () else Out.ret false):=by
    have g:∀w:Nat,w<9->yK m (w:Int)=if LL m w then some (.next ((w+1:Nat):Int)) else some (.stop (Out.ret false)):=by
     intro w n;have hk:w<m.aC.Own.length:=by rw[a.2.1];omega
     have b:=c.2 _ (cQ hk);have p:Int.tmod (w:Int) 3=((w % 3:Nat):Int):=aj
     simp only[yK];rw[cO];simp only[aI,aS hk,p];rw[YR e.1 aa aa,eB hk,cY];by_cases q:LL m w
     .rw[aM q,bY (show K3 m.Heap (fE m.aC.Own w) ((w % 3:Nat):Int) from q)];rfl
     .rw[aO q,eQ (show ¬K3 m.Heap (fE m.aC.Own w) ((w % 3:Nat):Int) from q)];rfl
    refine BP (f:=yK m) 9 (λk=>(k:Int)) (λw=>LL m w) _ _ (λk hk h=>?_) (λk hk h=>?_) ?_
    .grind
    .grind
    .simp[yK,a.2.1]
   have l:loop (yL m) 0=some (if ∀k,k<3->WV m k then Out.brk () else Out.ret false):=by
    have g:∀w:Nat,w<3->yL m (w:Int)=if WV m w then some (.next ((w+1:Nat):Int)) else some (.stop (Out.ret false)):=by
     intro w n;have hk:w<m.aC.Global.length:=by rw[a.1];omega
     have b:=c.1 _ (cQ hk);simp only[yL];rw[cO];simp only[aI,aS hk];rw[YR e.1 aa aa,eB hk,cY];by_cases q:WV m w
     .rw[aM q,bY (show K3 m.Heap (fE m.aC.Global w) (w:Int) from q)];rfl
     .rw[aO q,eQ (show ¬K3 m.Heap (fE m.aC.Global w) (w:Int) from q)];rfl
    refine BP (f:=yL m) 3 (λk=>(k:Int)) (λw=>WV m w) _ _ (λk hk h=>?_) (λk hk h=>?_) ?_
    .grind
    .grind
    .simp[yL,a.1]
   rw[l];by_cases q:∀k,k<3->WV m k
   .rw[aM q];simp only[aI,aGE,aGD];rw[j];by_cases d:∀k,k<9->LL m k
    .rw[aM d,bY (show lN m from⟨⟨e,a⟩,q,d⟩)];rfl
    .rw[aO d,eQ (λx:lN m=>d x.2.2)];rfl
   .rw[aO q,eQ (λx:lN m=>q x.2.1)];rfl
  grind[lN]
 grind[lN]
def OV{l:bf}{s:bK}(h:s∈l):s.aW.length<=(fT l).length:=by grind[aF8,aT2]
theorem xZ(l:aC):(eN l).length=(fT l.Global).length+(fT l.Own).length:=by simp[eN]
def G9(m:Mem):Prop:=m.Heap.Bytes.length<=1048576/\m.Heap.Class.length<=1048576/\m.aC.Global.length<=1048576/\m.aC.Own.length<=1048576/\(eN m.aC).length<=1048576
def G9.aYO(h:G9 m):(∀s∈m.aC.Global,s.aW.length<=1048576)/\∀s∈m.aC.Own,s.aW.length<=1048576:=by have:=xZ m.aC;have b:=h.2.2.2.2;exact⟨λs a=>by have:=OV a;omega,λs a=>by have:=OV a;omega⟩
def POk(e:Int)(p:zR):Prop:=(0<=p.aL/\p.aL<=e)/\(0<=p.Seen/\p.Seen<=2)/\(p.On=false->p=⟨false,0,false,0⟩)
instance (e:Int) (p:zR):Decidable (POk e p):=by unfold POk;infer_instance
def O0(c:aD):Prop:=(0<=c.aL/\c.aL<=100000)/\c.cV.length=3/\∀p∈c.cV,POk c.aL p
instance (c:aD):Decidable (O0 c):=by unfold O0;infer_instance
def jY(c:aD):rJ c=some (decide (O0 c)):=by
 unfold rJ;rw[cR];by_cases f:0<=c.aL/\c.aL<=100000
 .by_cases d:c.cV.length=3
  .simp only[aI,f,d,qH];have key:∀k:Nat,k<=3->loop (xO c) (k:Int)=some (if ∀p∈c.cV.drop k,POk c.aL p then Out.brk () else Out.ret false):=by
    refine aZS 3 _ λk hk=>?_;by_cases j:k<3
    .have i:c.cV.drop k=c.cV[k]::c.cV.drop (k+1):=vA aa;simp only[xO];rw[cO,RK];simp only[aI,cR,nA,i];rw[nT (by simp[maxLen];omega)];generalize c.cV[k]=p;have g:POk c.aL p↔decide (0<=p.aL/\p.aL<=c.aL)=true/\decide (0<=p.Seen/\p.Seen<=2)=true/\(p.On=false->decide (p=⟨false,0,false,0⟩)=true):=by simp only[POk,decide_eq_true_eq]
     simp only[List.forall_mem_cons,g];generalize decide (0<=p.aL/\p.aL<=c.aL)=b1;generalize decide (0<=p.Seen/\p.Seen<=2)=m;generalize decide (p=⟨false,0,false,0⟩)=b3;generalize p.On=l;cases b1<;>cases m<;>cases b3<;>cases l<;>simp[j]
    .left;obtain rfl:k=3:=aa
     simp[xO,aII (show c.cV.length<=3 by omega)]
   have:=key 0 aa;simp only[Int.ofNat_zero,PW] at this;have e:decide (O0 c)=if ∀p∈c.cV,POk c.aL p then true else false:=by have:O0 c↔∀p∈c.cV,POk c.aL p:=⟨λh=>h.2.2,λh=>⟨f,d,h⟩⟩;simp[this]
   rw[e];simp only[Int.cast_ofNat_Int] at *;have a:loop (xO c) 0=_:=this;by_cases b:∀p∈c.cV,POk c.aL p
   .rw[aM b] at a ⊢;rw[a];simp[PF,aBK]
   .rw[aO b] at a ⊢;rw[a];simp[PF]
  grind[qH,O0]
 grind[qH,O0]
def a3Z(p:zR)(c:aD):AE p c=some (!decide (POk c.aL p)):=by
 unfold AE mS;rw[dL,dL];have a:decide (POk c.aL p)=(decide (0<=p.aL/\p.aL<=c.aL) && (decide (0<=p.Seen/\p.Seen<=2) && (p.On || decide (p=⟨false,0,false,0⟩)))):=by rw[LY];simp only[POk,decide_eq_true_eq,yV,Bool.or_eq_true];grind
 grind
def a08{l:b5}(hl:l.length<=maxLen)(f:zR->Bool):mR l (λx=>some (f x))=some (l.any f):=by
 unfold mR AD;have key:∀k:Nat,k<=l.length->loop (kE l (λx=>some (f x))) (k:Int)=some (if(l.drop k).any f then Out.ret ((k+(l.drop k).findIdx f:Nat):Int) else Out.brk ()):=by
  refine aZS l.length _ λk hk=>?_;by_cases a:k<l.length
  .have c:l.drop k=l[k]::l.drop (k+1):=vA a;simp only[kE];rw[cO,aS a,nT (R3 a hl),c];grind
  grind[kE]
 have b:loop (kE l (λx=>some (f x))) 0=_:=key 0 aa;rw[b];simp only[PW];by_cases h:l.any f=true
 .simp[h,tN]
 grind[tN,HL]
def yA{c:aD}(hc:c.cV.length<=maxLen):qW c=some (decide (O0 c)):=by
 unfold qW xG;rw[dL];have e:(λa=>AE a c)=λa=>some (!decide (POk c.aL a)):=funext λy=>a3Z y c;rw[e,a08 hc];by_cases d:0<=c.aL/\c.aL<=100000
 .by_cases b:c.cV.length=3
  .have:O0 c↔∀p∈c.cV,POk c.aL p:=⟨λh=>h.2.2,λh=>⟨d,b,h⟩⟩;grind
  grind[O0]
 grind[O0]
def cE(l:bn):bo:=l.flatMap b7.Rows
theorem TG(h:k<l.length):cE (l.take (k+1))=cE (l.take k)++l[k].Rows:=by grind[cE,N5]
def aT3(l:bn)(k:Nat):(cE (l.take k)).length<=(cE l).length:=by grind[cE,aGA]
theorem bB8(l:bn)(h:k<l.length):l[k].Rows.length<=(cE l).length:=by have a:=aT3 l (k+1);grind[TG]
def aE5{s:b7}(h:s∈l):s.Rows.length<=(cE l).length:=by grind[aF8,bB8]
def TH(h:(cE l).length<=1073741824)(hl:l.length<=maxLen):HP l=some (cE l):=by
 unfold HP;have a:loop (AT l) ([],0)=some (cE l):=by
  refine eY (f:=AT l) l.length (λk=>(cE (l.take k),(k:Int))) _ (λk hk=>?_) ?_
  .have b:=aT3 l (k+1);rw[TG hk] at b;simp only[AT];rw[cO,aS hk];grind[cJ,TG,nT]
  grind[AT]
 rw[a];rfl
def lJ(h:Int):Prop:=(32<=h/\h<=223)/\h % 32<24
instance (h:Int):Decidable (lJ h):=by unfold lJ;infer_instance
theorem jH(h:Int):jU h=some (decide (lJ h)):=by grind[jU,CM,lJ,cR,TB]
theorem iI(h:Int):jC h=some (decide (lJ h)):=by grind[jC,B8,lJ,dL,TB]
def lJ.mod{h:Int}(q:lJ h):Int.tmod h 32=h % 32/\0<=h % 32/\h % 32<=23:=by grind[lJ]
theorem iA(h:Int):gP h=some (if lJ h then h % 32 else -1):=by grind[gP,jH,lJ]
def HY(r:eR):Prop:=lJ r.Handle/\0<=r.aL/\r.aL<=100000
instance (r:eR):Decidable (HY r):=by unfold HY;infer_instance
def pC(r:eR):Int:=r.Handle % 32
def sI(l:bn):Prop:=l.length=3/\(cE l).length<=24/\(∀r∈cE l,HY r)/\((cE l).map pC).Nodup
instance (l:bn):Decidable (sI l):=by unfold sI;infer_instance
def rowAt(l:bo)(k:Nat):eR:=l.getD k ⟨0,0⟩
theorem aE6{l:bo}(h:k<l.length):rowAt l k=l[k]:=by grind[rowAt]
def aPQ(h:(cE l).length<=1073741824)(hl:l.length<=maxLen):RD l=some (decide (sI l)):=by
 unfold RD FZ;rw[TH h hl];simp only[aI];by_cases j:l.length=3
 .have g:((l.length:Int) != 3)=false:=ah
  simp only[g,bQ,bN];by_cases b:(cE l).length<=24
  .rw[T8];have i:∀k,k<(cE l).length->xQ (cE l) (((cE l).take k).map pC,(k:Int))=if HY (rowAt (cE l) k)/\pC (rowAt (cE l) k)∉((cE l).take k).map pC then some (.next (((cE l).take (k+1)).map pC,((k+1:Nat):Int))) else some (.stop (Out.ret false)):=by
    intro k hk;simp only[xQ,xP];rw[cO,aS hk,aE6 hk];simp only[aI,iA,cR];by_cases q:lJ (cE l)[k].Handle
    .have n:=q.mod;rw[aM q,T8];by_cases c:0<=(cE l)[k].aL/\(cE l)[k].aL<=100000
     .rw[bY c];simp only[jI,bQ,bN];rw[yU (by grind[maxLen])];simp only[aI];by_cases e:(cE l)[k].Handle % 32∈((cE l).take k).map pC
      .simp_all[pC]
      .rw[eQ e];simp only[bQ,bN];rw[aM (show HY (cE l)[k]/\pC (cE l)[k]∉((cE l).take k).map pC from⟨⟨q,c⟩,e⟩),LW,cY,map_take _ hk];rfl
     .rw[eQ c];simp only[QC,bS];rw[aO (λx:HY _/\_=>c x.1.2)]
    simp_all[HY]
   have key:=BP (f:=xQ (cE l)) (cE l).length (λk=>(((cE l).take k).map pC,(k:Int))) (λk=>HY (rowAt (cE l) k)/\pC (rowAt (cE l) k)∉((cE l).take k).map pC) (Out.brk ()) (Out.ret false) (λk hk d=>aj) (λk hk d=>aj) (by simp[xQ]);rw[List.take_zero,List.map_nil,show((0:Nat):Int)=0 from rfl] at key;rw[key];have a:sI l↔∀k,k<(cE l).length->HY (rowAt (cE l) k)/\pC (rowAt (cE l) k)∉((cE l).take k).map pC:=by
    constructor
    .rintro⟨_,_,m,c⟩ k hk;grind[aE6,MO,List.map_take]
    .intro q;refine⟨j,b,λx d=>?_,(MO _).2 λk hk=>?_⟩
     .obtain⟨k,hk,rfl⟩:=aF8.1 d;grind[aE6]
     grind[aE6,List.map_take]
   by_cases q:sI l
   .rw[aM (a.1 q),bY q];rfl
   .rw[aO (λx=>q (a.2 x)),eQ q];rfl
  .rw[cO,eQ (λq:sI l=>b q.2.1)]
 .have g:((l.length:Int) != 3)=true:=ah
  simp_all[sI]
def goR:aF->bo->Option aF
 |met,[]=>some met
 |met,r::t=>if HY r/\met.getD (pC r).toNat true=false then goR (met.set (pC r).toNat true) t else none
theorem a97:∀{xs:bo} {met m:aF},goR met xs=some m->m.length=met.length
 |[],met,m,h=>by grind[goR]
 |x::r,met,m,h=>by
  simp only[goR] at h;split at h
  .have:=a97 h;grind
  .cases h
def aT4:∀(a b:bo) (met:aF),goR met (a++b)=(goR met a).bind λm=>goR m b
 |[],b,met=>rfl
 |x::r,b,met=>by
  simp only[H6,goR];split
  .exact aT4 r b _
  .rfl
theorem a30:∀(xs:bo) (met:aF),(goR met xs).isSome=true↔(∀r∈xs,HY r)/\(E3 met (xs.map pC)).isSome=true
 |[],met=>by simp[goR,E3]
 |x::r,met=>by
  simp only[goR,LM,E3];by_cases h:HY x
  .have c:=h.1.mod;have b:0<=pC x/\pC x<=23:=c.2;by_cases a:met.getD (pC x).toNat true=false
   .rw[aM ⟨h,a⟩,aM ⟨b,a⟩,a30 r _];simp[h]
   grind
  grind
def bB9{s:b7}(hl:s.Rows.length<=maxLen):∀d k (met:aF),k+d=s.Rows.length->met.length=24->loop (xE s) ((k:Int),met)=some (a07 (goR met (s.Rows.drop k))):=by
 intro d;induction d with
 |zero=>
  intro k met hk i;rw[aY (r:=Out.brk met) (by grind[xE]),aII aa];rfl
 |succ d n=>
  intro k met hk i;have c:k<s.Rows.length:=aa
  have m:s.Rows.drop k=s.Rows[k]::s.Rows.drop (k+1):=vA c;have a:xE s ((k:Int),met)=if HY s.Rows[k]/\met.getD (pC s.Rows[k]).toNat true=false then some (.next (((k+1:Nat):Int),met.set (pC s.Rows[k]).toNat true)) else some (.stop (Out.ret false)):=by
   simp only[xE];rw[cO,aS c];simp only[aI,iI,dL];generalize s.Rows[k]=x;by_cases q:lJ x.Handle
   .by_cases f:0<=x.aL/\x.aL<=100000
    .have b:=q.mod;obtain⟨j,g⟩:=bJ9 b.2.1;have l:j<met.length:=aa
     have e:met.getD j true=met[j]:=aj
     have h:HY x:=⟨q,f⟩;simp only[q,f,and_self,decide_true,jI,bQ,bN,m8,b.1,g,H3,h,true_and,pC,e];rw[WU,aS l];simp only[aI];cases met[j]
     .simp only[bQ,bN,bS];grind[cJ,nT]
     .simp
    .rw[bY q,eQ f];simp only[jI,QC,bQ,bN,bS,m8];rw[aO (λy:HY x/\_=>f y.1.2)]
   simp_all[m8,HY]
  rw[m,goR];by_cases q:HY s.Rows[k]/\met.getD (pC s.Rows[k]).toNat true=false
  .rw[aM q] at a ⊢;grind[bJ]
  .rw[aO q] at a ⊢;rw[aY a];rfl
def bCA(hn:l.length<=1000)(g:∀s∈l,s.Rows.length<=maxLen):∀d k (met:aF),k+d=l.length->met.length=24 ->
  loop (xF l) ((k:Int),met)=some (if(goR met (cE (l.drop k))).isSome=true then Out.brk () else Out.ret false):=by
 intro d;induction d with
 |zero=>
  simp_all[goR,cE,aY,xF]
 |succ d f=>
  intro k met hk h;have a:k<l.length:=aa
  have n:l.drop k=l[k]::l.drop (k+1):=vA a;have c:=g _ (cQ a);have j:cE (l.drop k)=l[k].Rows++cE (l.drop (k+1)):=by grind[cE]
  have e:=bB9 c _ 0 met (aIN _) h;rw[show((0:Nat):Int)=0 from rfl,PW] at e;have b:xF l ((k:Int),met)=(match goR met l[k].Rows with|some m=>some (.next (((k+1:Nat):Int),m))|none=>some (.stop (Out.ret false))):=by
   simp only[xF];rw[cO,aS a];simp only[aI];rw[e];cases goR met l[k].Rows with
   |none=>rfl
   |some m=>simp only[aI,a07,aBB,aBA];grind[cC]
  rw[j,aT4];cases i:goR met l[k].Rows with
  |none=>
   simp_all[aY]
  |some m=>
   rw[i] at b;rw[bJ b,f (k+1) m aa (by grind[a97])];simp
def aKF(hn:l.length<=1000)(h:(cE l).length<=1073741824):JG l=some ((cE l).length:Int):=by
 unfold JG;have key:loop (qV l) (0,0)=some ((cE l).length:Int):=by
  refine eY (f:=qV l) l.length (λk=>(((cE (l.take k)).length:Int),(k:Int))) _ (λk hk=>?_) ?_
  .have a:=aT3 l (k+1);rw[TG hk,H7] at a;simp only[qV];rw[cO,aS hk];grind[cC,TG]
  grind[qV]
 rw[key];rfl
def GG(h:(cE l).length<=1073741824):vU l=some (decide (sI l)):=by
 unfold vU;by_cases m:l.length=3
 .have e:((l.length:Int) != 3)=false:=ah
  have n:(1073741824:Nat)<=maxLen:=by simp[maxLen]
  simp only[e,bQ,bN];have key:=bCA (l:=l) aa (λs k=>by have:=aE5 k;omega) l.length 0 (List.replicate 24 false) aa rfl;rw[show((0:Nat):Int)=0 from rfl,PW] at key;rw[key];have g:∀j:Nat,j<24->(List.replicate 24 false).getD j true=false:=ai
  have a:sI l↔(cE l).length<=24/\(goR (List.replicate 24 false) (cE l)).isSome=true:=by
   rw[a30,aH8 _ _ rfl];have f:(∀r∈cE l,HY r)->∀x∈(cE l).map pC,0<=x/\x<=23:=by intro q x i;obtain⟨r,f,rfl⟩:=H9.1 i;exact(q r f).1.mod.2
   constructor
   .rintro⟨_,d,c,b⟩;grind
   .rintro⟨d,c,_,b,_⟩;exact⟨m,d,c,b⟩
  by_cases q:(goR (List.replicate 24 false) (cE l)).isSome=true
  .rw[aM q];simp only[aI,aBC,aA9];rw[aKF aa h];grind
  .rw[aO q,eQ (λx=>q (a.1 x).2)];rfl
 .have e:((l.length:Int) != 3)=true:=ah
  simp_all[sI]
def kN(h:Int):Prop:=h=0\/lJ h
instance (h:Int):Decidable (kN h):=by unfold kN;infer_instance
def aFY(z:an):Prop:=z.length=3/\∀h∈z,kN h
instance (z:an):Decidable (aFY z):=by unfold aFY;infer_instance
def aXQ(hl:z.length<=maxLen):ZO z=some (decide (aFY z)):=by
 unfold ZO;have c:∀k (hk:k<z.length),EO z (k:Int)=if kN z[k] then some (.next ((k+1:Nat):Int)) else some (.stop (Out.ret false)):=by
  intro k hk;simp only[EO,NQ];rw[cO,aS hk,nT (R3 hk hl)];simp only[aI,jH];generalize z[k]=x;by_cases q:x=0
  .have n:(x != 0)=false:=by simp only[bne_eq_false_iff_eq];exact q
   rw[n,aM (show kN x from .inl q)];rfl
  .have n:(x != 0)=true:=by simp only[bne_iff_ne];exact q
   by_cases b:lJ x
   .rw[n,bY b,aM (show kN x from .inr b)];rfl
   .rw[n,eQ b,aO (λa:kN x=>a.elim q b)];rfl
 have key:=m0 (f:=EO z) z (λk=>(k:Int)) kN (Out.brk ()) (Out.ret false) (λk hk d=>aj) (λk hk d=>aj) (by simp[EO]);rw[show((0:Nat):Int)=0 from rfl] at key;rw[key];by_cases q:∀x∈z,kN x
 .rw[aM q];have:aFY z↔z.length=3:=⟨λa=>a.1,λa=>⟨a,q⟩⟩;simp only[aI,aGK,aGJ,this];congr 1;grind
 .rw[aO q,eQ (λa:aFY z=>q a.2)];rfl
def aXR(hl:z.length<=maxLen):ZK z=some (decide (aFY z)):=by
 unfold ZK ND;have e:(λb=>Q0 b)=λy:Int=>some (!decide (kN y)):=by
  funext y;unfold Q0 oE AJ;rw[iI];by_cases q:y=0
  .simp_all[kN]
  grind[kN]
 rw[e,K2 hl,aE3];by_cases c:z.length=3
 .have n:((z.length:Int) == 3)=true:=ah
  have:aFY z↔∀h∈z,kN h:=⟨λa=>a.2,λa=>⟨c,a⟩⟩;grind
 .have n:((z.length:Int) == 3)=false:=ah
  simp_all[aFY]
def aKG(l:List O)(f:O->Bool){body:Int->Option (Step Int (Out Unit Int))}(c:∀k (hk:k<l.length),body (k:Int)=if f l[k] then some (.stop (.ret (k:Int))) else some (.next ((k+1:Nat):Int)))(a:body (l.length:Int)=some (.stop (.brk ()))) :
  ∃o,loop body 0=some o/\match o with|.brk _=>l.any f=false|.ret r=>0<=r/\l.any f=true:=by
 have key:=bB6 (f:=body) l.length (λk=>(k:Int)) (λk=>if(l.drop k).any f then Out.ret ((k+(l.drop k).findIdx f:Nat):Int) else Out.brk ()) (λk hk=>by
  by_cases h:k<l.length
  .have b:l.drop k=l[k]::l.drop (k+1):=vA h;grind
  grind) 0 (iT _)
 grind
def aG3{l:bo}(hl:l.length<=maxLen)(f:eR->Bool):jS l (λx=>some (f x))=some (l.any f):=by
 obtain⟨o,e,h⟩:=aKG l f (body:=mB l (λx=>some (f x))) (λk hk=>by
  simp only[mB];rw[cO,aS hk,nT (R3 hk hl)];rfl) (by simp[mB])
 grind[jS,yX,D7,D6]
def aD9(hl:l.length<=maxLen)(f:b7->Bool)(g:b7->aw)(a:∀x∈l,g x=some (f x)):jJ l g=some (l.any f):=by
 obtain⟨o,e,h⟩:=aKG l f (body:=lL l g) (λk hk=>by
  simp only[lL];rw[cO,aS hk,nT (R3 hk hl)];grind) (by simp[lL])
 grind[jJ,vS,DD,DC]
def aEA{l:bf}(hl:l.length<=maxLen)(f:bK->Bool)(g:bK->aw)(a:∀x∈l,g x=some (f x)):jK l g=some (l.any f):=by
 obtain⟨o,e,h⟩:=aKG l f (body:=lM l g) (λk hk=>by
  simp only[lM];rw[cO,aS hk,nT (R3 hk hl)];grind) (by simp[lM])
 grind[jK,vT,DF,DE]
theorem contains_eq{l:an}(hl:l.length<=maxLen)(v:Int):iL l v=some (decide (v∈l)):=by
 obtain⟨o,e,h⟩:=aKG l (λx=>v == x) (body:=fO l v) (λk hk=>by
  simp only[fO];rw[cO,aS hk,nT (R3 hk hl)];rfl) (by simp[fO])
 have a:l.any (λx=>v == x)=decide (v∈l):=aj
 grind[iL,oJ,DK,P0]
theorem aE7{l:bf}:x∈fT l↔∃s∈l,x∈s.aW:=aM0
section
variable {m:Mem} (hsh:gC m.Heap) (hl:(eN m.aC).length<=1073741824) (hg:m.aC.Global.length<=maxLen) (ho:m.aC.Own.length<=maxLen)
include hl hg ho
theorem aT5(s:Int):U5 m.aC s=some (decide (s∈eN m.aC)):=by grind[maxLen,U5,aG2,yU]
theorem aEB(s:Int):OD m.aC s=some (decide (s∈eN m.aC)):=by
 have e:(1073741824:Nat)<=maxLen:=by simp[maxLen]
 have b:=xZ m.aC;have d:∀x∈m.aC.Global,rY x s=some (decide (s∈x.aW)):=λx a=>by have:=OV a;grind[rY,contains_eq]
 have c:∀x∈m.aC.Own,rY x s=some (decide (s∈x.aW)):=λx a=>by have:=OV a;grind[rY,contains_eq]
 unfold OD JE;rw[aEA hg (λx=>decide (s∈x.aW)) _ d,aEA ho (λx=>decide (s∈x.aW)) _ c];have g:(m.aC.Global.any λx=>decide (s∈x.aW))=decide (s∈fT m.aC.Global):=by rw[LY];simp[aE7]
 have f:(m.aC.Own.any λx=>decide (s∈x.aW))=decide (s∈fT m.aC.Own):=by rw[LY];simp[aE7]
 grind[eN]
def eZ(m:Mem)(s:Int):Int:=if bO m.Heap s<0 then 0 else if s∈eN m.aC then 1 else if 6<kL m.Heap s then 2 else 3
include hsh
theorem aPR(s:Int):RE m s=some (eZ m s):=by grind[RE,eZ,nD,aT5,sE]
theorem aPS(s:Int):QO m s=some (eZ m s):=by grind[QO,eZ,lI,aEB,N3]
def m5(m:Mem)(h:Int):Prop:=lJ h/\eZ m (h % 32)=3/\kL m.Heap (h % 32)=h/32
instance (m:Mem) (h:Int):Decidable (m5 m h):=by unfold m5;infer_instance
omit hl hg ho hsh in
theorem eC{m:Mem}(h:eZ m s=3):0<=bO m.Heap s:=by grind[eZ]
theorem GH(h:Int):CN m h=some (decide (m5 m h)):=by
 unfold CN xR;rw[jH,iA];by_cases q:lJ h
 .have d:=q.mod;rw[bY q,aM q];simp only[aI,bS,aPR hsh hl hg ho];by_cases b:eZ m (h % 32)=3
  .have n:(eZ m (h % 32) == 3)=true:=aj
   have c:KB h=some (h/32):=by grind[KB,lJ,jH,cC]
   rw[n,sE hsh (eC b),c];simp only[bS,aI];congr 1;rw[LY];simp only[beq_iff_eq,decide_eq_true_eq];exact⟨λa=>⟨q,b,a⟩,λa=>a.2.2⟩
  grind[m5]
 grind[m5]
theorem K4(h:Int):AB m h=some (decide (m5 m h)):=by
 unfold AB AA;rw[iI];by_cases q:lJ h
 .have c:=q.mod;rw[bY q,c.1];simp only[aI,bS,aPS hsh hl hg ho];by_cases b:eZ m (h % 32)=3
  .have n:(eZ m (h % 32) == 3)=true:=aj
   have d:aZ (Int.tdiv h 32)=h/32:=by grind[lJ,cC]
   rw[n,N3 hsh (eC b),d];simp only[bS,aI];congr 1;rw[LY];simp only[beq_iff_eq,decide_eq_true_eq];exact⟨λa=>⟨q,b,a⟩,λa=>a.2.2⟩
  grind[m5]
 grind[m5]
end
def K5(b:aA)(r:eR):Prop:=m5 b.Mem r.Handle/\r.aL<=b.aD.aL
instance (b:aA) (r:eR):Decidable (K5 b r):=by unfold K5;infer_instance
def lR(b:aA):Prop:=(lN b.Mem/\O0 b.aD/\sI b.aQ/\aFY b.pJ)/\∀r∈cE b.aQ,K5 b r
instance (b:aA):Decidable (lR b):=by unfold lR;infer_instance
def aAF(b:aA):Prop:=G9 b.Mem/\b.aD.cV.length<=1048576/\b.aQ.length<=1048576/\(cE b.aQ).length<=1048576/\b.pJ.length<=1048576
def aAF.rows{b:aA}(h:aAF b):∀s∈b.aQ,s.Rows.length<=1048576:=λs a=>by have:=aE5 a;have:=h.2.2.2.1;omega
section
variable {b:aA} (hf:b.Mem.Heap.Bytes.length<=maxLen/\(eN b.Mem.aC).length<=1073741824/\b.aD.cV.length<=maxLen/\b.aQ.length<=maxLen/\(cE b.aQ).length<=1073741824/\b.pJ.length<=maxLen)
include hf
theorem aT6:U6 b=some (decide (lR b)):=by
 obtain⟨t,j,u,i,h,s⟩:=hf;unfold U6 uE;rw[aXP t j,jY,aPQ h i,aXQ s];by_cases a:lN b.Mem
 .by_cases g:O0 b.aD
  .by_cases e:sI b.aQ
   .by_cases d:aFY b.pJ
    .have p:b.Mem.aC.Global.length<=maxLen:=by rw[a.1.2.1];simp[maxLen]
     have ho:b.Mem.aC.Own.length<=maxLen:=by rw[a.1.2.2.1];simp[maxLen]
     have n:(1073741824:Nat)<=maxLen:=by simp[maxLen]
     simp only[bY a,bY g,bY e,bY d,aI,jI,bQ,bN];rw[TH h i];simp only[aI];have m:∀k (hk:k<(cE b.aQ).length),A0 b (cE b.aQ) (k:Int)=if K5 b (cE b.aQ)[k] then some (.next ((k+1:Nat):Int)) else some (.stop (Out.ret false)):=by
      intro k hk;simp only[A0,KC];rw[cO,aS hk,nT (show k<maxLen by omega)];generalize (cE b.aQ)[k]=r;simp only[aI,GH a.1.1.1 j p ho];by_cases c:m5 b.Mem r.Handle
      .rw[bY c];simp only[jI,bQ,bN];by_cases l:r.aL<=b.aD.aL
       .rw[T8,aM ⟨c,l⟩]
       .rw[cO,aO (λx=>l x.2)]
      .rw[eQ c];simp only[QC,bS];rw[aO (λx=>c x.1)]
     have key:=m0 (f:=A0 b (cE b.aQ)) (cE b.aQ) (λk=>(k:Int)) (K5 b) (Out.brk ()) (Out.ret false) (λk hk o=>aj) (λk hk o=>aj) (by simp[A0]);rw[show((0:Nat):Int)=0 from rfl] at key;rw[key];by_cases q:∀r∈cE b.aQ,K5 b r
     .rw[aM q,bY (show lR b from⟨⟨a,g,e,d⟩,q⟩)];rfl
     .rw[aO q,eQ (λx:lR b=>q x.2)];rfl
    grind[lR]
   grind[lR]
  grind[lR]
 grind[lR]
theorem aT7:UX b=some (decide (lR b)):=by
 obtain⟨q,i,p,o,n,m⟩:=hf;unfold UX tV;rw[E4 q i,yA p,GG n,aXR m];by_cases a:lN b.Mem
 .by_cases h:O0 b.aD
  .by_cases g:sI b.aQ
   .by_cases f:aFY b.pJ
    .have k:b.Mem.aC.Global.length<=maxLen:=by rw[a.1.2.1];simp[maxLen]
     have ho:b.Mem.aC.Own.length<=maxLen:=by rw[a.1.2.2.1];simp[maxLen]
     have j:(1073741824:Nat)<=maxLen:=by simp[maxLen]
     simp only[bY a,bY h,bY g,bY f,aI,jI,bQ,bN];have t:(λd=>FV d b)=λr:eR=>some (!decide (K5 b r)):=by funext r;unfold FV wC;rw[K4 a.1.1.1 i k ho];grind[K5]
     have s:∀l∈b.aQ,(λd=>NF d b) l=some (!decide (∀r∈l.Rows,K5 b r)):=λl hl=>by have:=aE5 hl;simp only[NF];rw[t,aG3 aa,aE3];rfl
     rw[aD9 o _ _ s,aE3];have e:lR b↔∀l∈b.aQ,∀r∈l.Rows,K5 b r:=by
      constructor
      .intro x l hl r c;exact x.2 r (aM0.2 ⟨l,hl,c⟩)
      .intro x;refine⟨⟨a,h,g,f⟩,λr c=>?_⟩;obtain⟨l,hl,c⟩:=aM0.1 c;grind
     grind
    grind[lR]
   grind[lR]
  grind[lR]
 grind[lR]
end
def aAG{s:az}{p:aX->Bool}(hl:s.length<=4611686018427387904) :
  (∃j,∃h:j<s.length,(∀i (h:i<s.length),i<j->p s[i]=false)/\p s[j]=true/\dK s (λy=>some (p y))=some (j:Int))\/((∀i (h:i<s.length),p s[i]=false)/\dK s (λy=>some (p y))=some (-1)):=by
 rcases TC (f:=pQ s (λy=>some (p y))) (p:=p) hl (λk=>by
  simp only[pQ];by_cases h:k<s.length
  .rw[dif_pos h,cO,aS h,aI,aI,cY];rfl
  grind) s.length 0 aa with ⟨j,h,_,c,e,d⟩|⟨g,c⟩
 .refine .inl ⟨j,h,λi b a=>c i b (iT _) a,e,?_⟩;unfold dK;rw[show(0:Int)=((0:Nat):Int) from rfl,d];rfl
 .refine .inr ⟨λi b=>g i b (iT _),?_⟩;unfold dK;rw[show(0:Int)=((0:Nat):Int) from rfl,c];rfl
def aNF{s:bx}{p:Seen->Bool}(hl:s.length<=4611686018427387904) :
  (∃j,∃h:j<s.length,(∀i (h:i<s.length),i<j->p s[i]=false)/\p s[j]=true/\fJ s (λy=>some (p y))=some (j:Int))\/((∀i (h:i<s.length),p s[i]=false)/\fJ s (λy=>some (p y))=some (-1)):=by
 rcases TC (f:=jT s (λy=>some (p y))) (p:=p) hl (λk=>by
  simp only[jT];by_cases h:k<s.length
  .rw[dif_pos h,cO,aS h,aI,aI,cY];rfl
  grind) s.length 0 aa with ⟨j,h,_,c,e,d⟩|⟨g,c⟩
 .refine .inl ⟨j,h,λi b a=>c i b (iT _) a,e,?_⟩;unfold fJ;rw[show(0:Int)=((0:Nat):Int) from rfl,d];rfl
 .refine .inr ⟨λi b=>g i b (iT _),?_⟩;unfold fJ;rw[show(0:Int)=((0:Nat):Int) from rfl,c];rfl
def aXS{s:az}{p:aX->Bool}(hl:s.length<=4611686018427387904):kG s (λy=>some (p y))=some (s.filter λx=>!p x):=by
 unfold kG;rcases aAG (p:=p) hl with ⟨j,h,c,g,b⟩|⟨c,b⟩
 .have ne:¬(((j:Int) == -1)=true):=ae
  rw[b,aI,aO ne,cY];obtain⟨M,k,q,o,m,l⟩:=aQK (p:=p) (n:=s.length) (f:=kU (λy=>some (p y))) hl (λL i j h d e=>by
   simp only[kU];rw[cO,aS h,aI,aI];by_cases a:p L[j]=true
   .rw[aM a,aO (by simp[a])];grind[iX,cC]
   .rw[aO a,aM aj,RK,aI];grind[iX,cC]) (λL i j h=>by
   simp_all[kU]) (s.length-(j+1)) s j (j+1) aa rfl aa
  grind[AG,AF,cJ,fK,aYJ,a3U]
 .rw[b,aI,aM ak,List.filter_eq_self.2];grind[XB]
def a09{O:Type}{q:O->Bool}:∀{s:List O} {j:Nat} (h:j<s.length),(∀i (h:i<s.length),i<j->q s[i]=true)->q s[j]=false->s.takeWhile q=s.take j/\s.dropWhile q=s.drop j
 |[],j,h,_,_=>by cases h
 |x::r,0,h,_,a=>by simp_all
 |x::r,j + 1,h,b,a=>by have c:q x=true:=b 0 (Nat.zero_lt_succ _) (Nat.zero_lt_succ _);have:=a09 (s:=r) (j:=j) aj (λi e d=>b (i+1) aa aa) a;simp_all
def bRB{q:O->Bool}{s:List O}(h:∀i (h:i<s.length),q s[i]=true):s.takeWhile q=s/\s.dropWhile q=[]:=by
 have c:∀x∈s,q x=true:=λx b=>by grind[XB]
 clear h;induction s with
 |nil=>simp
 |cons x r a=>
  simp_all
def yC(l:az)(x:aX):az:=(l.filter λy=>!(y.Key == x.Key)).takeWhile (λy=>!decide (x.Key<y.Key))++[x]++(l.filter λy=>!(y.Key == x.Key)).dropWhile (λy=>!decide (x.Key<y.Key))
def aMG{l:az}(hl:l.length<=1000)(x:aX):M9 l x=some (yC l x):=by
 unfold M9 oX yC;rw[LW];simp only[aI,PY];have k:kG l (λc=>O7 c x)=some (l.filter λy=>!(y.Key == x.Key)):=aXS (p:=λy=>y.Key == x.Key) aa;rw[k,aI];have b:(l.filter λy=>!(y.Key == x.Key)).length<=1000:=oB (bDY _ _) hl;generalize (l.filter λy=>!(y.Key == x.Key))=o at b ⊢;have f:(∃j,∃h:j<o.length,(∀i (h:i<o.length),i<j->decide (x.Key<o[i].Key)=false)/\decide (x.Key<o[j].Key)=true/\dK o (λc=>FL c x)=some (j:Int))\/((∀i (h:i<o.length),decide (x.Key<o[i].Key)=false)/\dK o (λc=>FL c x)=some (-1)):=aAG (p:=λy=>decide (x.Key<y.Key)) aa;obtain⟨j,h,n,m,g⟩|⟨n,g⟩:=f
 .obtain⟨e,d⟩:=a09 (q:=λy:aX=>!decide (x.Key<y.Key)) h (λi f a=>aj) (by simp[m]);rw[g,aI,dY,e,d];grind[tP,sS,cJ]
 .obtain⟨e,d⟩:=bRB (s:=o) (q:=λy:aX=>!decide (x.Key<y.Key)) (λi f=>aj);rw[g,aI,aM ai,e,d];grind[tP,sS,cJ,List.drop_length]
def T9(l:az)(k:Int):aX×Bool:=match l.find? (λy=>y.Key == k) with|some x=>(x,true)|none=>(⟨0,false,0⟩,false)
def aT8{p:O->Bool}{s:List O}(h:j<s.length)(b:∀i (h:i<s.length),i<j->p s[i]=false)(a:p s[j]=true):s.find? p=some s[j]:=by grind[List.find?_eq_some_iff_getElem]
def a98{p:O->Bool}{s:List O}(a:∀i (h:i<s.length),p s[i]=false):s.find? p=none:=by grind[XB]
def aPT{l:az}(hl:l.length<=1000)(k:Int):QT l k=some (T9 l k):=by
 unfold QT T9;have d:(∃j,∃h:j<l.length,(∀i (h:i<l.length),i<j->(l[i].Key == k)=false)/\(l[j].Key == k)=true/\dK l (λa=>JN a k)=some (j:Int))\/((∀i (h:i<l.length),(l[i].Key == k)=false)/\dK l (λa=>JN a k)=some (-1)):=aAG (p:=λy=>y.Key == k) aa;obtain⟨j,h,c,e,b⟩|⟨c,b⟩:=d
 .rw[b,aI,dY,aS h,aT8 (p:=λy:aX=>y.Key == k) h c e];rfl
 simp_all[a98]
def uS(l:bx)(b v:Int):bx×Bool:=match l.find? (λy=>y.bZ == b) with|some x=>(l,x.eW == v)|none=>(l++[⟨b,v⟩],true)
def aPU{l:bx}(hl:l.length<=1000)(b v:Int):QV l b v=some (uS l b v):=by
 unfold QV rC uS;rw[LW];simp only[aI,PY];have e:(∃j,∃h:j<l.length,(∀i (h:i<l.length),i<j->(l[i].bZ == b)=false)/\(l[j].bZ == b)=true/\fJ l (λa=>JT a b)=some (j:Int))\/((∀i (h:i<l.length),(l[i].bZ == b)=false)/\fJ l (λa=>JT a b)=some (-1)):=aNF (p:=λy=>y.bZ == b) aa;obtain⟨j,h,d,f,c⟩|⟨d,c⟩:=e
 .rw[c,aI,dY,aS h,aT8 (p:=λy:Seen=>y.bZ == b) h d f];rfl
 .rw[c,aI,aM ai,LW,a98 (p:=λy:Seen=>y.bZ == b) d]
def gG(l:az)(n:Int):Int:=(((l.take n.toNat).filter λx=>!x.LJ).length:Int)
def a65(l:az)(n:Int):(l.take ((if(if(l.length:Int)<n then(l.length:Int) else n)<0 then 0 else(if(l.length:Int)<n then(l.length:Int) else n)).toNat)).drop 0=l.take n.toNat:=by (simp_all;omega)
def aKH{l:az}(hl:l.length<=1000)(n:Int):X4 l n=some (gG l n):=by
 unfold X4 gG;rw[WU];have hc:=a65 l n;obtain⟨s,a⟩:∃s,s=l.take n.toNat:=⟨_,rfl⟩;have b:s.length<=1000:=aj
 rw[show((0:Int),(0:Int))=((((s.take 0).filter λx=>!x.LJ).length:Int),((0:Nat):Int)) from rfl,
  eY s.length (λk=>((((s.take k).filter λx=>!x.LJ).length:Int),(k:Int))) (((s.filter λx=>!x.LJ).length:Nat):Int) (λk hk=>by
   have d:s.take (k+1)=s.take k++[s[k]]:=N5 hk;have c:((s.take k).filter λx=>!x.LJ).length<=1000:=oB (bDY _ _) aj;simp only[ZI,hc,<-a];rw[cO,aS hk,aI,d,List.filter_append];cases e:s[k].LJ
   .rw[aM ak,cY];simp only[JU];rw[cY];simp[e]
   .rw[dY];grind[JU,cC]) (by
   simp only[ZI,hc,<-a];simp)]
 rw[a];rfl
def jN(k:Int):Int:=if 0<=k/\k<=99 then k % 2 else -1
def WW(k:Int):L8 k=some (jN k):=by unfold L8 jN;rw[dL,aI];grind
def rO(l:az):an:=(if l.any (λx=>x.Key % 2 == 0) then [0] else [])++(if l.any (λx=>x.Key % 2 == 1) then [1] else [])
def a66{l:an}(b:l.Pairwise (· < ·))(a:∀x∈l,x=0\/x=1):l=(if 0∈l then [0] else [])++(if 1∈l then [1] else []):=by
 match l,b,a with
 |[],_,_=>rfl
 |[x],_,a=>obtain rfl|rfl:=a x ae<;>rfl
 |[x,y],b,a=>
  have c:x<y:=aj
  obtain rfl|rfl:=a x ae<;>obtain rfl|rfl:=a y ae<;>first|omega|rfl
 |x::y::z::r,b,a=>
  (simp_all;omega)
def aPV{l:az}(hl:l.length<=12)(hk:∀x∈l,0<=x.Key/\x.Key<=99):QW l=some (rO l):=by
 unfold QW;rw[show(([]:an),(0:Int))=((l.take 0).map (λx=>x.Key % 2),((0:Nat):Int)) from rfl,
  eY l.length (λk=>((l.take k).map (λx=>x.Key % 2),(k:Int))) (l.map λx=>x.Key % 2) (λk b=>by
   have f:l.take (k+1)=l.take k++[l[k]]:=N5 b;have c:=hk l[k] (cQ b);simp only[PA];rw[cO,aS b,aI,WW,aI];unfold jN;rw[aM c,cO,LW,f,vC];grind[FO,cC]) (by
   simp[PA]),aI]
 simp only[aBE,O9];obtain⟨y,h,j,g⟩:=bG7 (x:=l.map λx=>x.Key % 2) aj (by grind[a61]);rw[h,aI];obtain⟨c1,m⟩:=a3X g;have e:∀a,a∈H4 y↔∃x∈l,x.Key % 2=a:=λa=>aj
 have d:∀a∈H4 y,a=0\/a=1:=λa i=>aj
 show some (H4 y)=_;rw[a66 c1 d];grind[rO]
def a1A(l:az):(rO l).length<=2:=by grind[rO]
theorem YS{l:az}{b:Int}(h:b∈rO l):b=0\/b=1:=by grind[rO]
def aT9{f:(List O×Int)->Option (Step (List O×Int) (List O))}(l:List O)
  (h:∀k (hk:k<l.length),f (l.take k,(k:Int))=some (.next (l.take k++[l[k]],((k+1:Nat):Int)))) (a:f (l,(l.length:Int))=some (.stop l)):loop f ([],0)=some l:=by have:=eY (f:=f) l.length (λk=>(l.take k,(k:Int))) l (λk hk=>by simp_all) aj;grind
def aE8{f:(Int×List O)->Option (Step (Int×List O) (List O))}(l:List O)
  (h:∀k (hk:k<l.length),f ((k:Int),l.take k)=some (.next (((k+1:Nat):Int),l.take k++[l[k]]))) (a:f ((l.length:Int),l)=some (.stop l)):loop f (0,[])=some l:=by have:=eY (f:=f) l.length (λk=>((k:Int),l.take k)) l (λk hk=>by simp_all) aj;grind
def rP{l:an}(h:l.length<=1073741824):gT l=some l:=by grind[gT,cJ]
def a1B{l:b5}(h:l.length<=1073741824):CA l=some l:=by grind[CA,cJ]
def aXT{l:bo}(h:l.length<=1073741824):zA l=some l:=by grind[zA,cJ]
def WX{l:aC}(d:l.Global.length<=1048576)(c:l.Own.length<=1048576)(b:∀s∈l.Global,s.aW.length<=1048576)(a:∀s∈l.Own,s.aW.length<=1048576):jR l=some l:=by
 unfold jR;rw[aE8 l.Global]
 .simp only[aI,UR,UQ];rw[aE8 l.Own]
  .rfl
  .intro k hk;have:=a _ (cQ hk);simp only[I3];rw[cO,aS hk];simp only[aI];rw[rP aa,aI,LW,I2,cY];rfl
  grind[I3]
 .intro k hk;have:=b _ (cQ hk);simp only[I5];rw[cO,aS hk];simp only[aI];rw[rP aa,aI,LW,I4,cY];rfl
 grind[I5]
def aAH{h:Heap}(b:h.Bytes.length<=1048576)(a:h.Class.length<=1048576):yI h=some h:=by unfold yI;rw[rP aa,rP aa];rfl
def VO(h:G9 m):rE m=some m:=by have a:=aAH h.1 h.2.1;have b:=WX h.2.2.1 h.2.2.2.1 h.aYO.1 h.aYO.2;simp_all[rE]
def oG{c:aD}(h:c.cV.length<=1048576):C0 c=some c:=by unfold C0;rw[LW];rfl
def E5{c:aD}(h:c.cV.length<=1048576):mJ c=some c:=by unfold mJ;rw[a1B aa];rfl
def WY(hl:l.length<=1048576)(a:∀s∈l,s.Rows.length<=1048576):mI l=some l:=by
 unfold mI;rw[aT9 l]
 .rfl
 .intro k hk;have:=a _ (cQ hk);simp only[JF];rw[cO,aS hk];simp only[aI];rw[aXT aa,aI,LW,cY];rfl
 grind[JF]
def a1C{b:aA}(h:aAF b):NB b=some b:=by have m:=VO h.1;have c:=E5 h.2.1;have l:=WY h.2.2.1 h.rows;have:=h.2.2.2.2;unfold NB;rw[m,c,l,rP aa];rfl
theorem oH(w:Int):iF w=some (decide (0<=w/\w<=2)):=by grind[iF,dL]
section
variable {c:aD} (hc:O0 c) {w:Int} (hw:0<=w/\w<=2)
include hc
theorem O0.small:c.cV.length<=1048576/\c.cV.length<=maxLen:=by have:=hc.2.1;grind[maxLen]
theorem O0.a1D{p:zR}(b:POk c.aL p):O0 ⟨c.aL,c.cV.set k p⟩:=⟨hc.1,by simpa using hc.2.1,λq a=>(tD a).elim (hc.2.2 q) (λe=>e ▸ b)⟩
theorem O0.later(h:c.aL+1<=100000):O0 ⟨c.aL+1,c.cV⟩:=by
 have f:=hc.1;exact⟨⟨aj,h⟩,hc.2.1,λq e=>by
  obtain⟨a,b,d⟩:=hc.2.2 q e;exact⟨⟨a.1,aj⟩,b,d⟩⟩
include hw
theorem a67:∃p,idx c.cV w=some p/\POk c.aL p:=by have a:=hc.2.1;rw[iD hw.1 aa];exact⟨_,rfl,hc.2.2 _ (cQ _)⟩
theorem bCB(e:Int):∃r,OQ c w e=some r/\UU c w e=some r/\O0 r.1/\r.1.aL=c.aL:=by
 obtain⟨p,d,f,⟨i,h⟩,o⟩:=a67 hc hw;have n:=hc.2.1;unfold OQ UU;rw[oG hc.small.1,E5 hc.small.1,jY,yA hc.small.2,oH,cR,bY hc,bY hw];simp only[aI,jI,bQ,bN,KN,JH,d];cases m:p.On
 .exact⟨_,rfl,rfl,hc,rfl⟩
 .cases l:p.hU
  .by_cases k:p.aL=e
   .simp_all[uL,tO]
   .have b:(p.aL == e)=false:=aj
    simp only[uL,tO,b,jI,bQ,bN,d,aI];by_cases j:p.Seen=2
    .simp only[j,beq_self_eq_true,bS,show ¬((2:Int)<2) by omega,decide_false,bQ,bN];exact⟨_,rfl,rfl,hc.a1D ⟨f,ae,λq=>aj⟩,rfl⟩
    .have a:(p.Seen == 2)=false:=aj
     simp only[a,show p.Seen<2 by omega,decide_true,bS,bQ,bN];have g:aZ (p.Seen+1)=p.Seen+1:=cY;exact⟨_,rfl,rfl,hc.a1D ⟨f,aj,λq=>aj⟩,rfl⟩
  .exact⟨_,rfl,rfl,hc,rfl⟩
theorem bHC(e:Int):∃r,SZ c w e=some r/\ZH c w e=some r/\(O0 r.1/\r.1.aL=c.aL)/\(r.2=false->r.1=c):=by
 obtain⟨p,b,a⟩:=a67 hc hw;have d:=hc.2.1;unfold SZ ZH;rw[oG hc.small.1,E5 hc.small.1,jY,yA hc.small.2,oH,cR,cR,dL,bY hc,bY hw];simp only[aI,jI,bQ,bN,EW,D8,b];by_cases h:0<=e/\e<=c.aL
 .simp only[bY h,jI,bQ,bN];exact⟨_,rfl,rfl,⟨hc.a1D ⟨h,ae,λq=>by cases q⟩,rfl⟩,λq=>by cases q⟩
 simp_all[eQ]
omit hw in
theorem bME(e:Int):∃r,YD c e=some r/\aE2 c e=some r/\O0 r.1/\c.aL<=r.1.aL:=by
 have f:=hc.2.1;unfold YD aE2;rw[oG hc.small.1,E5 hc.small.1,jY,yA hc.small.2,bY hc];simp only[aI,jI,bQ,bN,KO,JJ];by_cases h:c.aL=e
 .subst h;simp only[bne_self_eq_false,bQ,bN];by_cases h:c.aL=100000
  .simp_all
  .have b:(c.aL == 100000)=false:=aj
   have d:=hc.1;have a:aZ (c.aL+1)=c.aL+1:=cY;simp only[b,bQ,bN,a];exact⟨_,rfl,rfl,hc.later aa,aj⟩
 simp_all
end
def bRC{b:aA}(hc:O0 b.aD)(j:0<=w/\w<=2)(s:Sub) :
  ∃x y,OR b w s=some (x,y)/\CC s b w=some (y,x)/\∃cl,x=⟨b.Mem,cl,b.aQ,b.pJ⟩/\O0 cl/\b.aD.aL<=cl.aL:=by
 obtain⟨r,n,m,l,k⟩:=bHC hc j s.E;unfold OR CC;rw[n,m];simp only[bW,bP,DL,aI];by_cases i:s.Pc=0
 .simp only[i,beq_self_eq_true,bS];exact⟨_,_,rfl,rfl,_,rfl,hc,aa⟩
 .have d:(s.Pc == 0)=false:=aj
  simp only[d,bQ,bN];by_cases g:s.Pc=1
  .simp only[g,beq_self_eq_true,bS];cases h:r.2
   .rw[k h];exact⟨_,_,rfl,rfl,_,rfl,hc,aa⟩
   .exact⟨_,_,rfl,rfl,_,rfl,l.1,aa⟩
  .have c:(s.Pc == 1)=false:=aj
   simp only[c,bQ,bN];by_cases f:s.Pc=2
   .simp only[f,beq_self_eq_true,bS];by_cases q:b.aD.aL=s.E
    .simp only[q,beq_self_eq_true,bS];exact⟨_,_,rfl,rfl,_,rfl,hc,aa⟩
    .have e:(b.aD.aL == s.E)=false:=aj
     simp only[e,bQ,bN];exact⟨_,_,rfl,rfl,_,rfl,hc,aa⟩
   .have a:(s.Pc == 2)=false:=aj
    simp only[a,bQ,bN];exact⟨_,_,rfl,rfl,_,rfl,hc,aa⟩
def a68{b:aA}(hc:O0 b.aD)(s:Sub) :
  ∃x y,xV b s=some (x,y)/\qX s b=some (y,x)/\∃cl,x=⟨b.Mem,cl,b.aQ,b.pJ⟩/\O0 cl/\b.aD.aL<=cl.aL:=by
 obtain⟨j,p,o,g⟩:=bME hc s.E;unfold xV qX mU;rw[p,o,cR,oH];simp only[bW,bP,wL,wM,mT,aI];by_cases n:s.Pc=0
 .simp only[n,beq_self_eq_true,bS];exact⟨_,_,rfl,rfl,_,rfl,hc,aa⟩
 .have d:(s.Pc == 0)=false:=aj
  simp only[d,bQ,bN];by_cases m:s.Pc=1
  .simp only[m,beq_self_eq_true,bS,show((1:Int) == 2)=false from rfl,bQ,bN];by_cases e:0<=s.B/\s.B<=2
   .obtain⟨r,u,t,f,i⟩:=bCB hc e s.E;simp only[bY e,jI,bQ,bN,bS,u,t,aI];cases h:r.2
    .exact⟨_,_,rfl,rfl,_,rfl,f,aa⟩
    .by_cases q:aZ (s.B+1)=3
     .simp only[q,beq_self_eq_true,bS,jI,bQ,bN];exact⟨_,_,rfl,rfl,_,rfl,f,aa⟩
     .have k:(aZ (s.B+1) == 3)=false:=aj
      simp only[k,jI,bQ,bN];exact⟨_,_,rfl,rfl,_,rfl,f,aa⟩
   .simp only[eQ e,QC,bQ,bN,bS];exact⟨_,_,rfl,rfl,_,rfl,hc,aa⟩
  .have c:(s.Pc == 1)=false:=aj
   simp only[c,bQ,bN];by_cases l:s.Pc=2
   .simp only[l,beq_self_eq_true,bS];cases h:j.2
    .simp only[bQ,bN];exact⟨_,_,rfl,rfl,_,rfl,g⟩
    .simp only[bS];exact⟨_,_,rfl,rfl,_,rfl,g⟩
   .have a:(s.Pc == 2)=false:=aj
    simp only[a,bQ,bN];exact⟨_,_,rfl,rfl,_,rfl,hc,aa⟩
def a69:∀(n:Nat) (l:an),l.Nodup->(∀x∈l,0<=x/\x<(n:Int))->l.length<=n
 |0,l,_,h=>by
  cases l with
  |nil=>simp
  |cons a t=>(simp_all;omega)
 |n + 1,l,b,h=>by
  have c:=a69 n (l.erase (n:Int)) (b.erase _) (λx d=>by
   grind)
  grind
theorem RY(hk:k<l.length)(x:b7):cE (l.set k x)=cE (l.take k)++(x.Rows++cE (l.drop (k+1))):=by simp_all[List.set_eq_take_append_cons_drop,cE]
theorem OW(hk:k<l.length):cE l=cE (l.take k)++(l[k].Rows++cE (l.drop (k+1))):=by grind[aX2,RY]
theorem MP{l:bf}(hk:k<l.length)(x:bK):fT (l.set k x)=fT (l.take k)++(x.aW++fT (l.drop (k+1))):=by simp_all[List.set_eq_take_append_cons_drop,fT]
theorem HZ{l:bf}(hk:k<l.length):fT l=fT (l.take k)++(l[k].aW++fT (l.drop (k+1))):=by grind[aX2,MP]
def bH(l:bn)(s:Int):Prop:=∃r∈cE l,lJ r.Handle/\r.Handle % 32=s
instance (l:bn) (s:Int):Decidable (bH l s):=by unfold bH;infer_instance
section
variable {l:bn} (hl:sI l)
include hl
theorem sI.small:(cE l).length<=1073741824/\l.length<=maxLen/\l.length<=1048576/\∀s∈l,s.Rows.length<=24:=by have:=hl.1;have b:=hl.2.1;refine⟨aa,by grind[maxLen],aa,λs a=>?_⟩;have:=aE5 a;omega
theorem aBW(s:Int):ZV l s=some (decide (bH l s)):=by
 have d:=hl.small;unfold ZV;rw[TH d.1 d.2.1,aI];have key:=m0 (f:=qJ s (cE l)) (cE l) (λk=>(k:Int)) (λr=>¬(lJ r.Handle/\r.Handle % 32=s)) (Out.brk ()) (Out.ret true)
  (λk hk h=>by
   have g:=hl.2.1;simp only[qJ,GA];rw[cO,aS hk,nT (show k<maxLen by grind[maxLen])];grind[jH,iA])
  (λk hk h=>by
   simp_all[qJ,GA,aS,jH,iA])
  (by simp[qJ])
 have b:loop (qJ s (cE l)) 0=_:=key;rw[b];by_cases q:bH l s
 .rw[aO (λa=>by obtain⟨r,c,e⟩:=q;grind),bY q];rfl
 .rw[aM (λr c e=>q ⟨r,c,e⟩),eQ q];rfl
theorem aBX(s:Int):JD l s=some (decide (bH l s)):=by
 have b:=hl.small;unfold JD;have d:∀(r:eR),tM r s=some (decide (lJ r.Handle/\r.Handle % 32=s)):=by
  intro r;unfold tM sP;rw[iI];by_cases q:lJ r.Handle
  .rw[q.mod.1];grind
  .simp[q]
 have c:∀x∈l,JC x s=some (x.Rows.any λr=>decide (lJ r.Handle/\r.Handle % 32=s)):=by
  intro x e;unfold JC;have:x.Rows.length<=maxLen:=by grind[maxLen]
  rw[show(λa=>tM a s)=λr=>some (decide (lJ r.Handle/\r.Handle % 32=s)) from funext d,aG3 this];rfl
 rw[aD9 b.2.1 (λx=>x.Rows.any λr=>decide (lJ r.Handle/\r.Handle % 32=s)) _ c];simp only[aI];congr 1;rw[LY,decide_eq_true_iff];simp only[List.any_eq_true,decide_eq_true_eq,bH,cE,aM0];grind
theorem sI.more(hk:k<l.length){r:eR}(f:HY r)(hn:¬bH l (r.Handle % 32)):sI (l.set k ⟨l[k].Rows++[r]⟩):=by
 have e:=RY hk (⟨l[k].Rows++[r]⟩:b7);have p:(cE (l.set k ⟨l[k].Rows++[r]⟩)).Perm (r::cE l):=by grind[OW]
 have c:∀x∈cE (l.set k ⟨l[k].Rows++[r]⟩),HY x:=λx a=>by
  rcases lO.1 (p.mem_iff.1 a) with rfl|h
  .exact f
  .exact hl.2.2.1 x h
 have b:((cE (l.set k ⟨l[k].Rows++[r]⟩)).map pC).Nodup:=by refine(List.Perm.nodup_iff (p.map pC)).2 ?_;rw[LM,aF9];refine⟨λh=>hn ?_,hl.2.2.2⟩;obtain⟨x,a,e⟩:=H9.1 h;exact⟨x,a,(hl.2.2.1 x a).1,e⟩
 refine⟨by simpa using hl.1,?_,c,b⟩;have:=a69 24 _ b (λx a=>by
  obtain⟨y,d,rfl⟩:=H9.1 a;have:=(c y d).1.mod;grind[pC])
 grind
end
def bCC{b:aA}(f:lR b)(C:aAF b)(t:0<=w/\w<=2)(s:Sub) :
  ∃x y,BC b w s=some (x,y)/\sQ s b w=some (y,x)/\∃L,x=⟨b.Mem,b.aD,L,b.pJ⟩/\sI L/\∀r∈cE L,K5 b r:=by
 have d:=f.1.2.2.1;have l:=f.1.1;have c:w.toNat<b.aQ.length:=by have:=d.1;omega
 have q:idx b.aQ w=some b.aQ[w.toNat]:=iD t.1 aa;have v:b.Mem.aC.Global.length<=maxLen:=by rw[l.1.2.1];simp[maxLen]
 have ho:b.Mem.aC.Own.length<=maxLen:=by rw[l.1.2.2.1];simp[maxLen]
 have g:(eN b.Mem.aC).length<=1073741824:=by have:=C.1.2.2.2.2;omega
 have p:=d.small.2.2.2 _ (cQ c);have D:=f.1.2.1.1;unfold BC sQ nW;rw[cR,dL,GH l.1.1.1 g v ho,K4 l.1.1.1 g v ho,iA];simp only[bW,bP,aI,zK,KM,nV];by_cases B:s.Pc=0
 .simp only[B,beq_self_eq_true,bS];exact⟨_,_,rfl,rfl,_,rfl,d,f.2⟩
 .have n : (s.Pc == 0) = false:=aj
  simp only[n,bQ,bN];by_cases A:s.Pc=1
  .simp only[A,beq_self_eq_true,bne_self_eq_false,bQ,bN,bS];by_cases k:0<=s.E/\s.E<=b.aD.aL
   .simp only[bY k,jI,bQ,bN];by_cases j:m5 b.Mem s.A
    .have hh:=j.1;simp only[bY j,jI,bQ,bN,aM hh,hh.mod.1,aBW d,aBX d,aI];by_cases o:bH b.aQ (s.A % 32)
     .simp only[bY o,bS];exact⟨_,_,rfl,rfl,_,rfl,d,f.2⟩
     .have a:=d.more c (r:=⟨s.A,s.E⟩) ⟨hh,k.1,aj⟩ o;have e:M8 b.aQ w s.A s.E=some (b.aQ.set w.toNat ⟨b.aQ[w.toNat].Rows++[⟨s.A,s.E⟩]⟩,true):=by unfold M8 B9;rw[GG d.small.1,oH,WY d.small.2.2.1 (λs h=>by have:=d.small.2.2.2 s h;omega)];simp only[bY d,bY t,aI,jI,bQ,bN,q];rw[LW,GG a.small.1,bY a];rfl
      simp only[eQ o,bQ,bN,q,e,aI];rw[LW];refine⟨_,_,rfl,rfl,_,rfl,a,λr u=>?_⟩;rw[RY c] at u;have z:=OW c;obtain h|h:=dR.1 u
      .exact f.2 r aj
      .obtain h|h:=dR.1 h
       .obtain h|h:=dR.1 h
        .exact f.2 r aj
        .simp at h;subst h;exact⟨j,k.2⟩
       .exact f.2 r aj
    .simp only[eQ j,QC,bS];exact⟨_,_,rfl,rfl,_,rfl,d,f.2⟩
   .simp only[eQ k,QC,bS];exact⟨_,_,rfl,rfl,_,rfl,d,f.2⟩
  .have m:(s.Pc == 1)=false:=aj
   have i:(s.Pc != 1)=true:=aj
   simp only[m,i,bQ,bN,bS];exact⟨_,_,rfl,rfl,_,rfl,d,f.2⟩
def st4(b:an)(a:Nat)(n:Int):an:=(((b.set a 0).set (a+1) 0).set (a+2) 0).set (a+3) n
theorem K6(b:an)(a:Nat)(n:Int):(st4 b a n).length=b.length:=by simp[st4]
def a31{b:an}(h:uQ b)(a:Nat)(hn:0<=n/\n<=255):uQ (st4 b a n):=by
 have key:∀{l:an} (i:Nat) (v:Int),uQ l->0<=v/\v<=255->uQ (l.set i v):=λi v hl d x c=>by
  obtain h|rfl:=tD c
  .exact hl x h
  .exact d
 exact key _ _ (key _ _ (key _ _ (key _ _ h aa) aa) aa) hn
theorem bHD(hn:0<=n/\n<=255):((u8 n).toNat:Int)=n:=by grind[u8,UInt8.toNat_ofNat']
theorem a32{l:an}(i:Nat){v:Int}(hl:uQ l)(b:0<=v/\v<=255):uQ (l.set i v):=λx a=>by
 obtain h|rfl:=tD a
 .exact hl x h
 .exact b
def WZ(b:an)(a:Nat)(n:Int):an:=(((b.set a (n/16777216)).set (a+1) (n/65536 % 256)).set (a+2) (n/256 % 256)).set (a+3) (n % 256)
theorem aKI(b:an)(a:Nat)(n:Int):(WZ b a n).length=b.length:=by simp[WZ]
def bCD{b:an}(h:uQ b)(a:Nat)(hn:0<=n/\n<=4294967295):uQ (WZ b a n):=by grind[WZ,a32]
def bCE(b:an)(a:Nat)(x y z u:Int):(((b.set (a+3) u).set (a+2) z).set (a+1) y).set a x=(((b.set a x).set (a+1) y).set (a+2) z).set (a+3) u:=by refine List.ext_getElem ae λj d c=>?_;grind
theorem bCF{b:an}{a:Nat}(h:a+4<=b.length)(hl:b.length<=100000)(hn:0<=n/\n<=4294967295):KK b (a:Int) 4 n=some (WZ b a n):=by
 have st:∀(c:an) (m:Int) (i:Nat),c.length=b.length->0<=m->m<=4294967295->i<4->GB (a:Int) (c,m,(i:Int))=some (.next (c.set (a+i) (m % 256),m/256,(i:Int)-1)):=λc m i hc d f e=>by simp only[GB];rw[aM ae,cY (x:=(a:Int)+i),show(a:Int)+i=((a+i:Nat):Int) by omega,RK,aI,TB d,a3T d,cY (x:=m/256),cY (x:=(i:Int)-1),H3]
 unfold KK;rw[show aZ (4-1)=((3:Nat):Int) from by grind[cC]];rw[bJ (st b n 3 rfl hn.1 hn.2 aa),show((3:Nat):Int)-1=((2:Nat):Int) by rfl,
  bJ (st _ _ 2 ae aa aa aa),show((2:Nat):Int)-1=((1:Nat):Int) by rfl,
  bJ (st _ _ 1 ae aa aa aa),show((1:Nat):Int)-1=((0:Nat):Int) by rfl,
  bJ (st _ _ 0 ae aa aa aa),aY (r:=WZ b a n)]
 .rfl
 .simp only[GB];rw[dY];have k:n/256/256=n/65536:=aa
  have j:n/256/256/256=n/16777216:=aa
  have g:n/16777216 % 256=n/16777216:=aa
  simp_all[WZ,bCE]
def pM(n:Int):bh:=[u8 (n/16777216),u8 (n/65536),u8 (n/256),u8 n]
theorem aAI(hn:0<=n/\n<=4294967295):m7 n 4=some (pM n):=by
 have b:B6 4=some true:=by grind[B6,dL]
 unfold m7;rw[b];have a:IntKind.u64.wrap (aZ (8*4))=32:=ai
 have e:aRC .i64 1 32=4294967296:=ai
 simp only[aI,jI,bQ,bN,a,e];rw[T8,WU,eQ aa];simp only[yH,bQ,bN];rw[WU,show aZ (4-1)=((3:Nat):Int) from by grind[cC]];have st:∀(m:Int) (c:bh) (i:Nat),i<c.length->i<4->0<=m->rX (m,c,(i:Int))=some (.next (m/256,c.set i (u8 m),(i:Int)-1)):=λm c i hc f d=>by simp only[rX];rw[aM ae,aS hc,aI,show(8:Int)=((8:Nat):Int) from rfl,a94 d aa,cY,H3];rfl
 rw[bJ (st n _ 3 ae aa hn.1),show((3:Nat):Int)-1=((2:Nat):Int) by rfl,
  bJ (st _ _ 2 ae aa aa),show((2:Nat):Int)-1=((1:Nat):Int) by rfl,
  bJ (st _ _ 1 ae aa aa),show((1:Nat):Int)-1=((0:Nat):Int) by rfl,
  bJ (st _ _ 0 ae aa aa),aY (r:=pM n)]
 .rfl
 .simp only[rX];rw[dY];have a:n/256/256=n/65536:=aa
  rw[a,show n/65536/256=n/16777216 by omega];rfl
def a1E(hn:0<=n):((u8 n).toNat:Int)=n % 256:=by
 have:u8 n=u8 (n % 256):=by grind[u8]
 grind[bHD]
def a7A{b:an}{a:Nat}(h:a+4<=b.length)(hl:b.length<=100000)(hn:0<=n/\n<=4294967295):oD b (a:Int) (pM n)=some (WZ b a n):=by
 have st:∀(c:an) (i:Nat) (v:UInt8),c.length=b.length->i<4->idx (pM n) (i:Int)=some v->mH b (a:Int) (pM n) (c,(i:Int))=some (.next (c.set (a+i) (v.toNat:Int),((i+1:Nat):Int))):=λc i v hc e d=>by simp only[mH];rw[cJ hc,aM (by grind[pM]),d,aI,cY (x:=(a:Int)+i),show(a:Int)+i=((a+i:Nat):Int) by omega,RK,aI,cY,H3];rfl
 unfold oD;rw[show(0:Int)=((0:Nat):Int) from rfl,bJ (st b 0 _ rfl aa rfl),bJ (st _ 1 _ ae aa rfl),bJ (st _ 2 _ ae aa rfl),bJ (st _ 3 _ ae aa rfl),aY (r:=WZ b a n)]
 .grind[SD,SC,cJ,aKI]
 .simp only[mH];rw[cJ ae,aO (by simp[pM])];simp only[a1E hn.1,a1E (show 0<=n/16777216 by omega),a1E (show 0<=n/65536 by omega),a1E (show 0<=n/256 by omega)];rw[show n/16777216 % 256=n/16777216 by omega];rfl
theorem bHE{b:an}{a:Nat}(hn:0<=n/\n<=255):WZ b a n=st4 b a n:=by grind[WZ,st4]
def PN{b:an}{a:Nat}(h:a+4<=b.length)(hl:b.length<=100000)(hn:0<=n/\n<=255):KK b (a:Int) 4 n=some (st4 b a n):=by grind[bCF,bHE]
theorem bT0(hn:0<=n/\n<=255):pM n=[0,0,0,u8 n]:=by unfold pM;rw[show n/16777216=0 by omega,show n/65536=0 by omega,show n/256=0 by omega];rfl
def aG4(hn:0<=n/\n<=255):m7 n 4=some [0,0,0,u8 n]:=by grind[aAI,bT0]
def aEC{b:an}{a:Nat}(h:a+4<=b.length)(hl:b.length<=100000)(hn:0<=n/\n<=255):oD b (a:Int) [0,0,0,u8 n]=some (st4 b a n):=by rw[<-bT0 hn,a7A h hl ⟨hn.1,aa⟩,bHE hn]
def bOW{x y z:Int}:∀(a:Nat) (l:an),a+3<=l.length->dF l a [x,y,z]=((l.set a x).set (a+1) y).set (a+2) z
 |0,l,h=>by
  match l,h with
  |_::_::_::t,_=>simp[dF]
 |a + 1,l,h=>by
  match l,h with
  |u::t,h=>
   have b:=bOW (x:=x) (y:=y) (z:=z) a t aj;grind[dF]
def bHF(p k:Nat)(c:Int):Nat:=(jG ((p:Int)*4+k) c).toNat
def gB(b:an)(p:Nat)(c:Int):Nat->an
 |0=>((b.set (p*64) 171).set (p*64+1) c).set (p*64+2) (cT c)
 |k+1=>st4 (gB b p c k) (bHF p k c) 1
theorem PO(b:an)(p:Nat)(c:Int):∀k,(gB b p c k).length=b.length
 |0=>by simp[gB]
 |k+1=>by rw[gB,K6,PO b p c k]
def aUA{l:an}(i:Nat){v:Int}(hl:uQ l)(b:0<=v/\v<=255):uQ (l.set i v):=λx a=>by
 obtain h|rfl:=tD a
 .exact hl x h
 .exact b
def a1F{b:an}(a:uQ b)(p:Nat){c:Int}(hc:0<=c/\c<=2):∀k,uQ (gB b p c k)
 |0=>by have:=nZ c;exact aUA _ (aUA _ (aUA _ a aa) aa) aa
 |k+1=>a31 (a1F a p hc k) _ aa
def gS(p:Nat)(n:Nat):an:=(List.range n).map λ(i:Nat)=>(p:Int)*4+(i:Int)
theorem aMH(p n:Nat):(gS p n).length=n:=by simp[gS]
def a99(p n:Nat):gS p (n+1)=gS p n++[(p:Int)*4+(n:Int)]:=by simp[gS,List.range_succ]
def a1G(b:p<6)(hk:(k:Int)<cT c):jG ((p:Int)*4+k) c=(bHF p k c:Int)/\bHF p k c+4<=384:=by
 have f:=nZ c;have d:=aAD (c:=c) (i:=(k:Int)) aa hk;have a:4<=bA c:=by have:0<=c/\c<=2:=kK.1 aa;obtain e|e|e:=oS this<;>rw[e]<;>decide
 have e:jG ((p:Int)*4+k) c=(p:Int)*64+8+(k:Int)*bA c:=by unfold jG;grind
 grind[bHF]
def aYQ(a:p<6)(hk:k<4):vJ (p:Int) (k:Int)=some ((p:Int)*4+k)/\UT (p:Int) (k:Int)=some ((p:Int)*4+k):=by grind[cC,vJ,AW,cR,UT,I9,dL]
section
variable {b:an} (hb:b.length=384) {p:Nat} (hp:p<6) {c:Int} (hc:0<=c/\c<=2)
include hb hp hc
theorem aUB:loop (GC c (p:Int)) ([],0,gB b p c 0)=some (gS p (cT c).toNat,gB b p c (cT c).toNat):=by
 have a:=nZ c;refine eY (cT c).toNat (λk=>(gS p k,(k:Int),gB b p c k)) _ (λk hk=>?_) ?_
 .have ho:=a1G (c:=c) hp (k:=k) aa;simp only[GC,aBL,jX,aI];rw[cO,(aYQ hp aa).1];simp only[aI,yT,ho.1];rw[PN (by grind[PO]) (by grind[PO]) aa];simp only[aI];rw[cJ (by grind[aMH]),cY,a99];rfl
 .simp only[GC,jX,aI];grind
theorem a7B:loop (M6 c (p:Int) (cT c)) ([],0,gB b p c 0)=some (gS p (cT c).toNat,gB b p c (cT c).toNat):=by
 have a:=nZ c;refine eY (cT c).toNat (λk=>(gS p k,(k:Int),gB b p c k)) _ (λk hk=>?_) ?_
 .have ho:=a1G (c:=c) hp (k:=k) aa;simp only[M6,V6];rw[cO,(aYQ hp aa).2];simp only[aI,E2,ho.1];rw[aG4 aa,aI,aEC (by grind[PO]) (by grind[PO]) aa];simp only[aI];rw[cJ (by grind[aMH]),cY,a99];rfl
 .simp only[M6];grind
end
def bHG{h:Heap}(hh:HOk h)(hc:0<=c/\c<=2) :
  (wK h c=some (h,[])/\L7 h c=some (h,[])) \/
  ∃p,p<6/\cH h p<0/\wK h c=some (⟨gB h.Bytes p c (cT c).toNat,h.Class.set p c⟩,gS p (cT c).toNat)/\L7 h c=some (⟨gB h.Bytes p c (cT c).toNat,h.Class.set p c⟩,gS p (cT c).toNat):=by
 have o:=hh.1;have B:=o.2.1;have a:=o.1;have t:=nZ c;have e:=aAH (h:=h) aa aa;have d:∀j (v:j<6),j<h.Class.findIdx (λx=>decide (x = -1))->h.Class[j]≠-1:=λj v u=>aj
 generalize A:h.Class.findIdx (λx=>decide (x = -1))=q at d;have s:q<=6:=aj
 have m:∀k (hk:k<q),fW h c (k:Int)=some (.next ((k+1:Nat):Int)):=λk hk=>by
  have:=d k aa hk;have n:(h.Class[k] != -1)=true:=aj
  simp only[fW,PH];rw[cO,RK,aI,n,aM rfl,cY];rfl
 have l:∀k (hk:k<q),fO h.Class (-1) (k:Int)=some (.next ((k+1:Nat):Int)):=λk hk=>by
  have:=d k aa hk;have n:((-1:Int) == h.Class[k])=false:=aj
  simp only[fO];rw[cO,RK,aI,n,cY];rfl
 have r:h.Bytes.length<=maxLen:=by grind[maxLen]
 by_cases C:q=6
 .left;have i:loop (fW h c) 0=some (Out.brk ()):=eY q (λk=>(k:Int)) _ m (by simp_all[fW]);have g:loop (fO h.Class (-1)) 0=some (Out.brk ()):=eY q (λk=>(k:Int)) _ l (by simp_all[fO]);constructor
  .unfold wK;rw[i];rfl
  .unfold L7 oJ;rw[g,e,TF r,lH,bY hh,bY hc];rfl
 .right;have b:q<6:=aa
  have w:h.Class[q] = -1:=aj
  refine⟨q,b,by grind[aE4],?_,?_⟩
  .have i:loop (fW h c) 0=some (Out.ret (⟨gB h.Bytes q c (cT c).toNat,h.Class.set q c⟩,gS q (cT c).toNat)):=eY q (λk=>(k:Int)) _ m (by
    have f:aZ ((q:Int)*64)=((q*64:Nat):Int):=by grind[cC]
    have z:aZ (((q*64:Nat):Int)+1)=((q*64+1:Nat):Int):=by grind[cC]
    have y:aZ (((q*64:Nat):Int)+2)=((q*64+2:Nat):Int):=by grind[cC]
    have n:(h.Class[q] != -1)=false:=aj
    simp only[fW,f,z,y,H3];rw[cO,RK,aI,n,dY,RK,aI,aS ah,aI,jX,aI,aS ah,aI];have:=aUB a b hc;simp only[gB] at this;rw[this];rfl)
   unfold wK;rw[i];rfl
  .have g:loop (fO h.Class (-1)) 0=some (Out.ret (q:Int)):=eY q (λk=>(k:Int)) _ l (by
    have n:((-1:Int) == h.Class[q])=true:=by rw[w];rfl
    simp only[fO];rw[cO,RK,aI,n];rfl)
   unfold L7 oJ;rw[g,e,TF r,lH,bY hh,bY hc];have f:aZ ((q:Int)*64)=((q*64:Nat):Int):=by grind[cC]
   simp only[aI,DK,jI,bQ,bN,D5,f,GF,V7,H3];rw[eQ aa,dY,RK,aI,WU,bOW _ _ aa];have:=a7B a b hc;simp only[gB] at this;rw[this];rfl
def LOk.count{l:aC}(h:LOk l):(eN l).length<=24:=a69 24 _ h.2.2.2.2 (λx a=>by have:=h.2.2.2.1 x a;omega)
def bCG(a:gC m.Heap)(hc:0<=bO m.Heap s):∃h,EU m s=some h/\M7 m s=some h:=by
 unfold EU M7 WI V8 CZ B7;rw[sE a hc,N3 a hc,aI,aI,cR,cR,BQ,dL];have b:=(sZ hc).1;simp only[bY b,aI,jI,bQ,bN];by_cases q:1<=kL m.Heap s/\kL m.Heap s<=6
 .simp only[bY q,jI,bQ,bN];exact⟨_,rfl,rfl⟩
 .simp only[eQ q,QC,bS];exact⟨_,rfl,rfl⟩
theorem aH9{l:bf}(hk:k<l.length)(t:an):(fT (l.set k ⟨l[k].aW++t⟩)).length=(fT l).length+t.length:=by grind[MP,HZ]
def bt(b:an)(i:Nat):Int:=b.getD i 0
theorem aUC{b:an}(h:i<b.length):b[i]=bt b i:=by grind[bt]
theorem ld4{b:an}{a:Nat}(h:a+4<=b.length):ld b a 4=((bt b a*256+bt b (a+1))*256+bt b (a+2))*256+bt b (a+3):=by grind[ld,vA,ldF,aUC]
theorem TJ{b:an}{v:Int}(a:i<b.length):bt (b.set i v) j=if j=i then v else bt b j:=by grind[bt]
def MQ{b:an}{a:Nat}(h:a+4<=b.length)(j:Nat):bt (st4 b a n) j=if j=a+3 then n else if a<=j/\j<a+3 then 0 else bt b j:=by unfold st4;rw[TJ ah,TJ ah,TJ ah,TJ aa];omega
theorem a7C{b:an}{a:Nat}(h:a+4<=b.length):ld (st4 b a n) a 4=n:=by simp_all[ld4,K6,MQ]
theorem N4{b b':an}{a:Nat}(h:a+4<=b.length)(hl:b'.length=b.length)(c:∀j,a<=j->j<a+4->bt b' j=bt b j):ld b' a 4=ld b a 4:=by simp_all[ld4]
def aIA(h:Heap)(p:Nat):Prop:=
 if cH h p<0 then ∀k,k<64->bt h.Bytes (p*64+k)=0
 else((bt h.Bytes (p*64)=171/\bt h.Bytes (p*64+1)=cH h p/\bt h.Bytes (p*64+2)=cT (cH h p))/\(∀k,3<=k->k<8->bt h.Bytes (p*64+k)=0)/\∀i,i<(cT (cH h p)).toNat->1<=ld h.Bytes (p*64+8+i*(bA (cH h p)).toNat) 4/\ld h.Bytes (p*64+8+i*(bA (cH h p)).toNat) 4<=7)
theorem aYR{h:Heap}(a:gC h)(b:p<6)(hk:k<64):(gY h p).getD k 0=bt h.Bytes (p*64+k):=by rw[<-aYM a b hk,aUC (by have:=a.1;omega)]
theorem aKJ{l:an}:x∈l↔∃k,k<l.length/\l.getD k 0=x:=by
 rw[aF8];constructor
 .rintro⟨k,hk,e⟩;exact⟨k,hk,aj⟩
 grind
def K7{h:Heap}(a:gC h)(b:p<6):pS h p↔aIA h p:=by
 unfold pS aIA;have hl:=YO a b;split
 .constructor
  .intro q k hk;rw[<-aYR a b hk];exact q _ (aKJ.2 ⟨k,aa,rfl⟩)
  grind[aKJ,aYR]
 .rw[aYR a b aa,aYR a b aa,aYR a b aa];have e:(∀x∈((gY h p).drop 3).take 5,x=0)↔∀k,3<=k->k<8->bt h.Bytes (p*64+k)=0:=by
   have g:∀j,j<5->(((gY h p).drop 3).take 5).getD j 0=bt h.Bytes (p*64+(3+j)):=λj d=>by rw[<-aYR a b aa,DY,DY,aIJ,aM d,aMY]
   constructor
   .intro q k i f;have:=q _ (aKJ.2 ⟨k-3,aj,rfl⟩);grind
   .intro q x c;obtain⟨k,hk,rfl⟩:=aKJ.1 c;simp[hl] at hk;rw[g _ hk];exact q _ aa aa
  rw[e];rfl
def aIA.same{h d:Heap}(g:p<6)(e:gC h)(hl:d.Bytes.length=h.Bytes.length)(hc:cH d p=cH h p)(a:∀k,k<64->bt d.Bytes (p*64+k)=bt h.Bytes (p*64+k))(q:aIA h p):aIA d p:=by
 have t:=e.1;unfold aIA at q ⊢;rw[hc];split
 .grind
 .rename_i f;rw[aO f] at q;obtain⟨⟨z,y,x⟩,w,v⟩:=q;have m:=a 0 aa;have b1:=a 1 aa;have u:=a 2 aa;simp only[aAS] at m;refine⟨⟨aa,aa,aa⟩,λk o n=>aj,λi l=>?_⟩;have hz:=uR e g (c:=cH h p) rfl l;rw[N4 (b:=h.Bytes) aa hl λj s r=>by
   have:=a (j-p*64) aa;grind]
  grind
theorem rQ{h:Heap}(hc:0<=bO h s):∃p i,p<6/\i<(cT (cH h p)).toNat/\s=(p:Int)*4+i/\bO h s=cH h p/\(jG s (bO h s)).toNat=p*64+8+i*(bA (cH h p)).toNat/\(s/4).toNat=p:=by obtain⟨c,d,a⟩:=sZ hc;have b:=nZ (cH h (s/4).toNat);refine⟨(s/4).toNat,(s % 4).toNat,aa,aa,aa,a,?_,rfl⟩;rw[a];unfold jG;rw[aM ⟨c,aa⟩];grind[bA]
def aAJ(d:i<(cT c).toNat)(b:j<(cT c).toNat)(hn:i≠j):i*(bA c).toNat+4<=j*(bA c).toNat\/j*(bA c).toNat+4<=i*(bA c).toNat:=by
 have hc:0<=c/\c<=2:=kK.1 aa;have a:12<=(bA c).toNat:=by obtain rfl|rfl|rfl:=oS hc<;>decide
 obtain q|q:=Nat.lt_or_gt_of_ne hn
 .left;have:(i+1)*(bA c).toNat<=j*(bA c).toNat:=wX _ q;rw[pL] at this;omega
 .right;have:(j+1)*(bA c).toNat<=i*(bA c).toNat:=wX _ q;rw[pL] at this;omega
def HOk.bHH{h:Heap}(hh:HOk h){g:Int}(hc:0<=bO h s)(T:1<=g/\g<=7) :
  HOk ⟨st4 h.Bytes (jG s (bO h s)).toNat g,h.Class⟩/\∀t,0<=bO h t->kL ⟨st4 h.Bytes (jG s (bO h s)).toNat g,h.Class⟩ t=if t=s then g else kL h t:=by
 obtain⟨c,K⟩:=hh;have w:=c.1;have f:gC ⟨st4 h.Bytes (jG s (bO h s)).toNat g,h.Class⟩:=⟨by grind[K6],c.2.1,a31 c.2.2.1 _ aa,c.2.2.2⟩;obtain⟨p,i,x,r,V,ec,L,ep⟩:=rQ hc;have hz:=uR c x rfl r;have U:=nZ (cH h p);refine⟨⟨f,λq m=>?_⟩,λt J=>?_⟩
 .rw[K7 f m];have a:=(K7 c m).1 (K q m);by_cases e:q=p
  .subst e;have v:0<cT (cH h q):=aa
   have o:¬cH h q<0:=aa
   unfold aIA at a ⊢;have d:cH ⟨st4 h.Bytes (jG s (bO h s)).toNat g,h.Class⟩ q=cH h q:=rfl;rw[d];rw[aO o] at a ⊢;obtain⟨⟨a1,a2,Z⟩,Y,X⟩:=a;have u:∀k,k<8->bt (st4 h.Bytes (jG s (bO h s)).toNat g) (q*64+k)=bt h.Bytes (q*64+k):=λk hk=>by rw[MQ aa,iB,iB]
   have P:=u 0 aa;have b1:=u 1 aa;have W:=u 2 aa;simp only[aAS] at P;refine⟨⟨aj,aj,aj⟩,λk R Q=>aj,λj z=>?_⟩;have A:=uR c x rfl z;by_cases M:j=i
   .grind[a7C]
   .rw[N4 (b:=h.Bytes) aa (by grind[K6]) λk I H=>?_]
    .grind
    .simp only[L];have:=aAJ r z (λq=>M q.symm);rw[MQ aa,iB,iB]
  .refine aIA.same m c (by grind[K6]) rfl (λk hk=>?_) a;rw[MQ aa,iB,iB]
 .have O:bO ⟨st4 h.Bytes (jG s (bO h s)).toNat g,h.Class⟩ t=bO h t:=rfl;unfold kL;rw[O];by_cases e:t=s
  .subst e;rw[aM rfl];grind[a7C]
  .rw[aO e];obtain⟨y,S,n,l,D,G,F,E⟩:=rQ J;have B:=uR c n rfl l;rw[N4 (b:=h.Bytes) aa (by grind[K6]) λk I H=>?_];simp only;by_cases N:y=p
   .subst N;have:=aAJ r l (λq=>e aa);rw[MQ aa,iB,iB]
   .have C:=nZ (cH h y);rw[MQ aa,iB,iB]
def aQM(b:p<6)(hk:(k:Int)<cT c):bHF p k c=p*64+8+k*(bA c).toNat/\8+k*(bA c).toNat+4<=64:=by have hc:0<=c/\c<=2:=kK.1 aa;have d:=a1G (c:=c) b hk;have a:=nZ c;have e:=d.1;unfold jG at e;rw[aM aa] at e;grind[bA,cT]
def bAA{b:an}{p:Nat}{c:Int}(hl:b.length=384)(e:p<6)(hc:0<=c/\c<=2):∀k:Nat,(k:Int)<=cT c->∀j,(j<p*64\/p*64+64<=j->bt (gB b p c k) j=bt b j)/\(3<=j->j<8->bt (gB b p c k) (p*64+j)=bt b (p*64+j))/\bt (gB b p c k) (p*64)=171/\bt (gB b p c k) (p*64+1)=c/\bt (gB b p c k) (p*64+2)=cT c
 |0,hk,j=>by
  have key:∀i,bt (gB b p c 0) i=if i=p*64+2 then cT c else if i=p*64+1 then c else if i=p*64 then 171 else bt b i:=λi=>by grind[gB,TJ]
  grind
 |k + 1,hk,j=>by
  have a:=bAA hl e hc k aa;have d:=aQM (c:=c) e (by omega:(k:Int)<cT c);have f:=PO b p c k;unfold gB;refine⟨λh=>?_,λl g=>?_,?_,?_,?_⟩
  .rw[MQ aa,iB,iB];grind
  .rw[MQ aa,iB,iB];grind
  .rw[MQ aa,iB,iB];exact(a j).2.2.1
  .rw[MQ aa,iB,iB];exact(a j).2.2.2.1
  .rw[MQ aa,iB,iB];exact(a j).2.2.2.2
def bHI{b:an}{p:Nat}{c:Int}(hl:b.length=384)(a:p<6):∀k:Nat,(k:Int)<=cT c->∀i,i<k->ld (gB b p c k) (p*64+8+i*(bA c).toNat) 4=1
 |0,_,i,h=>absurd h aa
 |k + 1,hk,i,h=>by
  have f:=PO b p c k;have ho:=aQM (c:=c) a (by omega:(k:Int)<cT c);unfold gB;by_cases e:i=k
  .grind[a7C]
  .have d:=aQM (c:=c) a (by omega:(i:Int)<cT c);have m:=aAJ (c:=c) (i:=i) (j:=k) aa aa e;rw[N4 (b:=gB b p c k) aa (by rw[K6]) λj l g=>by rw[MQ aa,iB,iB]];exact bHI hl a k aa i aa
def aED{h:Heap}(a:gC h){B:an}{q:Nat}(b:q<6):cH ⟨B,h.Class.set p c⟩ q=if q=p then c else cH h q:=by have d:=a.2.1;grind[cH]
def HOk.bHJ{h:Heap}(hh:HOk h)(r:p<6)(w:cH h p<0)(hc:0<=c/\c<=2) :
  HOk ⟨gB h.Bytes p c (cT c).toNat,h.Class.set p c⟩/\(∀t,(t/4).toNat≠p->bO ⟨gB h.Bytes p c (cT c).toNat,h.Class.set p c⟩ t=bO h t)/\(∀t,0<=bO h t->(t/4).toNat≠p/\kL ⟨gB h.Bytes p c (cT c).toNat,h.Class.set p c⟩ t=kL h t) /\
   ∀i,i<(cT c).toNat->bO ⟨gB h.Bytes p c (cT c).toNat,h.Class.set p c⟩ ((p:Int)*4+i)=c/\kL ⟨gB h.Bytes p c (cT c).toNat,h.Class.set p c⟩ ((p:Int)*4+i)=1:=by
 obtain⟨f,y⟩:=hh;have d:=f.1;have F:=nZ c;have j:((cT c).toNat:Int)<=cT c:=aa
 have u:=bAA d r hc (cT c).toNat j;have l:=PO h.Bytes p c (cT c).toNat;have n:gC ⟨gB h.Bytes p c (cT c).toNat,h.Class.set p c⟩:=⟨by simp only[l];exact d,by simp only[dM];exact f.2.1,a1F f.2.2.1 p hc _,λx K=>by
  obtain q|rfl:=tD K
  .exact f.2.2.2 x q
  .omega⟩
 have g:∀t:Int,(t/4).toNat≠p->bO ⟨gB h.Bytes p c (cT c).toNat,h.Class.set p c⟩ t=bO h t:=λt s=>by
  unfold bO;by_cases q:0<=t/\t<=23
  .rw[aED f aa,aO s]
  .rw[aO (λz=>q z.1),aO (λz=>q z.1)]
 refine⟨⟨n,λq m=>?_⟩,g,λt s=>?_,λi D=>?_⟩
 .rw[K7 n m];have a:=(K7 f m).1 (y q m);by_cases e:q=p
  .subst e;unfold aIA at a ⊢;rw[aM w] at a;rw[aED f m,aM rfl,iB];refine⟨(u 0).2.2,λk J I=>?_,λi D=>?_⟩
   .simp only;rw[(u k).2.1 J I];exact a k aa
   .simp only;rw[bHI d r _ j i D];omega
  .refine aIA.same m f (by simp only[l]) (by rw[aED f m,aO e]) (λk hk=>?_) a;exact(u _).1 aa
 .obtain⟨N,Q,v,A,G,C,H,B⟩:=rQ s;have o:(t/4).toNat≠p:=λz=>by rw[C,<-B,z] at s;omega
  refine⟨o,?_⟩;have E:=uR f v rfl A;unfold kL;rw[g t o,N4 (b:=h.Bytes) aa (by simp only[l]) λk P O=>(u k).1 aa]
 .have M:((p:Int)*4+i)/4=p:=aa
  have L:((p:Int)*4+i) % 4=i:=aa
  have ec:bO ⟨gB h.Bytes p c (cT c).toNat,h.Class.set p c⟩ ((p:Int)*4+i)=c:=by unfold bO;rw[M,L,H3,aED f r,aM rfl,aM aa]
  refine⟨ec,?_⟩;unfold kL;rw[ec];have ho:=aQM (c:=c) r (by omega:(i:Int)<cT c);have:(jG ((p:Int)*4+i) c).toNat=p*64+8+i*(bA c).toNat:=ho.1;rw[this];exact bHI d r _ j i D
def yD(m m':Mem)(k:Int):Prop:=lN m'/\∀s,eZ m s=3->s≠k->eZ m' s=3/\kL m'.Heap s=kL m.Heap s/\bO m'.Heap s=bO m.Heap s
theorem yD.refl(h:lN m)(k:Int):yD m m k:=⟨h,λ_ h _=>⟨h,rfl,rfl⟩⟩
def yD.live{m':Mem}{k h:Int}(q:yD m m' k)(hl:m5 m h)(hn:h % 32≠k):m5 m' h:=by obtain⟨d,c,e⟩:=hl;obtain⟨a,b,_⟩:=q.2 _ c hn;exact⟨d,a,aa⟩
def VQ{l:bf}(hk:k<l.length){t:bK}:fE (l.set k t) j=if j=k then t.aW else fE l j:=by grind[fE]
def aYS{l:bf}(hk:k<l.length){t:bK}(a:t.aW.Sublist l[k].aW):(fT (l.set k t)).Sublist (fT l):=by grind[MP,HZ]
theorem K8{l:bf}(hk:k<l.length):s∈fT (l.set k ⟨l[k].aW++xs⟩)↔s∈fT l\/s∈xs:=by grind[MP,HZ]
theorem aEE{l:bf}(hk:k<l.length){r q:an}(h:(q++(fT l++r)).Nodup)(a:xs.Nodup)(c:∀x∈xs,x∉q++(fT l++r)):(q++(fT (l.set k ⟨l[k].aW++xs⟩)++r)).Nodup:=by
 have b:(q++(fT (l.set k ⟨l[k].aW++xs⟩)++r)).Perm (xs++(q++(fT l++r))):=by rw[MP hk,HZ hk];grind
 grind
def aKK{m':Mem}(c:bO m'.Heap s=bO m.Heap s)(b:kL m'.Heap s=kL m.Heap s)(a:s∈eN m'.aC↔s∈eN m.aC):eZ m' s=eZ m s:=by simp_all[eZ]
theorem i5:eZ m s=3↔0<=bO m.Heap s/\s∉eN m.aC/\kL m.Heap s<=6:=by unfold eZ;grind
section
variable {m:Mem} (hm:lN m)
include hm
theorem lN.bRD(hk:k<9){t:bK}(g:t.aW.Sublist (fE m.aC.Own k)):yD m ⟨m.Heap,⟨m.aC.Global,m.aC.Own.set k t⟩⟩ (-1):=by
 obtain⟨⟨hh,o,p,q,i,l⟩,n,ho⟩:=hm;have b:k<m.aC.Own.length:=aa
 have c:t.aW.Sublist m.aC.Own[k].aW:=by grind[eB]
 have a:(eN ⟨m.aC.Global,m.aC.Own.set k t⟩).Sublist (eN m.aC):=(List.Sublist.refl _).append (aYS b c);refine⟨⟨⟨hh,o,aj,λs h=>?_,λx d=>i x (a.subset d),a.nodup l⟩,n,λj f=>?_⟩,λs h _=>⟨?_,rfl,rfl⟩⟩
 .grind
 .unfold LL;simp only[VQ b];split
  .rename_i e;subst e;exact λx d=>ho j f x (g.subset d)
  .exact ho j f
 grind[i5]
theorem lN.bCH(hk:k<3){t:bK}(h:t.aW.Sublist (fE m.aC.Global k)):yD m ⟨m.Heap,⟨m.aC.Global.set k t,m.aC.Own⟩⟩ (-1):=by
 obtain⟨⟨hh,q,n,o,i,l⟩,g,ho⟩:=hm;have b:k<m.aC.Global.length:=aa
 have c:t.aW.Sublist m.aC.Global[k].aW:=by grind[eB]
 have a:(eN ⟨m.aC.Global.set k t,m.aC.Own⟩).Sublist (eN m.aC):=(aYS b c).append (List.Sublist.refl _);refine⟨⟨⟨hh,aj,n,o,λx d=>i x (a.subset d),a.nodup l⟩,λj f=>?_,ho⟩,λs p _=>⟨?_,rfl,rfl⟩⟩
 .unfold WV;simp only[VQ b];split
  .rename_i e;subst e;exact λx d=>g j f x (h.subset d)
  .exact g j f
 grind[i5]
theorem lN.bMF(hk:k<9)(hl:(fE m.aC.Own k).length+xs.length<=2)(b:xs.Nodup)(f:K3 m.Heap xs ((k % 3:Nat):Int))(t:∀x∈xs,x∉eN m.aC)(a:k<m.aC.Own.length) :
  lN ⟨m.Heap,⟨m.aC.Global,m.aC.Own.set k ⟨m.aC.Own[k].aW++xs⟩⟩⟩/\∀s,s∉xs->eZ m s=3->eZ ⟨m.Heap,⟨m.aC.Global,m.aC.Own.set k ⟨m.aC.Own[k].aW++xs⟩⟩⟩ s=3:=by
 obtain⟨⟨hh,g,u,v,o,p⟩,n,ho⟩:=hm;have c:∀s,s∈eN ⟨m.aC.Global,m.aC.Own.set k ⟨m.aC.Own[k].aW++xs⟩⟩↔s∈eN m.aC\/s∈xs:=λs=>by simp[eN,K8,or_assoc]
 have i:∀x∈xs,0<=x/\x<=23:=λx h=>by have:=(f x h).1;exact(sZ (h:=m.Heap) (s:=x) aa).1
 refine⟨⟨⟨hh,g,aj,λs l=>?_,λx b=>?_,?_⟩,n,λj d=>?_⟩,λs l g=>?_⟩
 .grind[eB]
 .grind
 .have:=aEE (q:=fT m.aC.Global) (r:=[]) a (by grind[eN]) b (by grind[eN]);grind[eN]
 .unfold LL;simp only[VQ a];split
  .rename_i e;subst e;intro x b;obtain q|q:=dR.1 b
   .rw[eB a] at q;exact ho j d x q
   .exact f x q
  .exact ho j d
 grind[i5]
theorem lN.aUD(hk:k<3)(b:xs.Nodup)(g:K3 m.Heap xs (k:Int))(v:∀x∈xs,x∉eN m.aC)(a:k<m.aC.Global.length) :
  lN ⟨m.Heap,⟨m.aC.Global.set k ⟨m.aC.Global[k].aW++xs⟩,m.aC.Own⟩⟩/\∀s,s∉xs->eZ m s=3->eZ ⟨m.Heap,⟨m.aC.Global.set k ⟨m.aC.Global[k].aW++xs⟩,m.aC.Own⟩⟩ s=3:=by
 obtain⟨⟨hh,n,l,o,t,u⟩,f,ho⟩:=hm;have c:∀s,s∈eN ⟨m.aC.Global.set k ⟨m.aC.Global[k].aW++xs⟩,m.aC.Own⟩↔s∈eN m.aC\/s∈xs:=λs=>by simp[eN,K8,or_right_comm]
 have i:∀x∈xs,0<=x/\x<=23:=λx h=>by have:=(g x h).1;exact(sZ (h:=m.Heap) (s:=x) aa).1
 refine⟨⟨⟨hh,aj,l,o,λx b=>?_,?_⟩,λj d=>?_,ho⟩,λs p n=>?_⟩
 .grind
 .have:=aEE (q:=[]) (r:=fT m.aC.Own) a (by grind[eN]) b (by grind[eN]);grind[eN]
 .unfold WV;simp only[VQ a];split
  .rename_i e;subst e;intro x b;obtain q|q:=dR.1 b
   .rw[eB a] at q;exact f j d x q
   .exact g x q
  .exact f j d
 grind[i5]
theorem lN.pT(a:x∈eN m.aC):0<=bO m.Heap x/\kL m.Heap x<=6:=by
 obtain⟨⟨hh,f,e,g,c,d⟩,b,ho⟩:=hm;have key:∀(l:bf),x∈fT l->∃k,k<l.length/\x∈fE l k:=λl h=>by grind[aE7,aF8,eB]
 obtain q|q:=dR.1 a
 .obtain⟨k,hk,h⟩:=key _ q;have:=b k aa x h;omega
 .obtain⟨k,hk,h⟩:=key _ q;have:=ho k aa x h;omega
theorem lN.heap{c:Heap}(hh:HOk c)(e:∀x∈eN m.aC,bO c x=bO m.Heap x/\kL c x=kL m.Heap x):lN ⟨c,m.aC⟩:=by
 obtain⟨⟨_,hl⟩,f,ho⟩:=hm;have key:∀(l:bf) k x,x∈fE l k->x∈fT l:=λl k x h=>by grind[fE,aE7]
 refine⟨⟨hh,hl⟩,λk hk x d=>?_,λk hk x d=>?_⟩
 .obtain⟨a,b⟩:=e x (XD _ (key _ k x d));show bO c x=_/\kL c x<=6;rw[a,b];exact f k hk x d
 .obtain⟨a,b⟩:=e x (aIK _ (key _ k x d));show bO c x=_/\kL c x<=6;rw[a,b];exact ho k hk x d
theorem lN.bWF{g:Int}(h:eZ m s=3)(j:1<=g/\g<=7):yD m ⟨⟨st4 m.Heap.Bytes (jG s (bO m.Heap s)).toNat g,m.Heap.Class⟩,m.aC⟩ s/\kL ⟨st4 m.Heap.Bytes (jG s (bO m.Heap s)).toNat g,m.Heap.Class⟩ s=g:=by
 have c:=i5.1 h;obtain⟨a,b⟩:=HOk.bHH hm.1.1 c.1 j;refine⟨⟨lN.heap hm a λx f=>⟨rfl,?_⟩,λt i k=>?_⟩,aj⟩
 .rw[b x (lN.pT hm f).1,aO (show ¬x=s from λe=>c.2.1 (e ▸ f))]
 .have d:=i5.1 i;have e:kL ⟨st4 m.Heap.Bytes (jG s (bO m.Heap s)).toNat g,m.Heap.Class⟩ t=kL m.Heap t:=aj
  exact⟨i5.2 ⟨d.1,d.2.1,aj⟩,e,rfl⟩
theorem lN.bT1(t:p<6)(l:cH m.Heap p<0)(hc:0<=c/\c<=2)(j:∀x∈xs,∃i,i<(cT c).toNat/\x=(p:Int)*4+(i:Nat))(r:xs.Nodup)(o:c.toNat<m.aC.Global.length) :
  yD m ⟨⟨gB m.Heap.Bytes p c (cT c).toNat,m.Heap.Class.set p c⟩,⟨m.aC.Global.set c.toNat ⟨m.aC.Global[c.toNat].aW++xs⟩,m.aC.Own⟩⟩ (-1):=by
 obtain⟨a,b,d,e⟩:=HOk.bHJ hm.1.1 t l hc;have v:lN ⟨⟨gB m.Heap.Bytes p c (cT c).toNat,m.Heap.Class.set p c⟩,m.aC⟩:=lN.heap hm a λx r=>by grind[lN.pT]
 have n:∀x∈xs,¬0<=bO m.Heap x:=λx h q=>by obtain⟨i,u,rfl⟩:=j x h;have y:=nZ c;exact(d _ q).1 aa
 obtain⟨f,g⟩:=lN.aUD v (k:=c.toNat) aa r (λx h=>by
  obtain⟨i,u,rfl⟩:=j x h
  (simp_all;omega)) (λx h q=>n x h (lN.pT hm q).1) o
 refine⟨f,λs w _=>?_⟩;grind[i5]
end
theorem bHK{n:Nat}(h:x∈gS p n):∃i,i<n/\x=(p:Int)*4+(i:Nat):=by grind[gS]
theorem a33(p n:Nat):(gS p n).Nodup:=by grind[gS,List.nodup_range]
def a34(d:lN m)(hc:0<=c/\c<=2) :
  ∃m' s,KL m c=some (m',s)/\QN m c=some (m',s)/\G9 m'/\(0<=s->gC m'.Heap/\0<=bO m'.Heap s)/\yD m m' (-1):=by
 have hl:=d.1.2;have k:=hl.count;have b:=d.1.1.1;have q:=hl.aYO aa;have u:=nZ c;have t:0<cT c:=kK.2 hc;have n:=xZ m.aC;have e:∀s∈m.aC.Global,s.aW.length<=24:=λs h=>by have:=OV h;omega
 have r:∀s∈m.aC.Own,s.aW.length<=24:=λs h=>by have:=OV h;omega
 have B:=hl.1;have A:=hl.2.1;have a:=WX (l:=m.aC) aa aa (λs h=>aj) (λs h=>aj);unfold KL QN;obtain⟨i,g⟩|⟨p,z,o,i,g⟩:=bHG d.1.1 hc
 .rw[i,g,a];have D:=b.1;have C:=b.2.1;exact⟨_,_,rfl,rfl,⟨aj,aj,aj,aj,aj⟩,λh=>absurd h aa,yD.refl d _⟩
 .rw[i,g,a];simp only[aI,O6,O5,PI,aMH];have y:(((cT c).toNat:Int) == 0)=false:=aj
  have hk:c.toNat<m.aC.Global.length:=aa
  have v:=e _ (cQ hk);have f:idx m.aC.Global c=some m.aC.Global[c.toNat]:=iD hc.1 aa;have hz:idx (gS p (cT c).toNat) 0=some ((p:Int)*4):=by grind[aS,gS]
  have j:(List.drop (1:Int).toNat (List.take (cT c).toNat (gS p (cT c).toNat))).length<=4:=aj
  simp only[y,bQ,bN,f,aI,hz];rw[WU,WU];have w:cH ⟨gB m.Heap.Bytes p c (cT c).toNat,m.Heap.Class.set p c⟩ p=c:=by grind[cH]
  refine⟨_,_,rfl,rfl,⟨by simp only[PO];have:=b.1;omega,by simp only[dM];have:=b.2.1;omega,aj,aj,?_⟩,λ_=>⟨⟨by simp only[PO];exact b.1,by simp only[dM];exact b.2.1,a1F b.2.2.1 p hc _,λx f=>?_⟩,?_⟩,?_⟩
  .grind[xZ,aH9]
  .obtain h|rfl:=tD f
   .exact b.2.2.2 x h
   .omega
  .unfold bO
   (simp_all;omega)
  grind[lN.bT1,bHK,a33]
def a7D(n:Int):∃c,KJ n=some c/\QK n=some c/\(c = -1\/(0<=c/\c<=2)):=by
 have j:∀k,0<=k/\k<=2->gQ n k=some (if 1<=n/\n<=jV k then .stop (Out.ret k) else .next (k+1)):=λk hk=>by simp only[gQ];rw[cO,TD,aI,cR,aI,cY];grind
 have i:∀k,0<=k/\k<=2->lC n k=some (if 1<=n/\n<=jV k then .stop (Out.ret k) else .next (k+1)):=λk hk=>by simp only[lC,FE];rw[cO,aD3,aI,cY];grind
 have st:∀k,0<=k/\k<=2->1<=n/\n<=jV k->loop (gQ n) k=some (Out.ret k)/\loop (lC n) k=some (Out.ret k):=λk hk h=>
  ⟨aY aj,aY aj⟩
 have nx:∀k,0<=k/\k<=2->¬(1<=n/\n<=jV k)->loop (gQ n) k=loop (gQ n) (k+1)/\loop (lC n) k=loop (lC n) (k+1):=λk hk h=>
  ⟨bJ aj,bJ aj⟩
 unfold KJ QK;by_cases d:1<=n/\n<=jV 0
 .have:=st 0 aa d;rw[this.1,this.2];exact⟨_,rfl,rfl,.inr aa⟩
 .have g:=nx 0 aa d;rw[g.1,g.2,show(0:Int)+1=1 from rfl];by_cases b:1<=n/\n<=jV 1
  .have:=st 1 aa b;rw[this.1,this.2];exact⟨_,rfl,rfl,.inr aa⟩
  .have f:=nx 1 aa b;rw[f.1,f.2,show(1:Int)+1=2 from rfl];by_cases a:1<=n/\n<=jV 2
   .have:=st 2 aa a;rw[this.1,this.2];exact⟨_,rfl,rfl,.inr aa⟩
   .have e:=nx 2 aa a;rw[e.1,e.2,show(2:Int)+1=3 from rfl,aY (body:=gQ n) (r:=Out.brk ()) (by simp[gQ]),aY (body:=lC n) (r:=Out.brk ()) (by simp[lC])];exact⟨_,rfl,rfl,.inl rfl⟩
def bHL{s:bK}(hl:s.aW.length<=1048576):∃t x,wJ s=some (t,x)/\z6 s=some (x,t)/\t.aW.length<=s.aW.length/\(0<=x->x∈s.aW)/\t.aW.Sublist s.aW:=by
 unfold wJ z6 WH;rw[cY];by_cases q:s.aW.length=0
 .rw[aM aj,cO];grind
 .have a:idx s.aW ((s.aW.length:Int)-1)=some (s.aW[s.aW.length-1]' aa):=by grind[aS]
  rw[aO aj,T8,WU,a];simp only[aI];grind[cJ]
def YT(a:0<=w/\w<=2)(hc:0<=c/\c<=2):AZ w c=some (w*3+c)/\SB w c=some (w*3+c):=by grind[cC,AZ,EL,cR,SB,M3,oH,lH]
theorem aUE{l:bf}(hk:k<l.length){t:bK}(a:t.aW.length<=l[k].aW.length):(fT (l.set k t)).length<=(fT l).length:=by grind[MP,HZ]
section
variable {m:Mem} (hm:lN m)
include hm
theorem lN.facts:(eN m.aC).length<=24/\m.aC.Global.length=3/\m.aC.Own.length=9/\m.Heap.Bytes.length=384/\m.Heap.Class.length=6/\G9 m/\jR m.aC=some m.aC/\qS m.aC=some true /\
  (∀s∈m.aC.Global,s.aW.length<=24)/\(∀s∈m.aC.Own,s.aW.length<=24):=by
 have hl:=hm.1.2;have a:=hl.count;have d:=xZ m.aC;have c:∀s∈m.aC.Global,s.aW.length<=24:=λs h=>by have:=OV h;omega
 have b:∀s∈m.aC.Own,s.aW.length<=24:=λs h=>by have:=OV h;omega
 have f:=hl.1;have e:=hl.2.1;have i:=hm.1.1.1.1;have g:=hm.1.1.1.2.1;refine⟨a,f,e,i,g,⟨aa,aa,aa,aa,aa⟩,WX aa aa (λs h=>aj) (λs h=>aj),by grind[aBV],c,b⟩
theorem aUF(o:0<=w/\w<=2)(hc:0<=c/\c<=2) :
  ∃l t x,idx m.aC.Own (w*3+c)=some l/\wJ l=some (t,x)/\QL m.aC w c=some (⟨m.aC.Global,m.aC.Own.set (w*3+c).toNat t⟩,x) /\
   G9 ⟨m.Heap,⟨m.aC.Global,m.aC.Own.set (w*3+c).toNat t⟩⟩/\(0<=x->0<=bO m.Heap x)/\yD m ⟨m.Heap,⟨m.aC.Global,m.aC.Own.set (w*3+c).toNat t⟩⟩ (-1):=by
 obtain⟨g,u,r,y,v,i,d,b,j,a⟩:=lN.facts hm;have hk:(w*3+c).toNat<m.aC.Own.length:=aa
 have n:idx m.aC.Own (w*3+c)=some m.aC.Own[(w*3+c).toNat]:=iD aa aa;have k:=a _ (cQ hk);obtain⟨t,x,p,A,q,f,e⟩:=bHL (s:=m.aC.Own[(w*3+c).toNat]) aa;have h:=xZ m.aC;refine⟨_,t,x,n,p,?_,⟨aj,aj,aj,aj,?_⟩,λz=>?_,lN.bRD hm aa (by grind[eB])⟩
 .unfold QL FG;rw[d,(YT o hc).2,b];grind
 .grind[aUE,xZ]
 .have:=hm.2.2 (w*3+c).toNat aa x (by grind[eB]);omega
theorem aG5(hc:0<=c/\c<=2) :
  ∃l t x,idx m.aC.Global c=some l/\wJ l=some (t,x)/\FH m.aC c=some (⟨m.aC.Global.set c.toNat t,m.aC.Own⟩,x) /\
   G9 ⟨m.Heap,⟨m.aC.Global.set c.toNat t,m.aC.Own⟩⟩/\(0<=x->0<=bO m.Heap x)/\yD m ⟨m.Heap,⟨m.aC.Global.set c.toNat t,m.aC.Own⟩⟩ (-1):=by
 obtain⟨e,r,q,v,u,g,j,i,a,h⟩:=lN.facts hm;have hk:c.toNat<m.aC.Global.length:=aa
 have n:idx m.aC.Global c=some m.aC.Global[c.toNat]:=iD aa aa;have k:=a _ (cQ hk);obtain⟨t,x,o,y,p,d,b⟩:=bHL (s:=m.aC.Global[c.toNat]) aa;have f:=xZ m.aC;refine⟨_,t,x,n,o,?_,⟨aj,aj,aj,aj,?_⟩,λw=>?_,lN.bCH hm aa (by grind[eB])⟩
 .simp_all[FH,vQ,lH]
 .grind[aUE,xZ]
 .have:=hm.2.1 c.toNat aa x (by grind[eB]);omega
theorem aQN{h:Int}(L:0<=w/\w<=2)(f:m5 m h):∃m',OO m w (h % 32)=some m'/\SH m w h=some m'/\G9 m'/\yD m m' (h % 32):=by
 obtain⟨J,X,W,z,y,O,p,E,C,B⟩:=lN.facts hm;have v:=hm.1.1.1;have hh:=f.1;have o:=hh.mod;have d:=eC f.2.1;have P:=aAE d;have r:0<=bO m.Heap (h % 32)/\bO m.Heap (h % 32)<=2:=by obtain⟨_,q,e⟩:=sZ d;rw[e];exact kK.1 aa
 have Q:1<=h/32/\h/32<=6:=by grind[lJ]
 have G:m.Heap.Bytes.length<=maxLen:=by grind[maxLen]
 have i:h % 32∉eN m.aC:=λq=>by have:=f.2.1;simp_all[eZ,aO]
 have l:=aAH (h:=m.Heap) aa aa;have M:jG (h % 32) (bO m.Heap (h % 32))=(((jG (h % 32) (bO m.Heap (h % 32))).toNat:Nat):Int):=aa
 have I:aZ (h/32+1)=h/32+1:=cY;have N:aZ (Int.tdiv h 32)=h/32:=by grind[cC]
 have K:=xZ m.aC;obtain⟨b,D⟩:=lN.bWF hm f.2.1 (g:=h/32+1) aa;have V:=i5.1 f.2.1;unfold OO SH aCV JA;rw[o.1,nD v,l,TE G,bY v,lI v,N,I,p];simp only[aI,jI,bQ,bN,SG,JK,SF];rw[sE v d,f.2.2,dL,eQ (show ¬bO m.Heap (h % 32)<0 by omega),bY (show 1<=h/32+1/\h/32+1<=7 by omega)];simp only[aI,jI,bQ,bN,yT,E2,I];generalize F:(jG (h % 32) (bO m.Heap (h % 32))).toNat=a at M;rw[F] at b D;rw[M,PN aa aa aa,aG4 aa];simp only[aI];rw[aEC aa aa aa];simp only[aI,SY,WA,N,I,o.1];by_cases q:h/32+1<=6
 .have hk:(w*3+bO m.Heap (h % 32)).toNat<m.aC.Own.length:=aa
  have c:idx m.aC.Own (w*3+bO m.Heap (h % 32))=some m.aC.Own[(w*3+bO m.Heap (h % 32)).toNat]:=iD aa aa;have n:(bO m.Heap (h % 32)).toNat<m.aC.Global.length:=aa
  have A:idx m.aC.Global (bO m.Heap (h % 32))=some m.aC.Global[(bO m.Heap (h % 32)).toNat]:=iD aa aa;have b1:=B _ (cQ hk);have Y:=C _ (cQ n);rw[bY q,aM rfl,aM rfl];unfold aDF aLL CB;rw[lI v,aI,p,(YT L r).1,(YT L r).2,E,BQ,bY (show 0<=h % 32/\h % 32<=23 by omega),aEB aa aa aa,eQ i];simp only[aI,jI,bQ,bN,c,A];have T:¬w*3+bO m.Heap (h % 32)<0:=aa
  simp only[eQ T,bQ,bN];by_cases U:m.aC.Own[(w*3+bO m.Heap (h % 32)).toNat].aW.length<2
  .have u:(m.aC.Own[(w*3+bO m.Heap (h % 32)).toNat].aW.length:Int)<2:=aa
   have t:¬(2:Int)<=m.aC.Own[(w*3+bO m.Heap (h % 32)).toNat].aW.length:=aa
   simp only[bY u,eQ t,bQ,bN,bS];rw[LW,LW];refine⟨_,rfl,rfl,⟨by grind[K6],aj,aj,aj,?_⟩,?_⟩
   .grind[xZ,aH9]
   .have j:((w*3+bO m.Heap (h % 32)).toNat % 3:Nat)=(bO m.Heap (h % 32)).toNat:=aa
    obtain⟨H,R⟩:=lN.bMF b.1 (k:=(w*3+bO m.Heap (h % 32)).toNat) aa (xs:=[h % 32]) (by grind[eB]) ae (λx c=>by
     simp at c;subst c;exact⟨by rw[j];show bO m.Heap (h % 32)=_;omega,aj⟩) (λx c=>aj) hk
    refine⟨H,λs z y=>?_⟩;obtain⟨u,t,S⟩:=b.2 s z y;grind
  .have u:¬(m.aC.Own[(w*3+bO m.Heap (h % 32)).toNat].aW.length:Int)<2:=aa
   have t:(2:Int)<=m.aC.Own[(w*3+bO m.Heap (h % 32)).toNat].aW.length:=aa
   simp only[bY t,eQ u,bQ,bN,bS];rw[LW,LW];refine⟨_,rfl,rfl,⟨by grind[K6],aj,aj,aj,?_⟩,?_⟩
   .grind[xZ,aH9]
   .obtain⟨H,R⟩:=lN.aUD b.1 (k:=(bO m.Heap (h % 32)).toNat) aa (xs:=[h % 32]) ae (λx c=>by
     simp at c;subst c;exact⟨by show bO m.Heap (h % 32)=_;omega,aj⟩) (λx c=>aj) n
    refine⟨H,λs z y=>?_⟩;obtain⟨u,t,S⟩:=b.2 s z y;grind
 .rw[eQ q,dY,dY];refine⟨_,rfl,rfl,⟨by grind[K6],aj,aj,aj,by(simp_all;omega)⟩,b⟩
end
def alloc_eq{b:aA}(d:lN b.Mem)(B:0<=w/\w<=2)(s:Sub) :
  ∃x y,EV b w s=some (x,y)/\vR s b w=some (y,x)/\∃m',x=⟨m',b.aD,b.aQ,b.pJ⟩/\G9 m'/\yD b.Mem m' (-1):=by
 have e:=(lN.facts d).2.2.2.2.2.1;have H:=d.1.1.1;obtain⟨c,ec,C,A⟩:=a7D s.A;unfold EV vR;rw[ec,C];simp only[aI];by_cases c0:c<0
 .simp only[bY c0,bS,bW,bP];exact⟨_,_,rfl,rfl,_,rfl,e,yD.refl d _⟩
 have hc:0<=c/\c<=2:=aa
 simp only[eQ c0,bQ,bN];have fin:∀(m':Mem) (x:Int),G9 m'->yD b.Mem m' (-1)->(0<=x->gC m'.Heap/\0<=bO m'.Heap x) ->
   ∃X Y,kI s x ⟨m',b.aD,b.aQ,b.pJ⟩=some (X,Y)/\jP s x ⟨m',b.aD,b.aQ,b.pJ⟩=some (Y,X)/\∃m',X=⟨m',b.aD,b.aQ,b.pJ⟩/\G9 m'/\yD b.Mem m' (-1):=by
  intro m' x z v p;unfold kI jP;simp only[C1,ZW,bW,bP];by_cases f:0<=x
  .obtain⟨h,i,g⟩:=bCG (m:=m') (p f).1 (p f).2;rw[eQ (show ¬x<0 by omega),bY f];simp only[bQ,bN,bS,i,g,aI];grind
  .rw[bY (show x<0 by omega),eQ f];by_cases o:s.Pc=3
   .simp only[o,beq_self_eq_true,bS,bQ,bN,aI];grind
   .have a:(s.Pc == 3)=false:=aj
    simp only[a,bS,bQ,bN,aI];grind
 by_cases G:s.Pc=0
 .obtain⟨l,t,x,i,g,D,u,r,q⟩:=aUF d B hc;simp_all[YT]
 .have n:(s.Pc == 0)=false:=aj
  simp only[n,bQ,bN,C2,pG];obtain⟨l,t,x,i,g,D,u,r,q⟩:=aG5 d hc;by_cases F:s.Pc=1
  .simp_all
  .have k:(s.Pc == 1)=false:=aj
   simp only[k,bQ,bN];by_cases o:s.Pc=3
   .simp_all
   .have a:(s.Pc == 3)=false:=aj
    simp only[a,bQ,bN];by_cases E:s.Pc=2
    .obtain⟨m',x,i,g,u,r,q⟩:=a34 d hc;simp_all
    .have j:(s.Pc == 2)=false:=aj
     simp only[j,bQ,bN,bW,bP];exact⟨_,_,rfl,rfl,_,rfl,e,yD.refl d _⟩
def bAB(r:eR)(e:Int):∃v,RX r e=some v/\X3 r e=some v:=by
 unfold RX X3 RG QP;by_cases h:2<=e
 .simp only[bY h,bS];exact⟨_,rfl,rfl⟩
 .simp only[eQ h,bQ,bN];exact⟨_,rfl,rfl⟩
def bMG{b:aA}{l:b7}(g:idx b.aQ w=some l)(hl:l.Rows.length<=1000)(s:Sub) :
  (C3 l.Rows s.Row s.E=some (-1)/\qY s b w=(bP s 0).bind λx=>some (x,b)) \/
  ∃k,∃h:k<l.Rows.length,C3 l.Rows s.Row s.E=some (k:Int)/\qY s b w=some (⟨s.Kind,s.A,2,s.E,(k:Int),0,l.Rows[k].Handle,s.Out,s.Code,s.iE⟩,b):=by
 have key:∀d k,k+d=l.Rows.length ->
   (loop (fX l.Rows s.E) (k:Int)=some (Out.brk ())/\loop (fZ s b w) (k:Int)=some (Out.brk ())) \/
   ∃j,∃h:j<l.Rows.length,loop (fX l.Rows s.E) (k:Int)=some (Out.ret (j:Int))/\loop (fZ s b w) (k:Int)=some (Out.ret (⟨s.Kind,s.A,2,s.E,(j:Int),0,l.Rows[j].Handle,s.Out,s.Code,s.iE⟩,b)):=by
  intro d;induction d with
  |zero=>
   simp_all[aY,fX,fZ]
  |succ d q=>
   intro k hk;have e:k<l.Rows.length:=aa
   obtain⟨v,n,m⟩:=bAB l.Rows[k] s.E;cases v with
   |true=>
    right;refine⟨k,e,aY ?_,aY ?_⟩
    .simp only[fX];rw[cO,aS e,aI,n];rfl
    .simp only[fZ,g,aI];rw[cO,aS e,aI,m];rfl
   |false=>
    have p:fX l.Rows s.E (k:Int)=some (.next ((k+1:Nat):Int)):=by simp only[fX];rw[cO,aS e,aI,n,aI,cY];rfl
    have o:fZ s b w (k:Int)=some (.next ((k+1:Nat):Int)):=by simp only[fZ,g,aI];rw[cO,aS e,aI,m,aI,cY];rfl
    rw[bJ p,bJ o];exact q (k+1) aa
 unfold C3 qY;have f:∃i:Nat,(if 0<s.Row then s.Row else 0)=(i:Int)/\(if s.Row<0 then 0 else s.Row)=(i:Int):=by refine⟨s.Row.toNat,?_,?_⟩<;>split<;>omega
 obtain⟨i,u,t⟩:=f;rw[u,t];by_cases z:i<=l.Rows.length
 .rcases key (l.Rows.length-i) i aa with ⟨a,c⟩|⟨j,y,a,c⟩
  .left;rw[a,c];exact⟨rfl,rfl⟩
  .right;rw[a,c];exact⟨j,y,rfl,rfl⟩
 .left;rw[aY (body:=fX l.Rows s.E) (r:=Out.brk ()) (by simp only[fX];grind),
   aY (body:=fZ s b w) (r:=Out.brk ()) (by simp only[fZ,g,aI];grind)]
  exact⟨rfl,rfl⟩
theorem del_eq{l:List O}(h:k<l.length):((dF l k (l.drop (k+1))).take (k+(l.length-(k+1)))).drop 0=l.eraseIdx k:=by grind[dF,aM1]
def aUG{l:List O}(h:k<l.length):l.Perm (l[k]::l.eraseIdx k):=by grind[vA,aGA,List.eraseIdx_eq_take_drop_succ,List.perm_middle]
def sI.drop{b:bn}(c:sI b){w:Nat}(f:w<b.length):∀k (hk:k<b[w].Rows.length),sI (b.set w ⟨b[w].Rows.eraseIdx k⟩)/\∀r∈cE (b.set w ⟨b[w].Rows.eraseIdx k⟩),r∈cE b/\r.Handle % 32≠b[w].Rows[k].Handle % 32:=by
 intro k hk;have a:(cE (b.set w ⟨b[w].Rows.eraseIdx k⟩)).Sublist (cE b):=by grind[RY,OW]
 have d:=c.2.2.2;refine⟨⟨by simpa using c.1,oB a.length_le c.2.1,λr e=>c.2.2.1 r (a.subset e),(a.map pC).nodup d⟩,λr e=>⟨a.subset e,?_⟩⟩;have g:(cE b).Perm (b[w].Rows[k]::cE (b.set w ⟨b[w].Rows.eraseIdx k⟩)):=by rw[RY f,OW f];refine List.Perm.trans (List.Perm.append_left _ (List.Perm.append_right _ (aUG hk))) ?_;simp
 grind[pC]
def a7E{b:aA}(p:lR b)(U:0<=w/\w<=2)(s:Sub) :
  ∃x y,xW b w s=some (x,y)/\qZ s b w=some (y,x)/\∃m' L,x=⟨m',b.aD,L,b.pJ⟩/\G9 m'/\lN m'/\sI L/\∀r∈cE L,m5 m' r.Handle/\r.aL<=b.aD.aL:=by
 have Q:=p.1.1;have o:=p.1.2.2.1;have V:=p.1.2.2.2;have H:=(lN.facts Q).2.2.2.2.2.1;have i:w.toNat<b.aQ.length:=by have:=o.1;omega
 have A:idx b.aQ w=some b.aQ[w.toNat]:=iD U.1 aa;have t:=o.small.2.2.2 _ (cQ i);have c:b.aQ[w.toNat]∈b.aQ:=cQ i;have j:=sI.drop o i;generalize b.aQ[w.toNat]=l at A t j c;have done:∀y:Sub,∃x z,(some (b,y):b9)=some (x,z)/\(some (y,b):Option (Sub×aA))=some (z,x)/\∃m' L,x=⟨m',b.aD,L,b.pJ⟩/\G9 m'/\lN m'/\sI L/\∀r∈cE L,m5 m' r.Handle/\r.aL<=b.aD.aL:=
  λy=>⟨_,_,rfl,rfl,b.Mem,b.aQ,rfl,H,Q,o,p.2⟩
 have G:aZ ((l.Rows.length:Int)-1)=(l.Rows.length:Int)-1:=cY;have m:OE b.aQ w s.Row=some (decide (0<=s.Row/\s.Row<=(l.Rows.length:Int)-1)):=by simp_all[OE,JM,oH,dL]
 unfold xW qZ;rw[m,A];simp only[aI,bW,cR,G];have K:∃a:Bool,(if decide (0<=s.Row/\s.Row<=(l.Rows.length:Int)-1)=true then(idx l.Rows s.Row).bind λB=>gW s b w (B.Handle == s.H) else gW s b w false)=gW s b w a /\
   (if(!decide (0<=s.Row/\s.Row<=(l.Rows.length:Int)-1))=true then gI b s true else(idx l.Rows s.Row).bind λC=>gI b s (C.Handle != s.H))=gI b s (!a) /\
   (a=true->∃r,r∈l.Rows/\idx l.Rows s.Row=some r/\r.Handle=s.H/\0<=s.Row/\s.Row<l.Rows.length) /\
   (a=false->∀f:eR->b9,(if(!decide (0<=s.Row/\s.Row<=(l.Rows.length:Int)-1))=true then gJ b w s l true else(idx l.Rows s.Row).bind λx=>if(x.Handle != s.H)=true then gJ b w s l true else f x)=gJ b w s l true):=by
  by_cases q:0<=s.Row/\s.Row<=(l.Rows.length:Int)-1
  .have n:idx l.Rows s.Row=some (l.Rows[s.Row.toNat]' aa):=iD q.1 aa;by_cases u:(l.Rows[s.Row.toNat]' aa).Handle=s.H
   .refine⟨true,?_,?_,λ_=>⟨_,cQ _,n,u,q.1,aa⟩,λh=>by cases h⟩
    .rw[bY q,aM rfl,n,aI,u,beq_self_eq_true]
    .rw[bY q,dY,n,aI,u,bne_self_eq_false];rfl
   .have n1:((l.Rows[s.Row.toNat]' aa).Handle == s.H)=false:=by simpa using u
    have T:((l.Rows[s.Row.toNat]' aa).Handle != s.H)=true:=by simpa using u
    refine⟨false,?_,?_,(λh=>by cases h),λ_ f=>?_⟩
    .rw[bY q,aM rfl,n,aI,n1]
    .rw[bY q,dY,n,aI,T];rfl
    .rw[bY q,dY,n,aI,T,aM rfl]
  simp_all[eQ]
 obtain⟨a,P,O,N,M⟩:=K;rw[P,O];unfold gW;by_cases p0:s.Pc=0
 .simp_all
 have F:(s.Pc == 0)=false:=aj
 simp only[F,bQ,bN];by_cases p1:s.Pc=1
 .simp only[p1,beq_self_eq_true,bS];obtain⟨S,R⟩|⟨k,hk,S,R⟩:=bMG A aa s
  .simp_all[bP]
  simp_all[aO,aS]
 have E:(s.Pc == 1)=false:=aj
 simp only[E,bQ,bN];by_cases p2:s.Pc=2
 .simp only[p2,beq_self_eq_true,bS,oH,aI];by_cases W:0<=s.B/\s.B<=2
  .rw[bY W];simp only[jI,bQ,bN,bS];cases a with
   |true=>
    have hz:idx b.pJ s.B=some (b.pJ[s.B.toNat]'(by have:=V.1;omega)):=iD W.1 (by have:=V.1;omega);simp only[gI,fM,jI,bQ,bN,bS,hz,aI,wN];by_cases q:(b.pJ[s.B.toNat]' aj)=s.H
    .simp_all
    .have Y:((b.pJ[s.B.toNat]' aj) == s.H)=false:=aj
     simp only[Y,bQ,bN];by_cases q3:aZ (s.B+1)=3
     .simp_all
     simp_all
   |false=>
    simp_all[gI,fM,eD,bW,bP]
  simp_all[eQ,gI,fM,eD,bW,bP]
 have D:(s.Pc == 2)=false:=aj
 simp only[D,bQ,bN,fM];by_cases Z:s.Pc=3
 .simp only[Z,beq_self_eq_true,bS];cases a with
  |false=>
   rw[M rfl];simp_all[gJ,eD,bW,bP]
  |true=>
   obtain⟨r,I,n,J,r0,r1⟩:=N rfl;obtain⟨v,S,R⟩:=bAB r s.E;rw[bY (show 0<=s.Row/\s.Row<=(l.Rows.length:Int)-1 by omega)];simp only[jI,bQ,bN,bS,n,aI,J,bne_self_eq_false,A,S,R];cases v with
   |false=>
    simp_all[gJ,eD,bW,bP]
   |true=>
    have d:m5 b.Mem s.H:=by have:r∈cE b.aQ:=aM0.2 ⟨l,c,I⟩;have:=(p.2 r this).1;grind
    obtain⟨m',f1,f2,f3,f4⟩:=aQN Q U d;have X:aZ (s.Row+1)=s.Row+1:=cY;have g:QQ b.aQ w s.Row=some (b.aQ.set w.toNat ⟨((dF l.Rows s.Row.toNat (l.Rows.drop (s.Row+1).toNat)).take (s.Row.toNat+(l.Rows.length-(s.Row+1).toNat))).drop 0⟩,true):=by
     unfold QQ FK;rw[WY o.small.2.2.1 (λs h=>by have:=o.small.2.2.2 s h;omega),GG o.small.1,bY o,m,bY (show 0<=s.Row/\s.Row<=(l.Rows.length:Int)-1 by omega)];simp only[aI,jI,bQ,bN,A,X];unfold GR;rw[WU,T8,WU,WU,WU,cJ]
     .rfl
     grind[fK]
    simp only[gJ,eD,G6,X,jI,bQ,bN,bS];rw[WU,WU,WU,iA,aM d.1,aI,f1,f2,g];have hk:s.Row.toNat<l.Rows.length:=aa
    have eL:((dF l.Rows s.Row.toNat (l.Rows.drop (s.Row+1).toNat)).take (s.Row.toNat+(l.Rows.length-(s.Row+1).toNat))).drop 0=l.Rows.eraseIdx s.Row.toNat:=by rw[show(s.Row+1).toNat=s.Row.toNat+1 by omega];exact del_eq hk
    have er:l.Rows[s.Row.toNat]=r:=by grind[aS]
    rw[eL] at g ⊢;obtain⟨g1,g2⟩:=j s.Row.toNat hk;refine⟨_,_,rfl,rfl,m',_,rfl,f3,f4.1,g1,λq hq=>?_⟩;obtain⟨g3,g4⟩:=g2 q hq;obtain⟨g5,g6⟩:=p.2 q g3;refine⟨f4.live g5 λe=>?_,g6⟩;grind
 simp_all[eD,bP]
def aAF.fits{b:aA}(h:aAF b):b.Mem.Heap.Bytes.length<=maxLen/\(eN b.Mem.aC).length<=1073741824/\b.aD.cV.length<=maxLen/\b.aQ.length<=maxLen/\(cE b.aQ).length<=1073741824/\b.pJ.length<=maxLen:=by
 have a:(1048576:Nat)<=maxLen:=by simp[maxLen]
 have i:=h.1.1;have g:=h.1.2.2.2.2;have f:=h.2.1;have e:=h.2.2.1;have d:=h.2.2.2.1;have c:=h.2.2.2.2;omega
def step_eq{b:aA}(a:lR b)(z:aAF b)(i:0<=w/\w<=2)(s:Sub) :
  ∃x y,ZX b w s=some (x,y)/\rZ s b w=some (y,x)/\lR x:=by
 have hz:=a.1.2.2.2.1;have hl:=a.1.2.2.1;unfold ZX rZ;cases C:s.iE with
 |true=>grind
 |false=>
  simp only[bQ,bN];by_cases v:s.Kind=1
  .obtain⟨x,y,f,e,m,rfl,h,d⟩:=alloc_eq a.1.1 i s;simp only[v,beq_self_eq_true,bS,f,e,aI];exact⟨_,_,rfl,rfl,⟨d.1,a.1.2⟩,λr g=>⟨d.live (a.2 r g).1 aa,(a.2 r g).2⟩⟩
  have o:(s.Kind == 1)=false:=aj
  simp only[o,bQ,bN];by_cases u:s.Kind=2
  .obtain⟨x,y,f,e,L,rfl,h,d⟩:=bCC a z i s;simp only[u,beq_self_eq_true,bS,f,e,aI];exact⟨_,_,rfl,rfl,⟨a.1.1,a.1.2.1,h,a.1.2.2.2⟩,d⟩
  have n:(s.Kind == 2)=false:=aj
  simp only[n,bQ,bN];by_cases t:s.Kind=3
  .obtain⟨x,y,f,e,c,rfl,h,d⟩:=a68 a.1.2.1 s;simp only[t,beq_self_eq_true,bS,f,e,aI];exact⟨_,_,rfl,rfl,⟨a.1.1,h,a.1.2.2⟩,λr g=>⟨(a.2 r g).1,aQ8 (a.2 r g).2 d⟩⟩
  have l:(s.Kind == 3)=false:=aj
  simp only[l,bQ,bN];by_cases q:s.Kind=4
  .obtain⟨x,y,f,e,m,L,rfl,h,d,B,A⟩:=a7E a i s;simp only[q,beq_self_eq_true,bS,f,e,aI];exact⟨_,_,rfl,rfl,⟨d,a.1.2.1,B,a.1.2.2.2⟩,A⟩
  have k:(s.Kind == 4)=false:=aj
  simp only[k,bQ,bN];by_cases p:s.Kind=5
  .obtain⟨x,y,f,e,c,rfl,h,d⟩:=bRC a.1.2.1 i s;simp only[p,beq_self_eq_true,bS,f,e,aI];exact⟨_,_,rfl,rfl,⟨a.1.1,h,a.1.2.2⟩,λr g=>⟨(a.2 r g).1,aQ8 (a.2 r g).2 d⟩⟩
  have j:(s.Kind == 5)=false:=aj
  simp only[j,bQ,bN,bW,bP,aI];grind
def lR.small{b:aA}(a:lR b):aAF b:=by have f:=a.1.2.1.2.1;have e:=a.1.2.2.1.1;have d:=a.1.2.2.1.2.1;have c:=a.1.2.2.2.1;exact⟨(lN.facts a.1.1).2.2.2.2.2.1,aa,aa,aa,aa⟩
def BS(s:Sub)(code:Int):Sub:={s with Code:=code,iE:=true}
def PQ(n:Int):Int:=if 1<=n/\n<=8 then 0 else if 1<=n/\n<=16 then 1 else if 1<=n/\n<=40 then 2 else -1
def a7F(n:Int):-1<=PQ n/\PQ n<=2:=by grind[PQ]
def bCI(n:Int):KJ n=some (PQ n):=by
 have a:∀k,0<=k/\k<=2->gQ n k=some (if 1<=n/\n<=jV k then .stop (Out.ret k) else .next (k+1)):=λk hk=>by simp only[gQ];rw[cO,TD,aI,cR,aI,cY];grind
 have g:jV 0=8:=rfl;have f:jV 1=16:=rfl;have e:jV 2=40:=rfl;unfold KJ PQ;by_cases d:1<=n/\n<=8
 .rw[aY (by rw[a 0 aa,aM aa]),aM d];rfl
 .rw[bJ (by rw[a 0 aa,iB]),aO d,show(0:Int)+1=1 from rfl];by_cases c:1<=n/\n<=16
  .rw[aY (by rw[a 1 aa,aM aa]),aM c];rfl
  .rw[bJ (by rw[a 1 aa,iB]),aO c,show(1:Int)+1=2 from rfl];by_cases b:1<=n/\n<=40
   .rw[aY (by rw[a 2 aa,aM aa]),aM b];rfl
   .rw[bJ (by rw[a 2 aa,iB]),aO b,show(2:Int)+1=3 from rfl,aY (body:=gQ n) (r:=Out.brk ()) (by simp[gQ])];rfl
def TL(l:an):an×Int:=(l.dropLast,l.getLastD (-1))
theorem aQO{s:bK}(h:s.aW.length<=1048576):wJ s=some (⟨(TL s.aW).1⟩,(TL s.aW).2):=by
 unfold wJ WH TL;obtain⟨l⟩:=s;obtain rfl|⟨L,b,rfl⟩:=aCH l
 .rfl
 .simp only[aMW] at h ⊢;have hl:(L++[b]).length=L.length+1:=ae
  rw[hl,cY,show((L.length+1:Nat):Int)-1=(L.length:Int) by omega,T8,WU,RK];simp
def K9(m:Mem)(w c:Int):Mem×Int:=(⟨m.Heap,⟨m.aC.Global,m.aC.Own.set (w*3+c).toNat ⟨(TL (fE m.aC.Own (w*3+c).toNat)).1⟩⟩⟩,(TL (fE m.aC.Own (w*3+c).toNat)).2)
def C5(m:Mem)(c:Int):Mem×Int:=(⟨m.Heap,⟨m.aC.Global.set c.toNat ⟨(TL (fE m.aC.Global c.toNat)).1⟩,m.aC.Own⟩⟩,(TL (fE m.aC.Global c.toNat)).2)
def pgF(h:Heap):Nat:=h.Class.findIdx (λx=>decide (x = -1))
def BT(m:Mem)(c:Int):Mem×Int:=if pgF m.Heap=6 then(m,-1) else
 (⟨⟨gB m.Heap.Bytes (pgF m.Heap) c (cT c).toNat,m.Heap.Class.set (pgF m.Heap) c⟩,⟨m.aC.Global.set c.toNat ⟨fE m.aC.Global c.toNat++(gS (pgF m.Heap) (cT c).toNat).drop 1⟩,m.aC.Own⟩⟩,(pgF m.Heap:Int)*4)
theorem bHM{h:Heap}(a:gC h):pgF h<=6:=by rw[<-a.2.1];exact List.findIdx_le_length
theorem a7G{h:Heap}(b:gC h)(c:pgF h≠6):pgF h<6/\cH h (pgF h) = -1:=by
 have d:=b.2.1;have a:pgF h<6:=by grind[bHM]
 refine⟨a,?_⟩;rw[<-aE4 b a];have:=aQ9 (xs:=h.Class) (p:=λx=>decide (x = -1)) (w:=by grind[pgF]);exact of_decide_eq_true this
theorem bMH{h:Heap}(c:gC h):∀j (b:j<6),j<pgF h->cH h j≠-1:=λj b a=>by have:=List.not_of_lt_findIdx a;grind[aE4]
def bRE{h:Heap}(hh:HOk h)(hc:0<=c/\c<=2):wK h c=some (if pgF h=6 then(h,[]) else(⟨gB h.Bytes (pgF h) c (cT c).toNat,h.Class.set (pgF h) c⟩,gS (pgF h) (cT c).toNat)):=by
 have d:=hh.1;have r:=d.2.1;have a:=d.1;have j:=bHM d;have g:∀k (hk:k<pgF h),fW h c (k:Int)=some (.next ((k+1:Nat):Int)):=λk hk=>by
  have n:(h.Class[k] != -1)=true:=by grind[bMH,aE4]
  simp only[fW,PH];rw[cO,RK,aI,n,aM rfl,cY];rfl
 unfold wK;by_cases e:pgF h=6
 .have f:loop (fW h c) 0=some (Out.brk ()):=eY (pgF h) (λk=>(k:Int)) _ g (by simp_all[fW]);rw[f,aM e];rfl
 .obtain⟨b,l⟩:=a7G d e;rw[<-aE4 d b] at l;generalize i:pgF h=q at *;have f:loop (fW h c) 0=some (Out.ret (⟨gB h.Bytes q c (cT c).toNat,h.Class.set q c⟩,gS q (cT c).toNat)):=eY q (λk=>(k:Int)) _ g (by
   have p:aZ ((q:Int)*64)=((q*64:Nat):Int):=by grind[cC]
   have o:aZ (((q*64:Nat):Int)+1)=((q*64+1:Nat):Int):=by grind[cC]
   have m:aZ (((q*64:Nat):Int)+2)=((q*64+2:Nat):Int):=by grind[cC]
   have n:(h.Class[q] != -1)=false:=aj
   simp only[fW,p,o,m,H3];rw[cO,RK,aI,n,dY,RK,aI,aS ah,aI,jX,aI,aS ah,aI];have:=aUB a b hc;simp only[gB] at this;rw[this];rfl)
  rw[f,aO e];rfl
def bCJ(b:lN m)(hc:0<=c/\c<=2):KL m c=some (BT m c):=by
 have l:=b.1.2.1;have d:0<cT c:=kK.2 hc;have e:=nZ c;obtain⟨_,_,_,_,_,_,_,_,a,_⟩:=lN.facts b;unfold KL BT;rw[bRE b.1.1 hc];by_cases i:pgF m.Heap=6
 .simp_all
 .have hk:c.toNat<m.aC.Global.length:=aa
  have f:=a _ (cQ hk);have g:idx m.aC.Global c=some m.aC.Global[c.toNat]:=iD hc.1 aa;have hz:idx (gS (pgF m.Heap) (cT c).toNat) 0=some ((pgF m.Heap:Int)*4):=by grind[aS,gS]
  have j:(((cT c).toNat:Int) == 0)=false:=aj
  have h:(gS (pgF m.Heap) (cT c).toNat).take (cT c).toNat=gS (pgF m.Heap) (cT c).toNat:=aM1 (by grind[aMH]);have k:((gS (pgF m.Heap) (cT c).toNat).drop 1).length<=4:=aj
  simp only[aO i,aI,aMH,j,bQ,bN,g,hz,PI,h];grind[cJ,eB]
def a7H(m:Mem)(s:Int):Int:=if 1<=kL m.Heap s/\kL m.Heap s<=6 then kL m.Heap s*32+s else 0
def bMI(a:gC m.Heap)(hc:0<=bO m.Heap s):EU m s=some (a7H m s):=by
 unfold EU WI CZ a7H;rw[sE a hc,aI,cR,cR];have b:=(sZ hc).1;simp only[bY b,aI,jI,bQ,bN];by_cases q:1<=kL m.Heap s/\kL m.Heap s<=6
 .simp only[bY q,jI,bQ,bN,aM q];grind[cC]
 grind
def TM(b:aA)(s:Sub)(p:Mem×Int):aA×Sub:=if 0<=p.2 then({b with Mem:=p.1},BS {s with Out:=a7H p.1 p.2} 0) else if s.Pc=3 then({b with Mem:=p.1},BS s 3) else({b with Mem:=p.1},{s with Pc:=s.Pc+1})
def aEF(b:aA)(w:Int)(s:Sub):aA×Sub:=
 if PQ s.A<0 then(b,BS s 2)
 else if s.Pc=0 then TM b s (K9 b.Mem w (PQ s.A))
 else if s.Pc=1\/s.Pc=3 then TM b s (C5 b.Mem (PQ s.A))
 else if s.Pc=2 then TM b s (BT b.Mem (PQ s.A))
 else(b,BS s 1)
def bCK{b:aA}(g:lN b.Mem)(G:0<=w/\w<=2)(s:Sub):EV b w s=some (aEF b w s):=by
 obtain⟨D,h3,h9,h1,h2,H,K,I,A,z⟩:=lN.facts g;have Z:=g.1.1.1;have hr:=a7F s.A;unfold EV aEF;rw[bCI];simp only[aI];by_cases c0:PQ s.A<0
 .simp only[bY c0,bS,bW,aM c0];rfl
 generalize PQ s.A=c at *;have hc:0<=c/\c<=2:=aa
 simp only[eQ c0,bQ,bN,aO c0];have fin:∀(p:Mem×Int),-1<=p.2->(0<=p.2->gC p.1.Heap/\0<=bO p.1.Heap p.2)->s.Pc<=3/\0<=s.Pc->kI s p.2 ⟨p.1,b.aD,b.aQ,b.pJ⟩=some (TM b s p):=by
  intro p hp j B;unfold kI TM;simp only[C1,ZW,bW];by_cases k:0<=p.2
  .rw[eQ (show ¬p.2<0 by omega),bY k];simp only[bQ,bN,bS,aM k,bMI (j k).1 (j k).2,aI];rfl
  .rw[bY (show p.2<0 by omega),eQ k];by_cases E:s.Pc=3
   .have a:(s.Pc == 3)=true:=aj
    simp only[a,bS,aO k,aM E,aI];rfl
   .have a:(s.Pc == 3)=false:=aj
    have e:aZ (s.Pc+1)=s.Pc+1:=cY;grind
 have f:∀l:an,-1<=(TL l).2\/(TL l).2∈l:=λl=>by unfold TL;grind
 by_cases F:s.Pc=0
 .have hk:(w*3+c).toNat<b.Mem.aC.Own.length:=aa
  have j:idx b.Mem.aC.Own (w*3+c)=some b.Mem.aC.Own[(w*3+c).toNat]:=iD aa aa;obtain⟨l,t,x,n,d,S,P,O,N⟩:=aUF g G hc;have hl:=z _ (cQ hk);rw[j] at n;cases n;rw[aQO aa] at d;have ep:K9 b.Mem w c=(⟨b.Mem.Heap,⟨b.Mem.aC.Global,b.Mem.aC.Own.set (w*3+c).toNat t⟩⟩,x):=by grind[K9,eB]
  have v:-1<=x:=by
   injection d with d;injection d with R C
   rcases f b.Mem.aC.Own[(w*3+c).toNat].aW with h|h
   .omega
   .rw[<-C];have:=g.1.2.2.2.2.1 _ (aIK _ (aM0.2 ⟨_,cQ hk,h⟩));omega
  have i:(s.Pc == 0)=true:=aj
  have:=fin (K9 b.Mem w c) aj aj aa;rw[ep] at this;simp only[i,bS,aM F,(YT G hc).1,aI,j];grind[aQO]
 .have i:(s.Pc == 0)=false:=aj
  simp only[i,bQ,bN,C2,aO F];have hk:c.toNat<b.Mem.aC.Global.length:=aa
  have j:idx b.Mem.aC.Global c=some b.Mem.aC.Global[c.toNat]:=iD aa aa;obtain⟨l,t,x,n,d,S,P,O,N⟩:=aG5 g hc;have hl:=A _ (cQ hk);rw[j] at n;cases n;rw[aQO aa] at d;have ep:C5 b.Mem c=(⟨b.Mem.Heap,⟨b.Mem.aC.Global.set c.toNat t,b.Mem.aC.Own⟩⟩,x):=by grind[C5,eB]
  have v:-1<=x:=by
   injection d with d;injection d with R C
   rcases f b.Mem.aC.Global[c.toNat].aW with h|h
   .omega
   .rw[<-C];have:=g.1.2.2.2.2.1 _ (XD _ (aM0.2 ⟨_,cQ hk,h⟩));omega
  have T:0<=s.Pc/\s.Pc<=3->(idx b.Mem.aC.Global c).bind (λo=>(wJ o).bind λm=>kI s m.2 ({b with Mem:=(⟨b.Mem.Heap,(⟨b.Mem.aC.Global.set c.toNat m.1,b.Mem.aC.Own⟩:aC)⟩:Mem)}:aA))=some (TM b s (C5 b.Mem c)):=λB=>by grind[aQO]
  by_cases U:s.Pc=1
  .grind
  .have r:(s.Pc == 1)=false:=aj
   simp only[r,bQ,bN];by_cases E:s.Pc=3
   .grind
   .have a:(s.Pc == 3)=false:=aj
    have u:¬(s.Pc=1\/s.Pc=3):=aa
    simp only[a,bQ,bN,aO u];by_cases L:s.Pc=2
    .obtain⟨m',y,Q,f2,X,W,V⟩:=a34 g hc;have M:=bCJ g hc;rw[Q] at M;have J:BT b.Mem c=(m',y):=aj
     have Y:-1<=(BT b.Mem c).2:=by grind[BT]
     grind
    .have q:(s.Pc == 2)=false:=aj
     simp only[q,bQ,bN,bW,aO L,aI];rfl
def dI(c:aD)(w:Int):zR:=c.cV.getD w.toNat ⟨false,0,false,0⟩
theorem YU{c:aD}(hc:O0 c)(a:0<=w/\w<=2):idx c.cV w=some (dI c w):=by have:=hc.2.1;grind[iD,dI]
def LX(c:aD)(w e:Int):aD×Bool:=
 if(dI c w).On=false\/(dI c w).hU=true\/(dI c w).aL=e then(c,true)
 else if(dI c w).Seen=2 then(⟨c.aL,c.cV.set w.toNat {dI c w with hU:=true,Seen:=0}⟩,true)
 else(⟨c.aL,c.cV.set w.toNat {dI c w with Seen:=(dI c w).Seen+1}⟩,false)
def aUH{c:aD}(hc:O0 c)(a:0<=w/\w<=2):POk c.aL (dI c w):=by
 have:=YU hc a;have b:=hc.2.1;rw[iD a.1 aa] at this;injection this with this
 rw[<-this];exact hc.2.2 _ (cQ _)
def bHN{c:aD}(hc:O0 c)(b:0<=w/\w<=2)(e:Int):OQ c w e=some (LX c w e):=by have f:=aUH hc b;have d:=YU hc b;have a:=hc.small;unfold OQ KN LX;rw[oG a.1,jY,bY hc,cR,bY b,d];simp only[aI,jI,bQ,bN,uL,d];generalize dI c w=p at *;have g:aZ (p.Seen+1)=p.Seen+1:=cC (by have:=f.2.1;omega) (by have:=f.2.1;omega);grind
def aNG(c:aD)(e:Int):aD×Bool:=if c.aL=e/\e≠100000 then(⟨e+1,c.cV⟩,true) else(c,false)
def bHO{c:aD}(hc:O0 c)(e:Int):YD c e=some (aNG c e):=by
 have a:=hc.small;unfold YD KO aNG;rw[oG a.1,jY,bY hc];simp only[aI,jI,bQ,bN];by_cases b:c.aL=e
 .have d:=hc.1;grind[cC]
 .simp[b]
def W5(c:aD)(w e:Int):aD×Bool:=if 0<=e/\e<=c.aL then(⟨c.aL,c.cV.set w.toNat ⟨true,e,false,0⟩⟩,true) else(c,false)
def bCL{c:aD}(hc:O0 c)(b:0<=w/\w<=2)(e:Int):SZ c w e=some (W5 c w e):=by have a:=hc.small;unfold SZ EW W5;rw[oG a.1,jY,bY hc,cR,bY b,cR];simp only[aI,jI,bQ,bN];grind[YU]
def PR(c:aD)(w:Int):aD×Bool:=if(dI c w).On then(⟨c.aL,c.cV.set w.toNat ⟨false,0,false,0⟩⟩,true) else(c,false)
def aYT{c:aD}(hc:O0 c)(b:0<=w/\w<=2):ZY c w=some (PR c w):=by have a:=hc.small;have d:=YU hc b;unfold ZY EX PR;rw[oG a.1,jY,bY hc,cR,bY b,d];grind
def fP(b:aA)(s:Sub):aA×Sub:=
 if s.Pc=0 then(b,{s with Pc:=1,E:=b.aD.aL,B:=0})
 else if s.Pc=1 then
  if 0<=s.B/\s.B<=2 then
   if(LX b.aD s.B s.E).2 then({b with aD:=(LX b.aD s.B s.E).1},{s with Pc:=if s.B=2 then 2 else 1,B:=s.B+1})
   else({b with aD:=(LX b.aD s.B s.E).1},BS s 8)
  else(b,BS s 1)
 else if s.Pc=2 then({b with aD:=(aNG b.aD s.E).1},BS {s with Out:=if(aNG b.aD s.E).2 then 1 else s.Out} 0)
 else(b,BS s 1)
def a35{b:aA}(hc:O0 b.aD)(s:Sub):xV b s=some (fP b s):=by
 unfold xV fP;rw[bHO hc,cR];simp only[bW,wL,wM,aI];by_cases i:s.Pc=0
 .grind
 .have e:(s.Pc == 0)=false:=aj
  simp only[e,bQ,bN,aO i];by_cases g:s.Pc=1
  .have c:(s.Pc == 1)=true:=aj
   simp only[c,bS,aM g];by_cases d:0<=s.B/\s.B<=2
   .have j:aZ (s.B+1)=s.B+1:=cY;simp only[bY d,jI,bQ,bN,aM d,bHN hc d,aI,j];grind[BS]
   .simp only[eQ d,QC,bS,aO d];rfl
  .have c:(s.Pc == 1)=false:=aj
   simp only[c,bQ,bN,aO g];by_cases f:s.Pc=2
   .have a:(s.Pc == 2)=true:=aj
    simp only[a,bS,aM f];cases h:(aNG b.aD s.E).2<;>rfl
   .have a:(s.Pc == 2)=false:=aj
    simp only[a,bQ,bN,aO f];rfl
def C6(b:aA)(w:Int)(s:Sub):aA×Sub:=
 if s.Pc=0 then(b,{s with Pc:=1,E:=b.aD.aL})
 else if s.Pc=1 then
  if(W5 b.aD w s.E).2 then({b with aD:=(W5 b.aD w s.E).1},{s with Pc:=2}) else({b with aD:=(W5 b.aD w s.E).1},BS s 1)
 else if s.Pc=2 then if b.aD.aL=s.E then(b,BS s 0) else(b,{s with Pc:=0})
 else(b,BS s 1)
def bMJ{b:aA}(hc:O0 b.aD)(j:0<=w/\w<=2)(s:Sub):OR b w s=some (C6 b w s):=by
 unfold OR C6;rw[bCL hc j];simp only[bW,aI];by_cases i:s.Pc=0
 .grind
 .have d:(s.Pc == 0)=false:=aj
  simp only[d,bQ,bN,aO i];by_cases f:s.Pc=1
  .have c:(s.Pc == 1)=true:=aj
   simp only[c,bS,aM f];cases h:(W5 b.aD w s.E).2<;>rfl
  .have c:(s.Pc == 1)=false:=aj
   simp only[c,bQ,bN,aO f];by_cases e:s.Pc=2
   .have a:(s.Pc == 2)=true:=aj
    simp only[a,bS,aM e];by_cases q:b.aD.aL=s.E
    .have g:(b.aD.aL == s.E)=true:=aj
     simp only[g,bS,aM q];rfl
    grind
   .have a:(s.Pc == 2)=false:=aj
    simp only[a,bQ,bN,aO e];rfl
def dU(l:bn)(w:Int):bo:=(l.getD w.toNat ⟨[]⟩).Rows
def TN(hl:sI l)(a:0<=w/\w<=2):idx l w=some ⟨dU l w⟩:=by have:=hl.1;rw[iD a.1 aa];simp[dU,DY,iS (show w.toNat<l.length by omega)]
def aYU(hl:sI l)(a:0<=w/\w<=2):(dU l w).length<=24:=by
 have h:=TN hl a;have b:=hl.1;rw[iD a.1 aa] at h;injection h with h
 have:=hl.small.2.2.2 _ (cQ (show w.toNat<l.length by omega));grind
def wQ(b:aA)(w:Int)(s:Sub):aA×Sub:=
 if s.Pc=0 then(b,{s with Pc:=1,E:=b.aD.aL})
 else if s.Pc=1 then
  if 0<=s.E/\s.E<=b.aD.aL then
   if m5 b.Mem s.A/\¬bH b.aQ (s.A % 32) then({b with aQ:=b.aQ.set w.toNat ⟨dU b.aQ w++[⟨s.A,s.E⟩]⟩},BS s 0) else(b,BS s 4)
  else(b,BS s 1)
 else(b,BS s 1)
def a7I{b:aA}(m:lR b)(k:0<=w/\w<=2)(s:Sub):BC b w s=some (wQ b w s):=by
 have g:=m.1.2.2.1;have l:=m.1.1;obtain⟨r,q,p,_⟩:=lN.facts l;have o:=TN g k;have i:=aYU g k;unfold BC wQ;rw[cR,GH l.1.1.1 aa (by grind[maxLen]) (by grind[maxLen]),iA];simp only[bW,aI,zK,KM];by_cases n:s.Pc=0
 .grind
 .have f:(s.Pc == 0)=false:=aj
  simp only[f,bQ,bN,aO n];by_cases j:s.Pc=1
  .have a:(s.Pc == 1)=true:=aj
   simp only[a,bS,aM j];by_cases e:0<=s.E/\s.E<=b.aD.aL
   .simp only[bY e,jI,bQ,bN,aM e];by_cases c:m5 b.Mem s.A
    .have hh:=c.1;simp only[bY c,jI,bQ,bN,aM hh,aBW g,aI];by_cases d:bH b.aQ (s.A % 32)
     .simp only[bY d,bS,aO (show ¬(m5 b.Mem s.A/\¬bH b.aQ (s.A % 32)) from λh=>h.2 d)];rfl
     .simp only[eQ d,bQ,bN,o,aI,aM (show m5 b.Mem s.A/\¬bH b.aQ (s.A % 32) from⟨c,d⟩)];rw[LW];rfl
    .simp only[eQ c,QC,bS,aO (show ¬(m5 b.Mem s.A/\¬bH b.aQ (s.A % 32)) from λh=>c h.1)];rfl
   .simp only[eQ e,QC,bS,aO e];rfl
  .have a:(s.Pc == 1)=false:=aj
   simp only[a,bQ,bN,aO j];rfl
def OX(r:eR)(e:Int):Prop:=2<=e/\r.aL<=aZ (e-2)
instance (r:eR) (e:Int):Decidable (OX r e):=by unfold OX;infer_instance
def aUI(r:eR)(e:Int):RX r e=some (decide (OX r e)):=by unfold RX RG OX;grind
def uT(l:bo)(e:Int)(k:Nat):Nat:=k+(l.drop k).findIdx (λr=>decide (OX r e))
def bHP{l:bo}(hl:l.length<=1000){a e:Int}:C3 l a e=some (if uT l e a.toNat<l.length then(uT l e a.toNat:Int) else -1):=by
 have c:(if 0<a then a else 0)=(a.toNat:Int):=aa
 unfold C3;rw[c];have key:∀d k:Nat,l.length<=k+d->loop (fX l e) (k:Int)=some (if uT l e k<l.length then Out.ret (uT l e k:Int) else Out.brk ()):=by
  intro d;induction d with
  |zero=>
   intro k hk;rw[aY (r:=Out.brk ()) (by simp_all[fX,aO]),aO (by grind[uT])]
  |succ d g=>
   intro k hk;by_cases b:k<l.length
   .have i:l.drop k=l[k]::l.drop (k+1):=vA b;by_cases h:OX l[k] e
    .have f:uT l e k=k:=by grind[uT]
     simp_all[aY,fX,aS,aUI]
    .have f:uT l e k=uT l e (k+1):=by unfold uT;grind
     rw[bJ (s':=((k+1:Nat):Int)) (by simp only[fX];rw[cO,aS b,aI,aUI _ e,aI,eQ h,dY,cY];rfl),g (k+1) aa,f]
   grind
 rw[key l.length a.toNat aa];split<;>rfl
theorem a7J{l:bo}{e:Int}(h:uT l e k<l.length):k<=uT l e k/\OX l[uT l e k] e:=by
 refine⟨by grind[uT],?_⟩;have a:(l.drop k).findIdx (λr=>decide (OX r e))<(l.drop k).length:=by grind[uT]
 have:=aQ9 (xs:=l.drop k) (p:=λr=>decide (OX r e)) (w:=a);rw[List.getElem_drop] at this;exact of_decide_eq_true this
def rR(m:Mem)(w h:Int):Mem:=
 if h/32+1<=6 then
  if(fE m.aC.Own (w*3+bO m.Heap (h % 32)).toNat).length<2 then⟨⟨st4 m.Heap.Bytes (jG (h % 32) (bO m.Heap (h % 32))).toNat (h/32+1),m.Heap.Class⟩,⟨m.aC.Global,m.aC.Own.set (w*3+bO m.Heap (h % 32)).toNat ⟨fE m.aC.Own (w*3+bO m.Heap (h % 32)).toNat++[h % 32]⟩⟩⟩
  else⟨⟨st4 m.Heap.Bytes (jG (h % 32) (bO m.Heap (h % 32))).toNat (h/32+1),m.Heap.Class⟩,⟨m.aC.Global.set (bO m.Heap (h % 32)).toNat ⟨fE m.aC.Global (bO m.Heap (h % 32)).toNat++[h % 32]⟩,m.aC.Own⟩⟩
 else⟨⟨st4 m.Heap.Bytes (jG (h % 32) (bO m.Heap (h % 32))).toNat (h/32+1),m.Heap.Class⟩,m.aC⟩
def aKL(r:lN m){h:Int}(C:0<=w/\w<=2)(l:m5 m h):OO m w (h % 32)=some (rR m w h):=by
 obtain⟨n,E,D,G,F,u,A,v,i,g⟩:=lN.facts r;have p:=r.1.1.1;have hh:=l.1;have b:=eC l.2.1;have x:=aAE b;have j:0<=bO m.Heap (h % 32)/\bO m.Heap (h % 32)<=2:=by obtain⟨_,q,e⟩:=sZ b;rw[e];exact kK.1 aa
 have z:1<=h/32/\h/32<=6:=by grind[lJ]
 have t:jG (h % 32) (bO m.Heap (h % 32))=(((jG (h % 32) (bO m.Heap (h % 32))).toNat:Nat):Int):=aa
 have s:aZ (h/32+1)=h/32+1:=cY;unfold OO rR;rw[nD p,aI,sE p b,l.2.2,aI,yT,aI,s];generalize y:(jG (h % 32) (bO m.Heap (h % 32))).toNat=a at t;rw[t,PN aa aa aa];simp only[aI,SY,SX,s];generalize bO m.Heap (h % 32)=c at *;by_cases q:h/32+1<=6
 .have hk:(w*3+c).toNat<m.aC.Own.length:=aa
  have B:idx m.aC.Own (w*3+c)=some m.aC.Own[(w*3+c).toNat]:=iD aa aa;have d:c.toNat<m.aC.Global.length:=aa
  have f:idx m.aC.Global c=some m.aC.Global[c.toNat]:=iD aa aa;have b1:=g _ (cQ hk);have H:=i _ (cQ d);rw[bY q,aM rfl,aM q];unfold aDF;rw[(YT C j).1];simp only[aI,B,f,SW,aDD,aDE,<-eB hk,<-eB d];by_cases o:m.aC.Own[(w*3+c).toNat].aW.length<2
  .have k:(m.aC.Own[(w*3+c).toNat].aW.length:Int)<2:=aa
   simp only[bY k,bS,aM o];grind[cJ]
  .have k:¬(m.aC.Own[(w*3+c).toNat].aW.length:Int)<2:=aa
   simp only[eQ k,bQ,bN,aO o];grind[cJ]
 simp_all[aO]
def bAC(z:an)(w:Int):Int:=z.getD w.toNat 0
def bCM(hz:aFY z)(a:0<=w/\w<=2):idx z w=some (bAC z w):=by have:=hz.1;grind[iD,bAC]
def RL(l:bo)(k:Int):eR:=l.getD k.toNat ⟨0,0⟩
def aEG{l:bo}{k:Int}(h:0<=k/\k<l.length):idx l k=some (RL l k):=by grind[iD,RL]
def TO(l:bo)(s:Sub):Prop:=0<=s.Row/\s.Row<l.length/\(RL l s.Row).Handle=s.H
instance (l:bo) (s:Sub):Decidable (TO l s):=by unfold TO;infer_instance
def dD(b:aA)(w:Int)(s:Sub):aA×Sub:=
 if s.Pc=0 then(b,{s with Pc:=1,E:=b.aD.aL,Row:=0})
 else if s.Pc=1 then
  if uT (dU b.aQ w) s.E s.Row.toNat<(dU b.aQ w).length then(b,{s with Pc:=2,Row:=(uT (dU b.aQ w) s.E s.Row.toNat:Int),B:=0,H:=(RL (dU b.aQ w) (uT (dU b.aQ w) s.E s.Row.toNat:Int)).Handle})
  else(b,BS s 0)
 else if s.Pc=2 then
  if(0<=s.B/\s.B<=2)/\TO (dU b.aQ w) s then
   if bAC b.pJ s.B=s.H then(b,{s with Pc:=1,Row:=s.Row+1}) else(b,{s with Pc:=if s.B=2 then 3 else 2,B:=s.B+1})
  else(b,BS s 1)
 else if s.Pc=3 then
  if TO (dU b.aQ w) s/\OX (RL (dU b.aQ w) s.Row) s.E then({b with Mem:=rR b.Mem w s.H,aQ:=b.aQ.set w.toNat ⟨(dU b.aQ w).eraseIdx s.Row.toNat⟩},{s with Pc:=1,Out:=aZ (s.Out+1)})
  else(b,BS s 1)
 else(b,BS s 1)
def VR(hl:sI l)(a:0<=w/\w<=2){r:eR}(b:r∈dU l w):r∈cE l:=by
 have h:=TN hl a;have c:=hl.1;rw[iD a.1 aa] at h;injection h with h
 exact aM0.2 ⟨l[w.toNat],cQ _,aj⟩
def aKM{l:bo}{k:Int}(h:0<=k/\k<l.length):RL l k∈l:=by have:=aEG h;grind[iD]
def a36{b:aA}(t:lR b)(p:0<=w/\w<=2)(s:Sub):xW b w s=some (dD b w s):=by
 have x:=t.1.2.2.1;have F:=t.1.1;have E:=TN x p;have z:=aYU x p;have v:=λr j=>VR x p (r:=r) j;unfold xW dD;rw[E];simp only[aI,bW];generalize dU b.aQ w=l at *;by_cases D:s.Pc=0
 .grind
 have u:(s.Pc == 0)=false:=aj
 simp only[u,bQ,bN,aO D];by_cases C:s.Pc=1
 .have i:(s.Pc == 1)=true:=aj
  simp only[i,bS,aM C,bHP (show l.length<=1000 by omega),aI];by_cases q:uT l s.E s.Row.toNat<l.length
  .have n:¬(uT l s.E s.Row.toNat:Int)<0:=aa
   simp only[aM q,eQ n,bQ,bN,aEG (l:=l) (k:=(uT l s.E s.Row.toNat:Int)) aa,aI]
  .simp only[aO q,bY (show(-1:Int)<0 by omega),bS];rfl
 have i:(s.Pc == 1)=false:=aj
 simp only[i,bQ,bN,aO C];have el:aZ ((l.length:Int)-1)=(l.length:Int)-1:=cY;by_cases B:s.Pc=2
 .have g:(s.Pc == 2)=true:=aj
  simp only[g,bS,aM B,cR,el,aI,gI,wN,bW];by_cases o:0<=s.B/\s.B<=2
  .simp only[bY o,jI,bQ,bN];by_cases e:0<=s.Row/\s.Row<=(l.length:Int)-1
   .simp only[bY e,jI,bQ,bN,aEG (l:=l) (k:=s.Row) aa,aI];by_cases m:(RL l s.Row).Handle=s.H
    .have c:((RL l s.Row).Handle != s.H)=false:=aj
     have d:(0<=s.B/\s.B<=2)/\TO l s:=⟨o,e.1,aa,m⟩;have H:aZ (s.B+1)=s.B+1:=cY;have y:aZ (s.Row+1)=s.Row+1:=cY;simp only[c,bQ,bN,aM d,bCM t.1.2.2.2 o,aI,H,y];grind
    .have c:((RL l s.Row).Handle != s.H)=true:=aj
     have d:¬((0<=s.B/\s.B<=2)/\TO l s):=λh=>m h.2.2.2;simp only[c,bS,aO d,aI];rfl
   .have d:¬((0<=s.B/\s.B<=2)/\TO l s):=λh=>e ⟨h.2.1,by have:=h.2.2.1;omega⟩;simp only[eQ e,QC,bS,aO d,aI];rfl
  .have d:¬((0<=s.B/\s.B<=2)/\TO l s):=λh=>o h.1;simp only[eQ o,QC,bS,aO d,aI];rfl
 have g:(s.Pc == 2)=false:=aj
 simp only[g,bQ,bN,aO B];by_cases A:s.Pc=3
 .have f:(s.Pc == 3)=true:=aj
  simp only[f,bS,aM A,cR,el,aI,gJ,G6,bW];by_cases e:0<=s.Row/\s.Row<=(l.length:Int)-1
  .simp only[bY e,jI,bQ,bN,aEG (l:=l) (k:=s.Row) aa,aI];by_cases m:(RL l s.Row).Handle=s.H
   .have c:((RL l s.Row).Handle != s.H)=false:=aj
    simp only[c,bQ,bN,aUI,aI];by_cases j:OX (RL l s.Row) s.E
    .have d:TO l s/\OX (RL l s.Row) s.E:=⟨⟨e.1,aa,m⟩,j⟩;have y:aZ (s.Row+1)=s.Row+1:=cY;have a:=(t.2 _ (v _ (aKM (l:=l) (k:=s.Row) aa))).1;rw[m] at a;have G:(s.Row+1).toNat=s.Row.toNat+1:=aa
     simp only[bY j,jI,bQ,bN,aM d,y,iA,aM a.1,aI,aKL F p a,G];grind[cJ,del_eq]
    .have d:¬(TO l s/\OX (RL l s.Row) s.E):=λh=>j h.2;simp only[eQ j,QC,bS,aO d,aI];rfl
   .have c:((RL l s.Row).Handle != s.H)=true:=aj
    have d:¬(TO l s/\OX (RL l s.Row) s.E):=λh=>m h.1.2.2;simp only[c,bS,aO d,aI];rfl
  .have d:¬(TO l s/\OX (RL l s.Row) s.E):=λh=>e ⟨h.1.1,by have:=h.1.2.1;omega⟩;simp only[eQ e,QC,bS,aO d,aI];rfl
 .have f:(s.Pc == 3)=false:=aj
  simp only[f,bQ,bN,aO A];rfl
def iV(b:aA)(w:Int)(s:Sub):aA×Sub:=if s.iE then(b,s) else if s.Kind=1 then aEF b w s else if s.Kind=2 then wQ b w s else if s.Kind=3 then fP b s else if s.Kind=4 then dD b w s else if s.Kind=5 then C6 b w s else(b,BS s 1)
theorem bAD{b:aA}(a:lR b)(c:0<=w/\w<=2)(s:Sub):ZX b w s=some (iV b w s):=by
 unfold ZX iV;rw[bCK a.1.1 c,a7I a c,a35 a.1.2.1,a36 a c,bMJ a.1.2.1 c];simp only[aI,bW];cases s.iE
 .simp only[bQ,bN,beq_iff_eq];split<;>(try rfl);split<;>(try rfl);split<;>(try rfl);split<;>(try rfl);split<;>rfl
 .rfl
def bMK{b:aA}(a:lR b)(c:0<=w/\w<=2)(s:Sub):lR (iV b w s).1:=by obtain⟨x,y,d,_,h⟩:=step_eq a a.small c s;grind[bAD]
theorem aQP{b:an}{a:Nat}(h:a+4<=b.length)(c:j<a\/a+4<=j):bt (WZ b a n) j=bt b j:=by unfold WZ;rw[TJ ah,TJ ah,TJ ah,TJ aa,iB,iB,iB,iB]
theorem HOk.put{h:Heap}(hh:HOk h)(hc:0<=bO h s)(hn:0<=n/\n<=4294967295) :
  HOk ⟨WZ h.Bytes ((jG s (bO h s)).toNat+4) n,h.Class⟩/\∀t,0<=bO h t->kL ⟨WZ h.Bytes ((jG s (bO h s)).toNat+4) n,h.Class⟩ t=kL h t:=by
 obtain⟨b,B⟩:=hh;have o:=b.1;have f:gC ⟨WZ h.Bytes ((jG s (bO h s)).toNat+4) n,h.Class⟩:=⟨by grind[aKI],b.2.1,bCD b.2.2.1 _ hn,b.2.2.2⟩;obtain⟨p,i,E,J,K,ec,L,ep⟩:=rQ hc;have v:0<=cH h p/\cH h p<=2:=kK.1 aa;have g:8+i*(bA (cH h p)).toNat+8<=64/\∀j,j<(cT (cH h p)).toNat->j*(bA (cH h p)).toNat+4<=i*(bA (cH h p)).toNat+4\/i*(bA (cH h p)).toNat+12<=j*(bA (cH h p)).toNat:=by grind[cT,bA]
 have m:∀q j,q<6->j<(cT (cH h q)).toNat->ld (WZ h.Bytes ((jG s (bO h s)).toNat+4) n) (q*64+8+j*(bA (cH h q)).toNat) 4=ld h.Bytes (q*64+8+j*(bA (cH h q)).toNat) 4:=λq j c C=>by
  have hz:=uR b c rfl C;refine N4 aa (by grind[aKI]) λk H G=>?_;by_cases e:q=p
  .grind[aQP]
  grind[aQP]
 refine⟨⟨f,λq c=>?_⟩,λt A=>?_⟩
 .rw[K7 f c];have a:=(K7 b c).1 (B q c);by_cases e:q=p
  .subst e;have d:¬cH h q<0:=aa
   unfold aIA at a ⊢;have l:cH ⟨WZ h.Bytes ((jG s (bO h s)).toNat+4) n,h.Class⟩ q=cH h q:=rfl;rw[l];rw[aO d] at a ⊢;obtain⟨⟨S,R,Q⟩,P,O⟩:=a;have D:∀k,k<8->bt (WZ h.Bytes ((jG s (bO h s)).toNat+4) n) (q*64+k)=bt h.Bytes (q*64+k):=λk hk=>aQP aa aa;have N:=D 0 aa;grind
  .refine aIA.same c b (by grind[aKI]) rfl (λk hk=>aQP aa aa) a
 .obtain⟨F,I,r,u,w,z,y,x⟩:=rQ A;have M:bO ⟨WZ h.Bytes ((jG s (bO h s)).toNat+4) n,h.Class⟩ t=bO h t:=rfl;grind[kL]
theorem lN.put(d:lN m)(hc:0<=bO m.Heap s)(hn:0<=n/\n<=4294967295):yD m ⟨⟨WZ m.Heap.Bytes ((jG s (bO m.Heap s)).toNat+4) n,m.Heap.Class⟩,m.aC⟩ (-1):=by obtain⟨a,b⟩:=HOk.put d.1.1 hc hn;refine⟨lN.heap d a λx f=>⟨rfl,b x (lN.pT d f).1⟩,λt g _=>?_⟩;have c:=i5.1 g;have e:=b t c.1;exact⟨i5.2 ⟨c.1,c.2.1,aj⟩,e,rfl⟩
theorem start_eq{h:Heap}(a:gC h)(hc:0<=bO h s):RF s (bO h s)=some (jG s (bO h s)+4)/\QU s (bO h s)=some (jG s (bO h s)+4):=by have b:=aAE hc;unfold RF QU;rw[yT,E2,aI,T8,cY];simp
def hb0(x:Int):(x == 0)=decide (x=0):=aj
def RM(h:Int):wG h=some (decide (kN h)):=by grind[wG,F5,kN,jH]
theorem LA(h:Int):oE h=some (decide (kN h)):=by grind[oE,AJ,kN,iI]
def a37{c:aD}(hc:O0 c)(a:0<=w/\w<=2):∃r,ZY c w=some r/\ZJ c w=some r/\O0 r.1/\r.1.aL=c.aL:=by
 obtain⟨p,d,b⟩:=a67 hc a;unfold ZY ZJ;rw[oG hc.small.1,E5 hc.small.1,jY,yA hc.small.2,oH,cR,bY hc,bY a];simp only[aI,jI,bQ,bN,d,EX,EC];cases p.On with
 |true=>
  simp only[jI,bQ,bN];have e:=hc.1;exact⟨_,rfl,rfl,hc.a1D ⟨aj,ae,λ_=>rfl⟩,rfl⟩
 |false=>simp_all
def aFY.set(hz:aFY z)(k:Nat){h:Int}(hh:kN h):aFY (z.set k h):=⟨by simpa using hz.1,λq a=>(tD a).elim (hz.2 q) (λe=>e ▸ hh)⟩
def lR.clock{b:aA}(a:lR b){cl:aD}(h:O0 cl)(e:b.aD.aL<=cl.aL):lR ⟨b.Mem,cl,b.aQ,b.pJ⟩:=⟨⟨a.1.1,h,a.1.2.2⟩,λr c=>⟨(a.2 r c).1,aQ8 (a.2 r c).2 e⟩⟩
def lR.haz{b:aA}(a:lR b)(h:aFY z):lR ⟨b.Mem,b.aD,b.aQ,z⟩:=⟨⟨a.1.1,a.1.2.1,a.1.2.2.1,h⟩,a.2⟩
def lR.mem{b:aA}(a:lR b)(h:yD b.Mem m (-1)):lR ⟨m,b.aD,b.aQ,b.pJ⟩:=⟨⟨h.1,a.1.2⟩,λr c=>⟨h.live (a.2 r c).1 aa,(a.2 r c).2⟩⟩
def bT2{h:Heap}(a:0<=bO h s):(jG s (bO h s)).toNat+8<=384/\8<=jV (bO h s)/\jV (bO h s)<=40:=by
 have b:0<=bO h s/\bO h s<=2:=by obtain⟨_,q,e⟩:=sZ a;rw[e];exact kK.1 aa
 grind[jV,bO,rQ,cT,bA]
def C7(b a:Int):Sub:=⟨b,a,0,0,0,0,0,0,0,false⟩
def kM:an->Nat->bh->an
 |b,_,[]=>b
 |b,a,c::t=>kM (b.set a (c.toNat:Int)) (a+1) t
theorem E6:∀(t:bh) (b:an) (a:Nat),(kM b a t).length=b.length
 |[],b,a=>rfl
 |c::t,b,a=>by rw[kM,E6];simp
def aYV:∀(t:bh) {b:an} (a:Nat),uQ b->uQ (kM b a t)
 |[],b,a,h=>h
 |c::t,b,a,h=>aYV t (a+1) (a32 a h ⟨aa,by have:=c.toNat_lt;omega⟩)
theorem RN:∀(t:bh) {b:an} {a:Nat},a+t.length<=b.length->∀{j:Nat},(j<a\/a+t.length<=j)->bt (kM b a t) j=bt b j
 |[],b,a,h,j,d=>rfl
 |c::t,b,a,h,j,d=>by simp only[H8] at h d;rw[kM,RN t ah aa,TJ aa,iB]
theorem aUJ:∀(t:bh) {b:an} {a:Nat},a+t.length<=b.length->∀{j:Nat} (d:j<t.length),bt (kM b a t) (a+j)=(t[j].toNat:Int)
 |c::t,b,a,h,j,d=>by
  simp only[H8] at h d;rw[kM];cases j with
  |zero=>rw[RN t ah aa,TJ aa,aM aa];rfl
  |succ j=>
   have:=aUJ t (b:=b.set a (c.toNat:Int)) (a:=a+1) ah (j:=j) aa;grind
def aNH(b:an)(a:Nat)(t:bh)(hl:b.length<=100000)(h:a+t.length<=b.length):∀(r:bh) (k:Nat) (c:an),c.length=b.length->t.drop k=r->k+r.length=t.length->loop (mH b (a:Int) t) (c,(k:Int))=some (kM c (a+k) r)
 |[],k,c,hc,f,hk=>by refine aY ?_;simp only[mH];rw[cJ hc,aO aj];rfl
 |x::r,k,c,hc,f,hk=>by
  simp only[H8] at hk;have d:k<t.length:=aa
  have e:=vA d;rw[f] at e;injection e with i g
  have st:mH b (a:Int) t (c,(k:Int))=some (.next (c.set (a+k) (x.toNat:Int),((k+1:Nat):Int))):=by simp only[mH];rw[cJ hc,cO,aS d,aI,cY (x:=(a:Int)+k),show(a:Int)+k=((a+k:Nat):Int) by omega,RK,aI,cY,<-i];rfl
  rw[bJ st,aNH b a t hl h r (k+1) _ aj g.symm aa,kM];rfl
def aYW{b:an}{a:Nat}(hl:b.length<=100000)(h:a+t.length<=b.length):oD b (a:Int) t=some (kM b a t):=by unfold oD;rw[show(0:Int)=((0:Nat):Int) from rfl,aNH b a t hl h t 0 b rfl rfl aa,aI];grind[SD,SC,cJ,E6]
def HOk.kM{h:Heap}(hh:HOk h)(hc:0<=bO h s){o:Nat}(E:((o+t.length:Nat):Int)<=jV (bO h s)) :
  HOk ⟨Gv.kM h.Bytes ((jG s (bO h s)).toNat+4+o) t,h.Class⟩/\∀u,0<=bO h u->kL ⟨Gv.kM h.Bytes ((jG s (bO h s)).toNat+4+o) t,h.Class⟩ u=kL h u:=by
 obtain⟨c,F⟩:=hh;have n:=c.1;have g:gC ⟨Gv.kM h.Bytes ((jG s (bO h s)).toNat+4+o) t,h.Class⟩:=⟨by grind[E6],c.2.1,aYV _ _ c.2.2.1,c.2.2.2⟩;obtain⟨p,i,H,M,N,ec,O,ep⟩:=rQ hc;have y:0<=cH h p/\cH h p<=2:=kK.1 aa;rw[ec] at E;have b:8+i*(bA (cH h p)).toNat+4+(jV (cH h p)).toNat<=64/\∀j,j<(cT (cH h p)).toNat->j*(bA (cH h p)).toNat+4<=i*(bA (cH h p)).toNat+4\/i*(bA (cH h p)).toNat+4+(jV (cH h p)).toNat<=j*(bA (cH h p)).toNat:=by grind[cT,bA,jV]
 have w:o+t.length<=(jV (cH h p)).toNat:=aa
 have m:∀q j,q<6->j<(cT (cH h q)).toNat->ld (Gv.kM h.Bytes ((jG s (bO h s)).toNat+4+o) t) (q*64+8+j*(bA (cH h q)).toNat) 4=ld h.Bytes (q*64+8+j*(bA (cH h q)).toNat) 4:=λq j d r=>by
  have hz:=uR c d rfl r;refine N4 aa (by grind[E6]) λk K J=>?_;by_cases e:q=p
  .subst e;have:=b.2 j r;exact RN _ aa aa
  .exact RN _ aa aa
 refine⟨⟨g,λq d=>?_⟩,λu D=>?_⟩
 .rw[K7 g d];have a:=(K7 c d).1 (F q d);by_cases e:q=p
  .subst e;have f:¬cH h q<0:=aa
   unfold aIA at a ⊢;have l:cH ⟨Gv.kM h.Bytes ((jG s (bO h s)).toNat+4+o) t,h.Class⟩ q=cH h q:=rfl;rw[l];rw[aO f] at a ⊢;obtain⟨⟨V,U,T⟩,S,R⟩:=a;have G:∀k,k<8->bt (Gv.kM h.Bytes ((jG s (bO h s)).toNat+4+o) t) (q*64+k)=bt h.Bytes (q*64+k):=λk hk=>RN _ aa aa;have Q:=G 0 aa;grind
  .refine aIA.same d c (by grind[E6]) rfl (λk hk=>RN _ aa aa) a
 .obtain⟨I,L,v,x,z,C,B,A⟩:=rQ D;have P:bO ⟨Gv.kM h.Bytes ((jG s (bO h s)).toNat+4+o) t,h.Class⟩ u=bO h u:=rfl;grind[kL]
def lN.kM(f:lN m)(hc:0<=bO m.Heap s){o:Nat}(d:((o+t.length:Nat):Int)<=jV (bO m.Heap s)):yD m ⟨⟨Gv.kM m.Heap.Bytes ((jG s (bO m.Heap s)).toNat+4+o) t,m.Heap.Class⟩,m.aC⟩ (-1):=by obtain⟨a,b⟩:=HOk.kM f.1.1 hc d;refine⟨lN.heap f a λx g=>⟨rfl,b x (lN.pT f g).1⟩,λt d _=>?_⟩;have c:=i5.1 d;have e:=b t c.1;exact⟨i5.2 ⟨c.1,c.2.1,aj⟩,e,rfl⟩
def aYX:gL:=⟨0,0,0⟩
def uY(h:Heap)(s:Int):Nat:=(jG s (bO h s)).toNat+4
def aEH(h:Heap)(s:Int):gL:=⟨ld h.Bytes (uY h s) 2,ld h.Bytes (uY h s+2) 4,ld h.Bytes (uY h s+6) 4⟩
def aCB(h:Heap)(x:Int):gL:=if lJ x/\0<=bO h (x % 32)/\10<=jV (bO h (x % 32)) then aEH h (x % 32) else aYX
theorem BU{h:Heap}(a:0<=bO h s)(b:10<=jV (bO h s)):uY h s+10<=384/\16<=jV (bO h s):=by grind[bO,uY,rQ,jV,cT,bA]
def aUK{h:Heap}(a:gC h)(s:Int):JR h s=some (decide (10<=jV (bO h s))):=by grind[JR,lI,aD3]
def aIB{h:Heap}(a:gC h)(hc:0<=bO h s):CD h s=some (uY h s:Int):=by have:=aAE hc;grind[CD,uY,lI,start_eq]
def aMI{h:Heap}(a:gC h)(hc:0<=bO h s)(b:10<=jV (bO h s)):rB h s=some (aEH h s):=by
 have c:=(BU hc b).1;have d:=a.1;unfold rB aEH;rw[aIB a hc,aI,show(2:Int)=((2:Nat):Int) from rfl,show(4:Int)=((4:Nat):Int) from rfl,xY a.2.2.1 aa aa aa,aI,
  cY,show(uY h s:Int)+((2:Nat):Int)=((uY h s+2:Nat):Int) by omega,xY a.2.2.1 aa aa aa,aI,
  cY,show(uY h s:Int)+6=((uY h s+6:Nat):Int) by omega,xY a.2.2.1 aa aa aa];rfl
def aYY(d:lN m)(x:Int):∃c,OG m x=some (aCB m.Heap x,c):=by
 have b:=d.1.1.1;unfold OG aCB;rw[iI,aI];by_cases hh:lJ x
 .rw[bY hh,dY,(lJ.mod hh).1,lI b,aI];unfold JS;by_cases hc:bO m.Heap (x % 32)<0
  .rw[bY hc,aM rfl,iB];exact⟨_,rfl⟩
  .rw[eQ hc,dY,(lJ.mod hh).1,aUK b,aI];by_cases a:10<=jV (bO m.Heap (x % 32))
   .simp_all[aMI]
   .rw[eQ a,aM ak,iB];exact⟨_,rfl⟩
 .rw[eQ hh,aM ak,aO (λq=>hh q.1)];exact⟨_,rfl⟩
def RO(n:gL):Int:=if lJ n.Next then n.Next else 0
def a1H(n:gL):iM n=some (RO n):=by unfold iM RO;rw[iI,aI];grind
def aMJ(n:gL):kN (RO n):=by
 unfold RO;split
 .exact .inr (by assumption)
 .exact .inl rfl
def kY(m:Mem)(x:Int):Prop:=m5 m x/\10<=jV (bO m.Heap (x % 32))
instance (m:Mem) (x:Int):Decidable (kY m x):=by unfold kY;infer_instance
def aEI(e:lN m)(x:Int):∃c,yN m x=some c/\(c=0↔kY m x):=by
 obtain⟨b,l,k,o,n,f,j,i,h,g⟩:=lN.facts e;have d:=e.1.1.1;unfold yN kY;rw[K4 d aa (by rw[l];simp[maxLen]) (by rw[k];simp[maxLen]),aI];by_cases hl:m5 m x
 .rw[bY hl,dY,(lJ.mod hl.1).1,aUK d,aI];by_cases a:10<=jV (bO m.Heap (x % 32))
  .rw[bY a,dY];exact⟨_,rfl,by simp[hl,a]⟩
  .rw[eQ a,aM ak];exact⟨_,rfl,by simp[hl,a]⟩
 simp_all
def YV(n:Int):bh:=[u8 (n/256),u8 n]
def a7K(hn:0<=n/\n<=65535):m7 n 2=some (YV n):=by
 have a:B6 2=some true:=by grind[B6,dL]
 unfold m7;rw[a];have e:IntKind.u64.wrap (aZ (8*2))=16:=ai
 have d:aRC .i64 1 16=65536:=ai
 simp only[aI,jI,bQ,bN,e,d];rw[T8,WU,eQ aa];simp only[yH,bQ,bN];rw[WU,show aZ (2-1)=((1:Nat):Int) from by grind[cC]];have st:∀(m:Int) (c:bh) (i:Nat),i<c.length->i<4->0<=m->rX (m,c,(i:Int))=some (.next (m/256,c.set i (u8 m),(i:Int)-1)):=λm c i hc f b=>by simp only[rX];rw[aM ae,aS hc,aI,show(8:Int)=((8:Nat):Int) from rfl,a94 b aa,cY,H3];rfl
 rw[bJ (st n _ 1 ae aa hn.1),show((1:Nat):Int)-1=((0:Nat):Int) by rfl,
  bJ (st _ _ 0 ae aa aa),aY (r:=YV n)]
 .rfl
 .simp only[rX];rw[dY];rfl
def aXU(n:gL):bh:=YV n.Key++pM n.dP++pM n.Next
def aIC(n:gL):Prop:=(0<=n.Key/\n.Key<=99)/\(0<=n.dP/\n.dP<=65535)/\kN n.Next
instance (n:gL):Decidable (aIC n):=by unfold aIC;infer_instance
def aYZ(n:gL):OH n=some (decide (aIC n)):=by grind[OH,aIC,dL,LA,AK]
def aKN(h:kN x):0<=x/\x<=223:=by
 obtain h|h:=h
 .omega
 .have:=h.1;omega
def aG6(m:Mem)(x:Int)(n:gL):Mem:=if aIC n/\kY m x then⟨⟨kM m.Heap.Bytes (uY m.Heap (x % 32)) (aXU n),m.Heap.Class⟩,m.aC⟩ else m
def a7L(d:lN m)(x:Int)(n:gL):∃c,QX m x n=some (aG6 m x n,c):=by
 obtain⟨i,v,u,y,w,f,r,o,l,k⟩:=lN.facts d;have s:=d.1.1.1;have h:m.Heap.Bytes.length<=maxLen:=by grind[maxLen]
 unfold QX aG6;rw[VO f,aI,E4 h aa,bY d,aI,dY,aYZ,aI];unfold FQ;by_cases a:aIC n
 .rw[bY a,dY];obtain⟨c,e,hc⟩:=aEI d x;rw[e,aI];by_cases hw:kY m x
  .have b:=eC hw.1.2.1;have t:=(BU b hw.2).1;have g:=aKN a.2.2;have p:=a.1.2;have j:=a.2.1.2;obtain rfl:=hc.2 hw;rw[aM ak,(lJ.mod hw.1.1).1,aIB s b,aI,a7K ⟨a.1.1,aa⟩,aI,aAI ⟨a.2.1.1,aa⟩,aI,cJ (by simp[YV,pM]),
    aAI ⟨g.1,aa⟩,aI,cJ (by simp[YV,pM]),aYW aa (by grind[YV,pM]),aI,aM ⟨a,hw⟩]
   exact⟨_,rfl⟩
  .rw[aO aj,aO (λq=>hw q.2)];exact⟨_,rfl⟩
 simp_all
def aNI(m:Mem)(x y:Int):Mem:=if kN y/\kY m x then⟨⟨kM m.Heap.Bytes (uY m.Heap (x % 32)+6) (pM y),m.Heap.Class⟩,m.aC⟩ else m
def bCN(b:lN m)(x y:Int):∃c,UW m x y=some (Gv.aNI m x y,c):=by
 obtain⟨i,s,r,u,t,d,n,l,k,j⟩:=lN.facts b;have o:=b.1.1.1;have g:m.Heap.Bytes.length<=maxLen:=by grind[maxLen]
 unfold UW Gv.aNI;rw[VO d,aI,E4 g aa,bY b,aI,dY,LA,aI];unfold JV;by_cases h:kN y
 .rw[bY h,dY];obtain⟨c,e,hc⟩:=aEI b x;rw[e,aI];by_cases hw:kY m x
  .have a:=eC hw.1.2.1;have p:=(BU a hw.2).1;have f:=aKN h;obtain rfl:=hc.2 hw;rw[aM ak,(lJ.mod hw.1.1).1,aIB o a,aI,aAI ⟨f.1,aa⟩,aI,cY,show(uY m.Heap (x % 32):Int)+6=((uY m.Heap (x % 32)+6:Nat):Int) by omega,
    aYW aa (by grind[pM]),aI,aM ⟨h,hw⟩]
   exact⟨_,rfl⟩
  .rw[aO aj,aO (λq=>hw q.2)];exact⟨_,rfl⟩
 simp_all
def bHQ(a:lN m)(x:Int)(n:gL):yD m (aG6 m x n) (-1):=by
 unfold aG6;split
 .rename_i h;have:=BU (eC h.2.1.2.1) h.2.2;exact lN.kM a (eC h.2.1.2.1) (o:=0) (by grind[aXU,YV,pM])
 .exact⟨a,λs h _=>⟨h,rfl,rfl⟩⟩
def bHR(a:lN m)(x y:Int):yD m (Gv.aNI m x y) (-1):=by
 unfold Gv.aNI;split
 .rename_i h;have:=BU (eC h.2.1.2.1) h.2.2;exact lN.kM a (eC h.2.1.2.1) (o:=6) (by grind[pM])
 .exact⟨a,λs h _=>⟨h,rfl,rfl⟩⟩
def bAE:Heap:=⟨List.replicate 384 0,[-1,-1,-1,-1,-1,-1]⟩
def bRF:aC:=⟨List.replicate 3 ⟨[]⟩,List.replicate 9 ⟨[]⟩⟩
def bAF:aA:=⟨⟨bAE,bRF⟩,⟨0,List.replicate 3 ⟨false,0,false,0⟩⟩,List.replicate 3 ⟨[]⟩,List.replicate 3 0⟩
def aPX:QG=some bAE:=by
 unfold QG;have key:loop wY (0,[])=some (List.replicate 6 (-1)):=eY (f:=wY) 6 (λk=>((k:Int),List.replicate k (-1))) _ (λk hk=>by
  simp only[wY];rw[cO,LW,cY,List.replicate_succ'];rfl) (by simp[wY])
 rw[WU,key];rfl
def bRG:y9 [-1] 6=some [-1,-1,-1,-1,-1,-1]:=by
 unfold y9;rw[dY,show V2 (IntKind.u64.wrap (([-1]:an).length:Int)) (IntKind.u64.wrap 6)=some (0,6) by kernel_rfl];simp only[aI];rw[dY,eQ aa];simp only[qR,bQ,bN];rw[show IntKind.i64.wrap 6=6 from wrap_i64 aa aa,WU,
  show(dF (List.replicate (Int.toNat 6) 0) 0 [-1],((min ([-1]:an).length ((List.replicate (Int.toNat 6) (0:Int)).length-0):Nat):Int))=([-1,0,0,0,0,0],1) by kernel_rfl,
  bJ (body:=mF) (s':=([-1,-1,0,0,0,0],2)) (by kernel_rfl),bJ (body:=mF) (s':=([-1,-1,-1,-1,0,0],4)) (by kernel_rfl),
  bJ (body:=mF) (s':=([-1,-1,-1,-1,-1,-1],6)) (by kernel_rfl),aY (body:=mF) (r:=[-1,-1,-1,-1,-1,-1]) (by kernel_rfl)]
 rfl
def aPY:QI=some bAE:=by unfold QI;rw[WU,bRG];rfl
def aUL:QH=some bAF/\QJ=some bAF:=by unfold QH QJ aCO aCS VY V3 VZ V4 V1 V5 aCP aCT;rw[aPX,aPY,WU,WU,WU,WU,WU];exact⟨rfl,rfl⟩
def bHS:lR bAF:=of_decide_eq_true (by kernel_rfl)
def HA{O:Type}(o:Option O)(Q:O->Prop):Prop:=∃x,o=some x/\Q x
abbrev bOX{σ ρ:Type}(I:σ->Prop)(Q:ρ->Prop):Step σ ρ->Prop
 |.next s=>I s
 |.stop r=>Q r
namespace HA
variable {O β σ ρ:Type} {Q:O->Prop}
theorem ret{x:O}(h:Q x):HA (some x) Q:=⟨x,rfl,h⟩
theorem bind{P:β->Prop}{o:Option β}{f:β->Option O}(h:HA o P)(b:∀x,P x->HA (f x) Q):HA (o.bind f) Q:=by obtain⟨x,e,a⟩:=h;grind
theorem need{p:Prop}[Decidable p]{k:Option O}(h:p)(hk:HA k Q):HA (Gv.need p k) Q:=by grind[cJ]
theorem ite{c:Prop}[Decidable c]{a b:Option O}(e:c->HA a Q)(d:¬c->HA b Q):HA (if c then a else b) Q:=aj
theorem mono{P:O->Prop}{o:Option O}(h:HA o P)(b:∀x,P x->Q x):HA o Q:=by obtain⟨x,e,a⟩:=h;exact⟨x,e,b x a⟩
theorem idx{l:List β}{i:Int}(h:0<=i/\i<l.length):HA (Gv.idx l i) (λx=>x∈l):=⟨_,iD h.1 h.2,cQ _⟩
theorem loop{Q:ρ->Prop}{f:σ->Option (Step σ ρ)}{s:σ}(μ:σ->Nat)(a:σ->Prop)(g:a s)(d:∀s,a s->HA (f s) (bOX (λs'=>a s'/\μ s'<μ s) (λr=>Q r))):HA (Gv.loop f s) Q:=by
 have key:∀n s,μ s<n->a s->HA (Gv.loop f s) Q:=by
  intro n;induction n with
  |zero=>omega
  |succ n i=>
   intro s h b;obtain⟨q,e,c⟩:=d s b;cases q with
   |next s'=>grind[bJ]
   |stop r=>rw[aY e];exact⟨r,rfl,c⟩
 exact key _ s (Nat.lt_succ_self _) g
theorem of{o:Option O}{x:O}(h:o=some x):HA o (λy=>y=x):=⟨x,h,rfl⟩
end HA
def Cu(b:bh)(i:Int):Prop:=(0<=i/\i<=b.length)/\b.length<=1048576
def bHT(x:Int):0<=iU .and .i64 x 255/\iU .and .i64 x 255<=255:=by have e:iU .and .i64 x 255=IntKind.i64.wrap ((BitVec.ofInt 64 x &&& BitVec.ofInt 64 255).toNat:Int):=rfl;grind[Nat.and_le_right,wrap_i64]
section
variable {b:bh} {i h:Int} (hc:Cu b i)
include hc
theorem a38:HA (vF ⟨b,i,h⟩) (λx=>(0<=x.1/\x.1<=255)/\Cu b x.2.1):=by
 unfold vF II;obtain⟨⟨c,e⟩,d⟩:=hc;refine .ite (λq=>?_) (λq=>?_)
 .have a:=of_decide_eq_true q;simp only at a;refine .bind (.idx ⟨c,a⟩) λx _=>.ret ⟨bHT _,?_⟩;grind[Cu,cC]
 .exact .ret ⟨bHT _,⟨c,e⟩,d⟩
theorem below(hn:n<=1000000):HA (gO ⟨b,i,h⟩ n) (λx=>(0<=x.1/\(x.1<n\/n<=0/\x.1=0))/\Cu b x.2.1):=by
 unfold gO;refine .ite (λq=>?_) (λq=>?_)
 .have k:=of_decide_eq_true q;exact .ret ⟨ah,hc⟩
 .have c:0<n:=aj
  refine .ite (λq=>?_) (λq=>?_)
  .refine .bind (a38 hc) λx ⟨d,a⟩=>.need aa (.ret ⟨?_,a⟩);simp only[TB d.1];exact⟨Int.emod_nonneg _ aa,.inl (Int.emod_lt_of_pos _ c)⟩
  .refine .bind (a38 hc) λx ⟨d,a⟩=>.bind (a38 a) λy ⟨l,j⟩=>.bind (a38 j) λz ⟨hz,g⟩=>.bind (a38 g) λw ⟨hw,f⟩=>.need aa (.ret ⟨?_,f⟩);have e:aZ (aZ (aZ (aZ (x.1*16777216)+aZ (y.1*65536))+aZ (z.1*256))+w.1)=x.1*16777216+y.1*65536+z.1*256+w.1:=by grind[cC]
   simp only[e];rw[TB aa];exact⟨Int.emod_nonneg _ aa,.inl (Int.emod_lt_of_pos _ c)⟩
theorem bT3(hn:n<=1000000):HA (aCN ⟨b,i,h⟩ n) (λx=>Cu b x.2.1):=.bind (below hc hn) λ_ ⟨_,a⟩=>.ret a
theorem aY0{l:an}(hl:0<l.length)(a:l.length<=1000):HA (oV ⟨b,i,h⟩ l) (λx=>x.1∈l/\Cu b x.2.1):=.bind (below hc aa) λx ⟨e,d⟩=>.bind (.idx aa) λy c=>.ret ⟨c,d⟩
end
def bWG{code:bh}(hl:code.length<=1048576):HA (ZD code) (λx=>Cu code x.1):=by
 unfold ZD;refine .bind (P:=λ_=>True) (.loop (λs=>code.length-s.2.toNat) (λs=>0<=s.2/\s.2<=code.length) ⟨ae,ae⟩ ?_) λx _=>.ret ⟨⟨ae,ae⟩,hl⟩;rintro⟨a,k⟩ ⟨c,f⟩;simp only[aGC,MV];simp only at c f;have nx:k<code.length->HA ((idx code k).bind λd=>some (Step.next (iU .and .i64 (aZ ((aZ ((aZ (a*131))+(d.toNat:Int)))+7)) 1073741823,aZ (k+1)))) (bOX (ρ:=Int) (λb=>(0<=b.2/\b.2<=code.length)/\code.length-b.2.toNat<code.length-k.toNat) (λr=>True)):=λhk=>by refine .bind (.idx ⟨c,hk⟩) λx _=>.ret ?_;grind[cC]
 refine .ite (λq=>?_) (λq=>?_)
 .have e:=of_decide_eq_true q;exact .ite (λ_=>nx e) (λ_=>.ret trivial)
 .rw[dY];exact .ret trivial
def Hk(h:Heap):Prop:=h.Bytes.length=384/\h.Class.length=6
def Wk(m:Mem):Prop:=Hk m.Heap/\m.aC.Global.length=3/\m.aC.Own.length=9/\(eN m.aC).length<=24
def lN.wk(f:lN m):Wk m:=by obtain⟨a,b,c,d,e,_⟩:=lN.facts f;exact⟨⟨d,e⟩,b,c,a⟩
def Wk.small(h:Wk m):G9 m:=by obtain⟨⟨a,b⟩,c,d,e⟩:=h;exact⟨aa,aa,aa,aa,aa⟩
theorem bCO(b:aA)(w:Int)(s:Sub):(iV b w s).2.Kind=s.Kind:=by unfold iV aEF TM wQ fP dD C6 BS;grind
theorem TP{b:aA}{s:Sub}(h:s.Kind=1\/s.Kind=2\/s.Kind=4):(iV b w s).1.aD=b.aD:=by
 unfold iV;obtain k|k|k:=h
 .simp only[k,bS];unfold aEF TM;grind
 .simp only[k];unfold wQ;grind
 .simp only[k];unfold dD;grind
def C8{c:aD}(hc:O0 c){v:Int}(a:0<=w/\w<=2)(b:0<=v/\v<=2)(e:Int)(x:zR):dI ⟨e,c.cV.set w.toNat x⟩ v=if v=w then x else dI c v:=by have d:=hc.2.1;unfold dI;grind
def rS(j:Job):Prop:=j.bU=true/\(j.Op.Kind=2\/j.Op.Kind=5)/\j.Pc=0
def Adv(j:Job):Prop:=j.bU=true/\j.Op.Kind=4/\j.Pc=0
def JI(e:Int)(p:zR)(j:Job):Prop:=j.bU=true ->
 (j.Op.Kind=1->j.Sub.Kind=1\/j.Sub.Kind=2)/\(j.Op.Kind=4->j.Pc=1->j.Sub.Kind=4) /\
 (Adv j->j.Sub.Kind=3/\j.Sub.iE=false/\(j.Sub.Pc=0\/j.Sub.E<=e/\(j.Sub.Pc=1/\(0<=j.Sub.B/\j.Sub.B<=2)\/j.Sub.Pc=2/\j.Sub.B=3))) /\
 (rS j->j.Sub.Kind=5/\j.Sub.iE=false/\(j.Sub.Pc=0\/j.Sub.Pc=1/\(0<=j.Sub.E/\j.Sub.E<=e)\/j.Sub.Pc=2/\p.aL=j.Sub.E))
def Calm(j:Job):Prop:=¬rS j/\¬Adv j/\(j.Op.Kind=1->j.Sub.Kind=1\/j.Sub.Kind=2)/\(j.Op.Kind=4->j.Pc=1->j.Sub.Kind=4)
def Calm.ji{j:Job}(h:Calm j)(e:Int)(p:zR):JI e p j:=λ_=>⟨h.2.2.1,h.2.2.2,λq=>absurd q h.2.1,λq=>absurd q h.1⟩
def Ep(c:aD)(J:Int->Job):Prop:=(∀w,0<=w/\w<=2->JI c.aL (dI c w) (J w))/\∀p,0<=p/\p<=2->¬rS (J p)->(dI c p).On=true->(dI c p).hU=false->c.aL<=(dI c p).aL+1/\(c.aL=(dI c p).aL+1->∀a,0<=a/\a<=2->Adv (J a)->(J a).Sub.Pc≠0->(J a).Sub.E=c.aL->(J a).Sub.B<=p)
def upJ(J:Int->Job)(w:Int)(j:Job):Int->Job:=λv=>if v=w then j else J v
theorem LB(J:Int->Job)(w:Int)(j:Job):upJ J w j w=j:=aM rfl
theorem qK(J:Int->Job){v:Int}(j:Job)(h:v≠w):upJ J w j v=J v:=aO h
section
variable {c:aD} {J:Int->Job} (h:Ep c J)
include h
theorem Ep.congr{J':Int->Job}(e:∀v,0<=v/\v<=2->J' v=J v):Ep c J':=by refine⟨λw a=>by rw[e w a];exact h.1 w a,λp b d g f=>?_⟩;rw[e p b] at d;obtain⟨j,i⟩:=h.2 p b d g f;grind
variable {w:Int} (hw:0<=w/\w<=2) {j:Job}
include hw
theorem Ep.step{c':aD}(l:c'.aL=c.aL)(i:∀v,0<=v/\v<=2->v≠w->dI c' v=dI c v)(m:JI c.aL (dI c' w) j)
  (o:¬rS j->(dI c' w).On=true->(dI c' w).hU=false->c.aL<=(dI c' w).aL+1/\(c.aL=(dI c' w).aL+1->∀a,0<=a/\a<=2->a≠w->Adv (J a)->(J a).Sub.Pc≠0->(J a).Sub.E=c.aL->(J a).Sub.B<=w))
  (n:Adv j->j.Sub.Pc=0\/j.Sub.B=0):Ep c' (upJ J w j):=by
 constructor
 .intro v g;rw[l];by_cases q:v=w
  .grind[LB]
  .rw[qK _ _ q,i v g q];exact h.1 v g
 .intro p b k f e;rw[l];have d:∀a,0<=a/\a<=2->(∀q:a≠w,Adv (J a)->(J a).Sub.Pc≠0->(J a).Sub.E=c.aL->(J a).Sub.B<=p)->Adv (upJ J w j a)->(upJ J w j a).Sub.Pc≠0->(upJ J w j a).Sub.E=c.aL->(upJ J w j a).Sub.B<=p:=by grind[LB,qK]
  by_cases q:p=w
  .grind[LB]
  .rw[qK _ _ q] at k;rw[i p b q] at f e ⊢;obtain⟨s,r⟩:=h.2 p b k f e;grind
theorem Ep.still(hn:¬rS (J w))(a:Calm j):Ep c (upJ J w j):=
 h.step hw rfl (λ_ _ _=>rfl) (a.ji _ _) (λ_ d b=>by
  obtain⟨f,e⟩:=h.2 w hw hn d b;grind) (λq=>absurd q a.2.1)
theorem Ep.bT4(hc:O0 c)(hn:¬rS (J w))(a:Calm j):Ep (PR c w).1 (upJ J w j):=by
 unfold PR;by_cases q:(dI c w).On
 .rw[aM q];refine h.step hw rfl (λv e b=>by simp_all[C8]) (a.ji _ _) (λ_ d=>?_) (λq=>absurd q a.2.1);simp_all[C8]
 .rw[aO q];exact h.still hw hn a
theorem Ep.pin{b:aA}(i:b.aD=c)(hc:O0 c)(B:J w=j)(l:rS j){fin:Job}(r:Calm fin) :
  Ep (C6 b w j.Sub).1.aD (upJ J w (if(C6 b w j.Sub).2.iE then fin else {j with Sub:=(C6 b w j.Sub).2})):=by
 have g:=h.1 w hw;rw[B] at g;have u:=l.2.1;obtain⟨k,d,n⟩:=(g l.1).2.2.2 l;have a:∀s:Sub,¬Adv {j with Sub:=s}:=λs q=>by have:=q.2.1;grind
 have f:∀s:Sub,rS {j with Sub:=s}:=λs=>l;have o:∀(s:Sub) (p:zR),(s.Kind=5/\s.iE=false/\(s.Pc=0\/s.Pc=1/\(0<=s.E/\s.E<=c.aL)\/s.Pc=2/\p.aL=s.E))->JI c.aL p {j with Sub:=s}:=λs p A _=>⟨λq=>aj,λq=>aj,λq=>absurd q (a s),λ_=>A⟩;unfold C6;rw[i];obtain z|⟨y,F,E⟩|⟨x,C⟩:=n
 .simp only[aM z,d,bQ,bN,i];exact h.step hw rfl (λ_ _ _=>rfl) (o _ _ ⟨k,rfl,.inr (.inl ⟨rfl,hc.1.1,O1 _⟩)⟩) (λq=>absurd (f _) q) (λq=>absurd q (a _))
 .have m:W5 c w j.Sub.E=(⟨c.aL,c.cV.set w.toNat ⟨true,j.Sub.E,false,0⟩⟩,true):=by simp_all[W5]
  simp only[aO (show ¬j.Sub.Pc=0 by omega),aM y,m,bS,d,bQ,bN];exact h.step hw rfl (λv D t=>by simp_all[C8]) (o _ _ ⟨k,rfl,.inr (.inr ⟨rfl,by simp_all[C8]⟩)⟩) (λq=>absurd (f _) q) (λq=>absurd q (a _))
 .simp only[aO (show ¬j.Sub.Pc=0 by omega),aO (show ¬j.Sub.Pc=1 by omega),aM x];by_cases q:c.aL=j.Sub.E
  .simp only[aM q,BS,bS,i];exact h.step hw rfl (λ_ _ _=>rfl) (r.ji _ _) (λ_ _ _=>⟨aa,λe=>aa⟩) (λq=>absurd q r.2.1)
  .simp only[aO q,d,bQ,bN,i];exact h.step hw rfl (λ_ _ _=>rfl) (o _ _ ⟨k,rfl,.inl rfl⟩) (λq=>absurd (f _) q) (λq=>absurd q (a _))
omit h hw in
theorem aUM(hc:O0 c){q:Int}(d:0<=q/\q<=2)(e:Int):(LX c q e).1.aL=c.aL/\(∀v,0<=v/\v<=2->(dI (LX c q e).1 v).On=(dI c v).On/\(dI (LX c q e).1 v).aL=(dI c v).aL/\((dI (LX c q e).1 v).hU=false->(dI c v).hU=false)) /\
  ((LX c q e).2=true->(dI (LX c q e).1 q).On=true->(dI (LX c q e).1 q).hU=false->(dI c q).aL=e):=by
 unfold LX;by_cases f:(dI c q).On=false\/(dI c q).hU=true\/(dI c q).aL=e
 .grind
 .rw[aO f];by_cases b:(dI c q).Seen=2
  .rw[aM b];refine⟨rfl,λv a=>?_,λ_ _ g=>?_⟩
   .rw[C8 hc d a];grind
   simp_all[C8]
  .rw[aO b];refine⟨rfl,λv a=>?_,λx=>by cases x⟩;rw[C8 hc d a];grind
theorem Ep.advance{b:aA}(T:b.aD=c)(hc:O0 c)(hj:J w=j)(C:Adv j){fin:Job}(A:Calm fin) :
  Ep (fP b j.Sub).1.aD (upJ J w (if(fP b j.Sub).2.iE then fin else {j with Sub:=(fP b j.Sub).2})):=by
 have u:=h.1 w hw;rw[hj] at u;have X:=C.2.1;obtain⟨k,d,F⟩:=(u C.1).2.2.1 C;have o:∀s:Sub,¬rS {j with Sub:=s}:=λs q=>by have:=q.2.1;grind
 have l:¬rS (J w):=by simp_all
 have mk:∀(s:Sub) (p:zR) (e:Int),(s.Kind=3/\s.iE=false/\(s.Pc=0\/s.E<=e/\(s.Pc=1/\(0<=s.B/\s.B<=2)\/s.Pc=2/\s.B=3)))->JI e p {j with Sub:=s}:=λs p e hs _=>⟨λq=>aj,λ_ q=>by simp only at q;have:=C.2.2;omega,λ_=>hs,λq=>absurd q (o s)⟩;unfold fP;rw[T];obtain p0|⟨el,⟨p1,B0,U⟩|⟨p2,B3⟩⟩:=F
 .simp only[aM p0,d,bQ,bN,T];refine h.step hw rfl (λ_ _ _=>rfl) (mk _ _ _ ⟨k,rfl,.inr ⟨O1 _,.inl ⟨rfl,ae,ae⟩⟩⟩) (λ_ m t=>?_) (λ_=>.inr rfl);obtain⟨D,M⟩:=h.2 w hw l m t;grind
 .obtain⟨le,lv,lq⟩:=aUM hc (q:=j.Sub.B) ⟨B0,U⟩ j.Sub.E;simp only[aO (show ¬j.Sub.Pc=0 by omega),aM p1,aM (show 0<=j.Sub.B/\j.Sub.B<=2 from⟨B0,U⟩)];have B:∀v,0<=v/\v<=2->JI (LX c j.Sub.B j.Sub.E).1.aL (dI (LX c j.Sub.B j.Sub.E).1 v) (J v):=λv y=>by have:=h.1 v y;rw[le];intro r;obtain⟨R,Q,x3,P⟩:=this r;grind
  cases hl:(LX c j.Sub.B j.Sub.E).2
  .simp only[bQ,bN,BS,bS];refine⟨λv y=>?_,λp n S m t=>?_⟩
   .by_cases q:v=w
    .subst q;rw[LB];exact A.ji _ _
    grind[qK]
   .have f:¬rS (J p):=by grind[qK]
    obtain⟨L,O,K⟩:=lv p n;rw[L] at m;obtain⟨D,M⟩:=h.2 p n f m (K t);rw[le,O];refine⟨D,λe a x=>?_⟩;by_cases q:a=w
    .subst q;rw[LB];exact λq=>absurd q A.2.1
    grind[qK]
  .simp only[bS,d,bQ,bN];refine⟨λv y=>?_,λp n S m t=>?_⟩
   .by_cases q:v=w
    .subst q;rw[LB,le];grind
    grind[qK]
   .have f:¬rS (J p):=by grind[qK]
    obtain⟨L,O,K⟩:=lv p n;have i:=m;rw[L] at i;obtain⟨D,M⟩:=h.2 p n f i (K t);grind[LB,qK]
 .simp only[aO (show ¬j.Sub.Pc=0 by omega),aO (show ¬j.Sub.Pc=1 by omega),aM p2,BS,bS];unfold aNG;by_cases q:c.aL=j.Sub.E/\j.Sub.E≠100000
  .simp only[aM q];refine⟨λv y=>?_,λp n S m t=>?_⟩
   .by_cases z:v=w
    .subst z;rw[LB];exact A.ji _ _
    .rw[qK _ _ z];intro r;obtain⟨R,Q,x3,P⟩:=h.1 v y r;refine⟨R,Q,λq=>?_,λq=>?_⟩
     .grind
     .obtain⟨Z,Y,z3⟩:=P q;exact⟨Z,Y,z3.imp id λz4=>z4.imp (λN=>⟨N.1,N.2.1,aj⟩) id⟩
   .have f:¬rS (J p):=by grind[qK]
    have i:(dI c p).On=true:=m;have E:(dI c p).hU=false:=t;obtain⟨D,M⟩:=h.2 p n f i E;have V:=(aUH hc n).1.2;have W:c.aL≠(dI c p).aL+1:=λe=>aj
    have H:dI ⟨j.Sub.E+1,c.cV⟩ p=dI c p:=rfl;rw[H];refine⟨aj,λe a x g G I=>?_⟩;exfalso;by_cases z:a=w
    .subst z;rw[LB] at g;exact A.2.1 g
    .rw[qK _ _ z] at g G I;obtain⟨_,_,z3⟩:=(h.1 a x g.1).2.2.1 g;omega
  .simp only[aO q];exact h.still hw l A
end
def aMK{b:aA}(a:lR b)(c:0<=w/\w<=2)(s:Sub):rZ s b w=some ((iV b w s).2,(iV b w s).1):=by obtain⟨x,y,e,d,h⟩:=step_eq a a.small c s;grind[bAD]
def cM:aK:=⟨false,⟨false,[]⟩,0,0,0,0,0,0,0,0,aYX,false,0,⟨0,0,0,0,0,0,0,0,0,false⟩,[],[],[],[],[],[]⟩
def eG(k:ay)(i:Int):bZ:=k.getD i.toNat ⟨0,0,0⟩
def uZ(j:aK)(c:Int):aK:={j with Pc:=16,Code:=c}
def HB(a b:Int):Int:=Int.tmod (aZ (a+b)) 65536
def pK(j:aK)(x:aX):Bool×aK:=if 6<(yC j.aH x).length then(false,uZ j 1) else(true,{j with aH:=yC j.aH x})
def aAK(j:aK)(is:Bool)(v:Int):aK:={j with eX:=j.eX++[⟨is,v⟩],Pc:=1,At:=j.At+1}
def aCC(j:aK)(c:iK)(v:Int):aK:=if(pK j ⟨c.Key,false,HB v c.dP⟩).1 then aAK (pK j ⟨c.Key,false,HB v c.dP⟩).2 true (HB v c.dP) else(pK j ⟨c.Key,false,HB v c.dP⟩).2
def sK(j:aK)(c:iK)(v:Int)(is:Bool):aK:=if c.Kind=4 then aCC j c (if is then v else 0) else aAK j is (if is then v else 0)
def cZ(j:aK):iK:=j.Batch.bR.getD j.At.toNat ⟨0,0,0⟩
def wR(j:aK):Prop:=j.At<j.Batch.bR.length
instance (j:aK):Decidable (wR j):=by unfold wR;infer_instance
def sG(j:aK):aK:=
 if wR j then
  if(cZ j).Kind=2\/(cZ j).Kind=3 then
   if(pK j ⟨(cZ j).Key,(cZ j).Kind == 3,(cZ j).dP⟩).1 then {(pK j ⟨(cZ j).Key,(cZ j).Kind == 3,(cZ j).dP⟩).2 with At:=j.At+1,eX:=j.eX++[⟨false,0⟩]}
   else(pK j ⟨(cZ j).Key,(cZ j).Kind == 3,(cZ j).dP⟩).2
  else if(T9 j.aH (cZ j).Key).2 then sK j (cZ j) (T9 j.aH (cZ j).Key).1.dP (!(T9 j.aH (cZ j).Key).1.LJ)
  else {j with Pc:=2,bZ:=jN (cZ j).Key}
 else {j with Pc:=6,K:=0,Sub:=C7 1 16}
def i6(b:aA)(k:ay)(w:Int)(j:aK):aK:=
 if j.Pc=2 then
  if(eG k j.bZ).eU≠0 then uZ j 7
  else {j with eW:=(eG k j.bZ).eW,H:=(eG k j.bZ).Head,Found:=false,Node:=aYX,Pc:=if(eG k j.bZ).Head=0 then 5 else 3}
 else if j.Pc=3 then {j with Node:=aCB b.Mem.Heap j.H,Pc:=4}
 else if j.Pc=4 then
  if ¬((dI b.aD w).On=true/\(dI b.aD w).hU=false) then uZ j 6
  else if wR j then {j with Found:=j.Node.Key == (cZ j).Key,H:=RO j.Node,Pc:=if j.Node.Key=(cZ j).Key\/RO j.Node=0 then 5 else 3}
  else uZ j 1
 else
  if(eG k j.bZ).eU≠0\/(eG k j.bZ).eW≠j.eW then uZ j 7
  else if(uS j.Reads j.bZ j.eW).2=false then uZ {j with Reads:=(uS j.Reads j.bZ j.eW).1} 7
  else if wR j then sK {j with Reads:=(uS j.Reads j.bZ j.eW).1} (cZ j) j.Node.dP j.Found
  else uZ {j with Reads:=(uS j.Reads j.bZ j.eW).1} 1
def yE(b:aA)(w:Int)(j:aK):aA×aK:=
 if gG j.aH j.aH.length<=j.K then(b,{j with Pc:=7,K:=0})
 else((iV b w j.Sub).1,
  if(iV b w j.Sub).2.iE=false then {j with Sub:=(iV b w j.Sub).2}
  else if(iV b w j.Sub).2.Code≠0\/¬lJ (iV b w j.Sub).2.Out\/6<=j.gN.length then uZ {j with Sub:=(iV b w j.Sub).2} (iV b w j.Sub).2.Code
  else {j with gN:=j.gN++[(iV b w j.Sub).2.Out],K:=j.K+1,Sub:=C7 1 16})
def gK(j:aK):Int:=(rO j.aH).getD j.K.toNat 0
def MR(j:aK):aK:={j with bH:=if gK j∈j.bH then j.bH else j.bH++[gK j],K:=j.K+1}
def pU(k:ay)(w:Int)(j:aK):ay×aK×Bool:=
 if j.K<(rO j.aH).length then
  if(eG k (gK j)).eU≠0\/(j.Reads.any λs=>s.bZ == gK j && s.eW != (eG k (gK j)).eW)=true then(k,uZ j 7,false)
  else if(eG k (gK j)).eW=1000000 then(k,uZ j 3,false)
  else if(rO j.aH).length<=j.K+1 then(k.set (gK j).toNat {eG k (gK j) with eU:=w+1},{MR j with Pc:=8,K:=0},true)
  else(k.set (gK j).toNat {eG k (gK j) with eU:=w+1},MR j,false)
 else(k,{j with Pc:=8,K:=0},true)
def rdN(j:aK):Seen:=j.Reads.getD j.K.toNat ⟨0,0⟩
def OY(k:ay)(w:Int)(j:aK):aK:=
 if j.Reads.length<=j.K then {j with Pc:=9,K:=0}
 else if((eG k (rdN j).bZ).eU≠0/\(eG k (rdN j).bZ).eU≠w+1)\/(eG k (rdN j).bZ).eW≠(rdN j).eW then uZ j 7
 else {j with K:=j.K+1}
def RP(j:aK)(x:aX):aK:=if x.LJ then {j with Pc:=9,K:=j.K+1} else {j with Pc:=12}
def nP(j:aK):aX:=j.aH.getD j.K.toNat ⟨0,false,0⟩
def LC(j:aK):Int:=j.gN.getD (gG j.aH j.K).toNat 0
def RQ(j:aK):aK:=if lJ j.H/\j.cK.length<6 then {j with cK:=j.cK++[j.H]} else j
def mO(b:aA)(k:ay)(j:aK):aA×ay×aK:=
 if j.aH.length<=j.K then(b,k,{j with Pc:=14})
 else if j.Pc=9 then(b,k,if(eG k (jN (nP j).Key)).Head=0 then RP {j with Pc:=10,H:=(eG k (jN (nP j).Key)).Head,g7:=0} (nP j) else {j with Pc:=10,H:=(eG k (jN (nP j).Key)).Head,g7:=0})
 else if j.Pc=10 then
  (b,k,if(aCB b.Mem.Heap j.H).Key=(nP j).Key then {j with Pc:=11,Node:=aCB b.Mem.Heap j.H}
   else if RO (aCB b.Mem.Heap j.H)=0 then RP {j with Node:=aCB b.Mem.Heap j.H} (nP j)
   else {j with H:=RO (aCB b.Mem.Heap j.H),g7:=j.H,Node:=aCB b.Mem.Heap j.H})
 else if j.Pc=11 then
  if j.g7=0 then(b,k.set (jN (nP j).Key).toNat {eG k (jN (nP j).Key) with Head:=RO j.Node},RP (RQ j) (nP j))
  else({b with Mem:=Gv.aNI b.Mem j.g7 (RO j.Node)},k,RP (RQ j) (nP j))
 else if j.gN.length<=gG j.aH j.K then(b,k,uZ j 1)
 else if j.Pc=12 then({b with Mem:=aG6 b.Mem (LC j) ⟨(nP j).Key,(nP j).dP,(eG k (jN (nP j).Key)).Head⟩},k,{j with Pc:=13})
 else(b,k.set (jN (nP j).Key).toNat {eG k (jN (nP j).Key) with Head:=LC j},{j with Pc:=9,K:=j.K+1})
def OZ(j:aK):aK:=if j.K<j.cK.length then {j with Sub:=C7 2 (j.cK.getD j.K.toNat 0)} else j
def zO(j:aK):Int:=j.bH.getD 0 0
def DX(k:ay)(j:aK):ay×aK:=
 if 0<j.bH.length then
  (k.set (zO j).toNat (if j.Pc=14 then⟨(eG k (zO j)).Head,if 1000000<(eG k (zO j)).eW+1 then 1000000 else(eG k (zO j)).eW+1,0⟩ else {eG k (zO j) with eU:=0}),{j with bH:=j.bH.drop 1})
 else if j.Pc=16 then(k,{j with Pc:=17})
 else(k,OZ {j with Pc:=15,K:=0})
def HC(b:aA)(w:Int)(j:aK):aA×aK:=
 if j.cK.length<=j.K then(b,{j with Pc:=18})
 else((iV b w j.Sub).1,if(iV b w j.Sub).2.iE then OZ {j with K:=j.K+1,Sub:=(iV b w j.Sub).2} else {j with Sub:=(iV b w j.Sub).2})
def a39(m:Mem)(w x:Int):Mem:=if m5 m x then rR m w x else m
def HD(b:aA)(w:Int)(j:aK):aA×aK:=
 if j.gN.length=0 then(b,{j with Pc:=18})
 else(if bH b.aQ (j.gN.getD 0 0 % 32) then b else {b with Mem:=a39 b.Mem w (j.gN.getD 0 0)},{j with gN:=j.gN.drop 1})
def pW(b:aA)(w:Int)(j:aK):aA×aK:=
 ((iV b w j.Sub).1,if(iV b w j.Sub).2.iE = false then {j with Sub:=(iV b w j.Sub).2}
  else if j.Pc=0 then {j with Pc:=1,Sub:=(iV b w j.Sub).2}
  else if j.Pc=20 then {j with Pc:=21,Sub:=C7 4 0}
  else {j with Pc:=19,Sub:=(iV b w j.Sub).2})
def tlE(w:Int)(j:aK):iO:=⟨3,w,j.aG,j.Code,[],if j.Code=0 then j.eX else []⟩
structure TR where
 b:aA
 k:ay
 j:aK
 l:a7
def fU(b:aA)(k:ay)(w:Int)(j:aK):TR:=
 if j.Pc=0\/j.Pc=20\/j.Pc=21 then⟨(pW b w j).1,k,(pW b w j).2,[]⟩
 else if j.Pc=1 then⟨b,k,sG j,[]⟩
 else if 2<=j.Pc/\j.Pc<=5 then⟨b,k,i6 b k w j,[]⟩
 else if j.Pc=6 then⟨(yE b w j).1,k,(yE b w j).2,[]⟩
 else if j.Pc=7 then⟨b,(pU k w j).1,(pU k w j).2.1,if(pU k w j).2.2 then [⟨2,w,j.aG,0,[],[]⟩] else []⟩
 else if j.Pc=8 then⟨b,k,OY k w j,[]⟩
 else if 9<=j.Pc/\j.Pc<=13 then⟨(mO b k j).1,(mO b k j).2.1,(mO b k j).2.2,[]⟩
 else if j.Pc=14\/j.Pc=16 then⟨b,(DX k j).1,(DX k j).2,[]⟩
 else if j.Pc=15 then⟨(HC b w j).1,k,(HC b w j).2,[]⟩
 else if j.Pc=17 then⟨(HD b w j).1,k,(HD b w j).2,[]⟩
 else if j.Pc=18 then⟨{b with aD:=(PR b.aD w).1},k,{j with Pc:=19},[]⟩
 else if j.Pc=19 then⟨b,k,cM,[tlE w j]⟩
 else⟨b,k,uZ j 1,[]⟩
def aE(t:Table)(w:Int):aK:=t.aR.getD w.toNat cM
def uU(t:Table)(w:Int):bm:=(t.eE.getD w.toNat ⟨[]⟩).List
def jZ(b:Batch)(s:Int):aK:=⟨true,b,s,if b.Collect then 20 else 0,0,0,0,0,0,0,aYX,false,0,if b.Collect then C7 3 0 else C7 5 0,[],[],[],[],[],[]⟩
def uV(t:Table)(w:Int)(b:Batch):Table:=⟨t.aA,t.aT,t.aR.set w.toNat (jZ b (t.aG+1)),t.eE.set w.toNat ⟨(uU t w).drop 1⟩,t.Log++[⟨1,w,t.aG+1,0,b.bR,[]⟩],t.aG+1⟩
def BV(t:Table)(w:Int)(r:TR):Table:=⟨r.b,r.k,t.aR.set w.toNat r.j,t.eE,t.Log++r.l,t.aG⟩
def bM(t:Table)(w:Int):Table:=
 if(aE t w).bU then BV t w (fU t.aA t.aT w (aE t w))
 else if(uU t w).length=0\/t.aG=1000000 then t else uV t w ((uU t w).getD 0 ⟨false,[]⟩)
def TQ(c:iK):Prop:=(1<=c.Kind/\c.Kind<=4)/\(0<=c.Key/\c.Key<=99)/\(0<=c.dP/\c.dP<=65535)/\(c.Kind=2\/c.Kind=4\/c.dP=0)
instance (c:iK):Decidable (TQ c):=by unfold TQ;infer_instance
def aFZ(b:Batch):Prop:=(b.Collect=true->b.bR=[])/\b.bR.length<=6/\(∀c∈b.bR,TQ c)/\(b.Collect=false->1<=b.bR.length)
instance (b:Batch):Decidable (aFZ b):=by unfold aFZ;infer_instance
def QuV(q:aP):Prop:=q.List.length<=12/\∀b∈q.List,aFZ b
instance (q:aP):Decidable (QuV q):=by unfold QuV;infer_instance
def W6(l:ax):Prop:=l.length=3/\∀q∈l,QuV q
instance (l:ax):Decidable (W6 l):=by unfold W6;infer_instance
def BkV(b:bZ):Prop:=kN b.Head/\(0<=b.eW/\b.eW<=1000000)/\(0<=b.eU/\b.eU<=3)
def WrV(l:az):Prop:=l.length<=6/\(∀x∈l,(0<=x.Key/\x.Key<=99)/\(0<=x.dP/\x.dP<=65535))/\l.Pairwise (λx y=>x.Key<y.Key)
structure JB (j:aK):Prop where
 busy:j.bU=true
 bat:aFZ j.Batch
 h:kN j.H
 prev:kN j.g7
 bkt:0<=j.bZ/\j.bZ<=1
 at_:0<=j.At/\j.At<=j.Batch.bR.length
 k:0<=j.K/\j.K<=6
 new:j.gN.length<=6/\∀x∈j.gN,lJ x
 old:j.cK.length<=6/\∀x∈j.cK,lJ x
 reads:(∀s∈j.Reads,0<=s.bZ/\s.bZ<=1)/\(j.Reads.map Seen.bZ).Nodup
 wr:WrV j.aH
 held:(∀x∈j.bH,0<=x/\x<=1)/\j.bH.Nodup
 res:(j.eX.length:Int)=j.At
 node:0<=j.Node.dP/\j.Node.dP<=4294967295
structure TV (t:Table):Prop where
 base:lR t.aA
 bk:t.aT.length=2/\∀x∈t.aT,BkV x
 yY:t.aR.length=3/\∀j∈t.aR,j=cM\/JB j
 todo:W6 t.eE
 ser:0<=t.aG/\t.aG<=1000000
def aY1{j:aK}(a:j.aH.length<=1000)(x:aX):tQ j x=some (pK j x):=by
 unfold tQ pK;rw[aMG a,aI];by_cases h:6<(yC j.aH x).length
 .rw[cO,aM h];rfl
 grind
theorem aML(j:aK)(x:aX):(pK j x).2.eX=j.eX/\(pK j x).2.At=j.At:=by grind[pK,uZ]
def aY2{j:aK}(a:j.aH.length<=1000)(b:j.eX.length<=1000)(d:0<=j.At/\j.At<=1000)(c:iK)(v:Int)(is:Bool):tR j c v is=some (sK j c v is):=by
 have key:∀u,nJ j c is u=some (if c.Kind=4 then aCC j c u else aAK j is u):=λu=>by
  unfold nJ;by_cases hk:c.Kind=4
  .rw[aM aj,aM hk];unfold SI aCC;rw[aI,show Int.tmod (aZ (u+c.dP)) 65536=HB u c.dP from rfl,aY1 a,aI];obtain⟨f,e⟩:=aML j ⟨c.Key,false,HB u c.dP⟩;cases h:(pK j ⟨c.Key,false,HB u c.dP⟩).1
   .simp
   .rw[dY,aM rfl];grind[nI,sU,aAK,cJ,cC]
  .rw[aO aj,aO hk];grind[nI,sU,aAK,cJ,cC]
 unfold tR sK;grind
def aUO{j:aK}(hl:j.Batch.bR.length<=1000)(a:0<=j.At):rA j=some (if wR j then(cZ j,true,j) else(⟨0,0,0⟩,false,j)):=by
 unfold rA cZ;rw[dL,aI,cY];by_cases hc:wR j
 .have h:j.At<j.Batch.bR.length:=hc;rw[bY aa,dY,aM hc,iD a h,aI];grind
 .have h:¬j.At<j.Batch.bR.length:=hc;grind
def bHU{j:aK}(hl:j.Batch.bR.length<=1000)(a:j.aH.length<=1000)(d:j.eX.length<=1000)(b:0<=j.At/\j.At<=1000):JQ j=some (sG j):=by
 unfold JQ sG;rw[aUO hl b.1,aI];by_cases h:wR j
 .rw[aM h,aM h];have put:kV (cZ j,true,j) true j=some (if(pK j ⟨(cZ j).Key,(cZ j).Kind == 3,(cZ j).dP⟩).1 then {(pK j ⟨(cZ j).Key,(cZ j).Kind == 3,(cZ j).dP⟩).2 with At:=j.At+1,eX:=j.eX++[⟨false,0⟩]} else(pK j ⟨(cZ j).Key,(cZ j).Kind == 3,(cZ j).dP⟩).2):=by
   unfold kV;rw[aM rfl,aY1 a,aI];obtain⟨c,e⟩:=aML j ⟨(cZ j).Key,(cZ j).Kind == 3,(cZ j).dP⟩;cases (pK j ⟨(cZ j).Key,(cZ j).Kind == 3,(cZ j).dP⟩).1
   .rw[dY,dY]
   .rw[aM rfl,aM rfl,cJ (by rw[c];simp;omega)];simp only[c,e];rw[cY]
  have get:kV (cZ j,true,j) false j=some (if(T9 j.aH (cZ j).Key).2 then sK j (cZ j) (T9 j.aH (cZ j).Key).1.dP (!(T9 j.aH (cZ j).Key).1.LJ) else {j with Pc:=2,bZ:=jN (cZ j).Key}):=by
   unfold kV JO;rw[dY,aPT a,aI];cases (T9 j.aH (cZ j).Key).2
   .rw[dY,dY,WW];rfl
   .rw[aM rfl,aM rfl,aY2 a d b];rfl
  grind
 .rw[aO h,aO h];rfl
def GI{t:Table}(b:t.aR.length=3)(a:0<=w/\w<=2):idx t.aR w=some (aE t w):=by grind[iD,aE]
def aMM{k:ay}{i:Int}(b:k.length=2)(a:0<=i/\i<=1):idx k i=some (eG k i):=by grind[iD,eG]
def aKO{l:List O}{i:Int}{x:O}(h:0<=i/\i<l.length):idx (l.set i.toNat x) i=some x:=by grind[iD]
theorem C9{t:Table}(b:t.aR.length=3)(a:0<=w/\w<=2):aE t w∈t.aR:=by grind[aE]
def a4A(t:Table)(w:Int)(j:aK):Table:={t with aR:=t.aR.set w.toNat j}
section
variable {t:Table} {w:Int} (h3:t.aR.length=3) (h2:t.aT.length=2) (hb:lR t.aA) (hw:0<=w/\w<=2) (hj:JB (aE t w))
include h3 h2 hb hw hj
theorem aEJ:(aE t w).Batch.bR.length<=1000/\(aE t w).aH.length<=1000/\(aE t w).eX.length<=1000/\(0<=(aE t w).At/\(aE t w).At<=1000)/\(aE t w).Reads.length<=2:=by
 have i:=hj.bat.2.1;have g:=hj.at_;have f:=hj.res;have e:=hj.wr.1;refine⟨aa,aa,aa,aa,?_⟩;have a:=hj.reads.2;have b:∀x∈(aE t w).Reads.map Seen.bZ,x=0\/x=1:=λx c=>by obtain⟨s,d,rfl⟩:=H9.1 c;have:=hj.reads.1 s d;omega
 have hl:((aE t w).Reads.map Seen.bZ).length<=2:=by
  match h:(aE t w).Reads.map Seen.bZ,a,b with
  |[],_,_=>simp
  |[_],_,_=>simp
  |[_,_],_,_=>simp
  |x::y::z::r,a,b=>
   (simp_all;omega)
 grind
theorem bMN:FM t w=some (a4A t w (i6 t.aA t.aT w (aE t w))):=by
 obtain⟨z,v,u,m,B⟩:=aEJ h3 h2 hb hw hj;have l:=GI h3 hw;unfold FM GW i6 a4A;rw[l,aI,aMM h2 hj.bkt,aI,aI,aUO z m.1,aI];generalize s:aE t w=j at *;have k:(if wR j then(cZ j,true,j) else((⟨0,0,0⟩:iK),false,j)).2.2=j:=aj
 have b:∀x y:aK,(t.aR.set w.toNat x).set w.toNat y=t.aR.set w.toNat y:=λx y=>a2E ..;have d:∀x:aK,idx (t.aR.set w.toNat x) w=some x:=λx=>aKO ⟨hw.1,aa⟩;simp only[k];by_cases p:j.Pc=2
 .have i:(j.Pc == 2)=true:=aj
  simp only[i,bS,aM p];by_cases hl:(eG t.aT j.bZ).eU=0
  .have e:((eG t.aT j.bZ).eU != 0)=false:=aj
   simp only[e,bQ,bN,aO (not_not_intro hl)];by_cases hh:(eG t.aT j.bZ).Head=0
   .have e:((eG t.aT j.bZ).Head == 0)=true:=aj
    simp only[e,bS,aM hh];rfl
   .have e:((eG t.aT j.bZ).Head == 0)=false:=aj
    simp only[e,bQ,bN,aO hh];rfl
  .have e:((eG t.aT j.bZ).eU != 0)=true:=aj
   simp only[e,bS,aM hl];rfl
 .have i:(j.Pc == 2)=false:=aj
  simp only[i,bQ,bN,aO p];by_cases o:j.Pc=3
  .have g:(j.Pc == 3)=true:=aj
   simp only[g,bS,aM o];obtain⟨c,e⟩:=aYY hb.1.1 j.H;rw[e];rfl
  .have g:(j.Pc == 3)=false:=aj
   simp only[g,bQ,bN,aO o];by_cases n:j.Pc=4
   .have f:(j.Pc == 4)=true:=aj
    simp only[f,bS,aM n];rw[YU hb.1.2.1 hw,aI];simp only[GS,pH];have A:(if(dI t.aA.aD w).On=true then some (!(dI t.aA.aD w).hU) else some false)=some (decide ((dI t.aA.aD w).On=true/\(dI t.aA.aD w).hU=false)):=by cases (dI t.aA.aD w).On<;>cases (dI t.aA.aD w).hU<;>rfl
    rw[A,aI];by_cases a:(dI t.aA.aD w).On=true/\(dI t.aA.aD w).hU=false
    .simp only[bY a,jI,bQ,bN,aO (not_not_intro a)];by_cases hc:wR j
     .simp only[aM hc,jI,bQ,bN,a1H,aI,GU,vW,d,b];grind
     .simp only[aO hc,QC,bS];rfl
    .simp only[eQ a,QC,bS,aM a];rfl
   .have f:(j.Pc == 4)=false:=aj
    simp only[f,bQ,bN,aO n];have tail:j5 t w (if wR j then(cZ j,true,j) else((⟨0,0,0⟩:iK),false,j)) false=some (a4A t w (if(uS j.Reads j.bZ j.eW).2=false then uZ {j with Reads:=(uS j.Reads j.bZ j.eW).1} 7
      else if wR j then sK {j with Reads:=(uS j.Reads j.bZ j.eW).1} (cZ j) j.Node.dP j.Found
      else uZ {j with Reads:=(uS j.Reads j.bZ j.eW).1} 1)):=by
     simp only[j5,GV,k,d,aI,b,bQ,bN];rw[aPU aa,aI];cases C:(uS j.Reads j.bZ j.eW).2
     .rfl
     .simp only[jI,bQ,bN,reduceCtorEq];by_cases hc:wR j
      .simp only[aM hc,jI,bQ,bN];rw[aY2 (j:={j with Reads:=(uS j.Reads j.bZ j.eW).1}) v u m];rfl
      .simp only[aO hc,QC,bS];rfl
    have ab:j5 t w (if wR j then(cZ j,true,j) else((⟨0,0,0⟩:iK),false,j)) true=some (a4A t w (uZ j 7)):=by simp only[j5,k,d,aI,b,bS];rfl
    by_cases hl:(eG t.aT j.bZ).eU=0
    .have e:((eG t.aT j.bZ).eU != 0)=false:=aj
     simp only[e,bQ,bN];by_cases r:(eG t.aT j.bZ).eW=j.eW
     .have e:((eG t.aT j.bZ).eW != j.eW)=false:=aj
      rw[e,tail,aO (show ¬((eG t.aT j.bZ).eU≠0\/(eG t.aT j.bZ).eW≠j.eW) from λq=>q.elim (λh=>h hl) λh=>h r)];rfl
     .have e:((eG t.aT j.bZ).eW != j.eW)=true:=aj
      rw[e,ab,aM (.inr r)];rfl
    .have e:((eG t.aT j.bZ).eU != 0)=true:=aj
     simp only[e,bS];rw[ab,aM (.inl hl)];rfl
end
def aEK(t:Table)(w:Int)(p:aA×aK):Table:={t with aA:=p.1,aR:=t.aR.set w.toNat p.2}
section
variable {t:Table} {w:Int} (h3:t.aR.length=3) (h2:t.aT.length=2) (hb:lR t.aA) (hw:0<=w/\w<=2) (hj:JB (aE t w))
include h3 h2 hb hw hj
theorem bHV:vV t w=some (aEK t w (pW t.aA w (aE t w))):=by
 unfold vV pW aEK;rw[GI h3 hw,aI,aMK hb hw,aI];generalize aE t w=j at *;generalize iV t.aA w j.Sub=r;cases c:r.2.iE
 .rfl
 .simp only[c,jI,bQ,bN,reduceCtorEq];by_cases b:j.Pc=0
  .grind
  .have e:(j.Pc == 0)=false:=aj
   simp only[e,bQ,bN,aO b];by_cases a:j.Pc=20
   .have e:(j.Pc == 20)=true:=aj
    simp only[e,bS,aM a];rfl
   grind
theorem bCQ:CE t w=some (aEK t w (yE t.aA w (aE t w))):=by
 obtain⟨m,g,l,k,i⟩:=aEJ h3 h2 hb hw hj;have a:=GI h3 hw;have hk:=hj.k;have n:=hj.new.1;unfold CE yE aEK;rw[a,aI,aKH g,aI];generalize f:aE t w=j at *;have b:∀x y:aK,(t.aR.set w.toNat x).set w.toNat y=t.aR.set w.toNat y:=λx y=>a2E ..;have c:∀x:aK,idx (t.aR.set w.toNat x) w=some x:=λx=>aKO ⟨hw.1,aa⟩;unfold DO;by_cases d:gG j.aH j.aH.length<=j.K
 .grind
 .rw[eQ d,dY,aO d,a,aI,aMK hb hw,aI];generalize iV t.aA w j.Sub=r;cases h:r.2.iE
  .rfl
  .have ab:iN w true {t with aA:=r.1,aR:=t.aR.set w.toNat {j with Sub:=r.2}}=some {t with aA:=r.1,aR:=t.aR.set w.toNat (uZ {j with Sub:=r.2} r.2.Code)}:=by simp_all[iN,dB,uZ]
   have go:j.gN.length<6->iN w false {t with aA:=r.1,aR:=t.aR.set w.toNat {j with Sub:=r.2}}=some {t with aA:=r.1,aR:=t.aR.set w.toNat {j with gN:=j.gN++[r.2.Out],K:=j.K+1,Sub:=C7 1 16}}:=λo=>by simp only[iN,bQ,bN,c,aI,b,DN,mG,DM];rw[LW,cY];rfl
   simp only[h,jI,bQ,bN,reduceCtorEq];by_cases hc:r.2.Code=0
   .have e:(r.2.Code != 0)=false:=aj
    simp only[e,bQ,bN,iI,aI];grind
   grind
theorem bHW:sV t w=some (a4A t w (OY t.aT w (aE t w))):=by
 have a:=GI h3 hw;have hk:=hj.k;have e:=hj.reads.1;unfold sV wA OY a4A;rw[a,aI,aI];generalize d:aE t w=j at *;by_cases f:(j.Reads.length:Int)<=j.K
 .grind
 .have g:j.K.toNat<j.Reads.length:=aa
  have c:rdN j=j.Reads[j.K.toNat]:=by grind[rdN]
  have b:=e j.Reads[j.K.toNat] (cQ g);rw[aO aj,aO f,aI,iD hk.1 aa,aI,<-c];rw[<-c] at b;unfold vZ vY;rw[aMM h2 b,aI,cY];have ab:gA t w true=some {t with aR:=t.aR.set w.toNat (uZ j 7)}:=by simp_all[gA,dB,uZ]
  have go:gA t w false=some {t with aR:=t.aR.set w.toNat {j with K:=j.K+1}}:=by simp only[gA,bQ,bN,a,aI];grind[cC]
  grind
theorem aXV{l:bx}(hl:l.length<=1000)(f:Seen->Bool)(g:Seen->aw)(d:∀x,g x=some (f x)):gH l g=some (l.any f):=by
 have e:g=λx=>some (f x):=funext d;rw[e];unfold gH;rcases aNF (s:=l) (p:=f) aa with ⟨j,h,a,h2,h3⟩|⟨a,h3⟩
 .rw[h3,aI,bY aa];congr 1;exact(List.any_eq_true.2 ⟨l[j],cQ h,h2⟩).symm
 .rw[h3,aI,eQ aa];congr 1;refine(aIH.2 λx b=>?_).symm;obtain⟨i,c,rfl⟩:=XB b;simp[a i c]
def bT5(t:Table)(w:Int)(p:ay×aK×Bool):Table:={t with aT:=p.1,aR:=t.aR.set w.toNat p.2.1,Log:=t.Log++if p.2.2 then [⟨2,w,(aE t w).aG,0,[],[]⟩] else []}
theorem bMO(hl:t.Log.length<=1000000):FP t w=some (bT5 t w (pU t.aT w (aE t w))):=by
 obtain⟨I,H,G,F,E⟩:=aEJ h3 h2 hb hw hj;have b:=GI h3 hw;have hk:=hj.k;have C:=hj.held;have i:=hj.wr;unfold FP pU bT5;rw[b,aI,aPV (by have:=i.1;omega) (λx p=>(i.2.1 x p).1),aI];generalize o:aE t w=j at *;have f:∀x y:aK,(t.aR.set w.toNat x).set w.toNat y=t.aR.set w.toNat y:=λx y=>a2E ..;have g:∀x:aK,idx (t.aR.set w.toNat x) w=some x:=λx=>aKO ⟨hw.1,aa⟩;have m:j.bH.length<=2:=by
  match h:j.bH,C with
  |[],_=>simp
  |[_],_=>simp
  |[_,_],_=>simp
  |x::y::z::r,⟨hm,J⟩=>
   (simp_all;omega)
 by_cases u:j.K<(rO j.aH).length
 .have L:j.K.toNat<(rO j.aH).length:=aa
  have D:gK j=(rO j.aH)[j.K.toNat]:=by grind[gK]
  have k:0<=gK j/\gK j<=1:=by grind[YS,cQ]
  rw[aM aj,aM u,iD hk.1 u,aI,<-D,aMM h2 k,aI];have ab:iY t w (rO j.aH) (gK j) true=some {t with aR:=t.aR.set w.toNat (uZ j 7)}:=by simp_all[iY,dB,uZ]
  have en:∀x:aK,x.K=j.K->x.aG=j.aG->o6 t w (rO j.aH) (gK j) (eG t.aT (gK j)) (t.aR.set w.toNat x) =
    some {t with aT:=t.aT.set (gK j).toNat {eG t.aT (gK j) with eU:=w+1},aR:=t.aR.set w.toNat (if(rO j.aH).length<=j.K+1 then {x with K:=0,Pc:=8} else {x with K:=j.K+1}),Log:=t.Log++if(rO j.aH).length<=j.K+1 then [⟨2,w,j.aG,0,[],[]⟩] else []}:=λx p A=>by
   simp only[o6,o5,vX,g,f,aI,p,A];rw[cY,cY];by_cases l:((rO j.aH).length:Int)<=j.K+1
   .rw[aM aj,LW,aM l,aM l]
   grind
  have go:iY t w (rO j.aH) (gK j) false=some (if(eG t.aT (gK j)).eW=1000000 then {t with aR:=t.aR.set w.toNat (uZ j 3)} else
    {t with aT:=t.aT.set (gK j).toNat {eG t.aT (gK j) with eU:=w+1},aR:=t.aR.set w.toNat (if(rO j.aH).length<=j.K+1 then {MR j with K:=0,Pc:=8} else MR j),Log:=t.Log++if(rO j.aH).length<=j.K+1 then [⟨2,w,j.aG,0,[],[]⟩] else []}):=by
   unfold iY;rw[dY,aMM h2 k,aI];by_cases d:(eG t.aT (gK j)).eW=1000000
   .simp_all[dB,uZ]
   .have e:((eG t.aT (gK j)).eW == 1000000)=false:=aj
    simp only[e,bQ,bN,aO d,b,aI];rw[contains_eq (by grind[maxLen]),aI];by_cases hm:gK j∈j.bH
    .rw[bY hm,dY];have:=en j rfl rfl;rw[show t.aR.set w.toNat j=t.aR by
      rw[<-o];unfold aE;rw[DY,iS (show w.toNat<t.aR.length by omega)];simp] at this
     simp_all[MR]
    .rw[eQ hm,aM ak,LW];unfold G3;rw[en {j with bH:=j.bH++[gK j]} rfl rfl];unfold MR;rw[aO hm]
  have fin:∀B:Bool,iY t w (rO j.aH) (gK j) B=some (if B=true then {t with aR:=t.aR.set w.toNat (uZ j 7)} else if(eG t.aT (gK j)).eW=1000000 then {t with aR:=t.aR.set w.toNat (uZ j 3)} else
    {t with aT:=t.aT.set (gK j).toNat {eG t.aT (gK j) with eU:=w+1},aR:=t.aR.set w.toNat (if(rO j.aH).length<=j.K+1 then {MR j with K:=0,Pc:=8} else MR j),Log:=t.Log++if(rO j.aH).length<=j.K+1 then [⟨2,w,j.aG,0,[],[]⟩] else []}):=λB=>by
   cases B
   .simp only[bQ,bN];exact go
   .simp only[bS];exact ab
  have cf:gH j.Reads (λv=>zC v (gK j) (eG t.aT (gK j)))=some (j.Reads.any λs=>s.bZ == gK j && s.eW != (eG t.aT (gK j)).eW):=
   aXV h3 h2 hb hw aj aa _ _ λx=>by unfold zC rD;cases x.bZ == gK j<;>rfl
  by_cases n:(eG t.aT (gK j)).eU=0
  .have e:((eG t.aT (gK j)).eU != 0)=false:=aj
   simp only[e,bQ,bN];rw[cf,aI,fin];by_cases c:(j.Reads.any λs=>s.bZ == gK j && s.eW != (eG t.aT (gK j)).eW)=true
   .grind
   .rw[aO c,aO (show ¬((eG t.aT (gK j)).eU≠0\/(j.Reads.any λs=>s.bZ == gK j && s.eW != (eG t.aT (gK j)).eW)=true) from λq=>q.elim (λa=>a n) c)];by_cases d:(eG t.aT (gK j)).eW=1000000
    .rw[aM d,aM d];simp
    .rw[aO d,aO d];by_cases l:((rO j.aH).length:Int)<=j.K+1
     .simp only[aM l];rfl
     .simp only[aO l];rfl
  grind
 .rw[aO aj,aO u];unfold o5 vX;rw[b,aI,cO,LW,aI];rfl
end
def a7N(t:Table)(w:Int)(p:aA×ay×aK):Table:={t with aA:=p.1,aT:=p.2.1,aR:=t.aR.set w.toNat p.2.2}
theorem aUP{j:aK}(hk:0<=j.K/\j.K<=100)(x:aX):qB j x=some (RP j x):=by
 unfold qB RP;cases x.LJ
 .rfl
 .simp only[bS];grind[cC]
theorem bHX{j:aK}(hk:0<=j.K):mK j=some (OZ j):=by
 unfold mK OZ;by_cases h:j.K<j.cK.length
 .have a:j.K.toNat<j.cK.length:=aa
  rw[aM aj,aM h,iD hk h,aI];simp only[mG,aI,tS,DY,iS a,aIO];rfl
 grind
def a7O(a:lN m)(e:0<=w/\w<=2)(x:Int):∃c,QY m w x=some (a39 m w x,c):=by
 obtain⟨d,l,k,o,n,f,j,i,h,g⟩:=lN.facts a;have b:m.Heap.Bytes.length<=maxLen:=by grind[maxLen]
 unfold QY a39;rw[E4 b aa,bY a,aI,dY,oH,bY e,aI];unfold FR;rw[dY,K4 a.1.1.1 aa aa aa,aI];by_cases hl:m5 m x
 .obtain⟨m',q,p,_,_⟩:=aQN a e hl;simp_all[aKL]
 simp_all[VO]
def bMP{l:List O}{a b:Nat}(c:a<=b)(d:b<=l.length):((dF l a (l.drop b)).take (a+(l.length-b))).drop 0=l.take a++l.drop b:=by
 have f:(l.take a).length=a:=aj
 have e:(l.drop b).length=l.length-b:=ae
 unfold dF;rw[PW,aM1 (l:=l.drop b) aa,<-qM,show a+(l.length-b)=(l.take a++l.drop b).length by grind];grind
theorem a4B{l:an}(h:0<l.length)(hl:l.length<=1000):rF l 0 1=some (l.drop 1):=by
 unfold rF;rw[WU,dY,WU,WU,cJ ai,bMP ai (show Int.toNat 1<=l.length from h),cJ]
 .rfl
 .rw[fK ae];simp only[H7,aF6,XC,Int.toNat_zero];omega
section
variable {t:Table} {w:Int} (h3:t.aR.length=3) (h2:t.aT.length=2) (hb:lR t.aA) (hw:0<=w/\w<=2) (hj:JB (aE t w))
include h3 h2 hb hw hj
theorem bHY:CG t w=some (a7N t w (mO t.aA t.aT (aE t w))):=by
 obtain⟨N,E,M,L,K⟩:=aEJ h3 h2 hb hw hj;have a:=GI h3 hw;have hk:=hj.k;have h:=hj.wr;have A:=hj.old.1;unfold CG DT mO a7N;rw[a,aI,aI];generalize B:aE t w=j at *;have o:∀x y:aK,(t.aR.set w.toNat x).set w.toNat y=t.aR.set w.toNat y:=λx y=>a2E ..;have p:∀x:aK,idx (t.aR.set w.toNat x) w=some x:=λx=>aKO ⟨hw.1,aa⟩;by_cases H:(j.aH.length:Int)<=j.K
 .grind
 .have I:j.K.toNat<j.aH.length:=aa
  have s:nP j=j.aH[j.K.toNat]:=by grind[nP]
  have F:=h.2.1 j.aH[j.K.toNat] (cQ I);rw[<-s] at F;have n:0<=jN (nP j).Key/\jN (nP j).Key<=1:=by unfold jN;omega
  rw[aO aj,aO H,aI,iD hk.1 aa,aI,<-s];unfold DS;rw[WW,aI,aMM h2 n,aI,a,aI];generalize nP j=x at *;generalize D:jN x.Key=bi at *;have ex:(⟨x.Key,x.LJ,x.dP⟩:aX)=x:=rfl;rw[ex];by_cases q:j.Pc=9
  .have e:(j.Pc == 9)=true:=aj
   simp only[e,bS,aM q];by_cases hh:(eG t.aT bi).Head=0
   .have e:((eG t.aT bi).Head == 0)=true:=aj
    simp only[e,bS,aM hh];grind[aUP]
   grind
  .have e : (j.Pc == 9) = false:=aj
   simp only[e,bQ,bN,aO q];by_cases g:j.Pc=10
   .have e:(j.Pc == 10)=true:=aj
    simp only[e,bS,aM g];obtain⟨c,e⟩:=aYY hb.1.1 j.H;rw[e,aI];simp only;by_cases b:(aCB t.aA.Mem.Heap j.H).Key=x.Key
    .grind
    .have e:((aCB t.aA.Mem.Heap j.H).Key == x.Key)=false:=aj
     simp only[e,bQ,bN,aO b,a1H,aI];by_cases G:RO (aCB t.aA.Mem.Heap j.H)=0
     .have e:(RO (aCB t.aA.Mem.Heap j.H) == 0)=true:=aj
      simp only[e,bS,aM G];grind[aUP]
     simp_all[DP]
   .have e:(j.Pc == 10)=false:=aj
    simp only[e,bQ,bN,aO g];by_cases f:j.Pc=11
    .have e:(j.Pc == 11)=true:=aj
     simp only[e,bS,aM f];have cut:∀u:Table,u.aR=t.aR->nL w x.Key x.LJ x.dP u=some {u with aR:=t.aR.set w.toNat (RP (RQ j) x)}:=λu P=>by
      have l:idx u.aR w=some j:=aj
      have last:∀v:Table,∀y:aK,idx v.aR w=some y->(0<=y.K/\y.K<=100)->nK w x.Key x.LJ x.dP v=some {v with aR:=v.aR.set w.toNat (RP y x)}:=λv y O z=>by simp_all[nK,aUP]
      unfold nL sW DQ RQ;rw[l,aI,iI,aI];by_cases hh:lJ j.H
      .rw[bY hh,aM rfl];by_cases J:j.cK.length<6
       .rw[bY aa,aM rfl,aI,LW,last _ {j with cK:=j.cK++[j.H]} aj aj,aM ⟨hh,J⟩];grind
       grind
      grind
     by_cases i:j.g7=0
     .simp_all[a1H]
     .have e:(j.g7 == 0)=false:=aj
      simp only[e,bQ,bN,aO i,a1H,aI];obtain⟨c,e⟩:=bCN hb.1.1 j.g7 (RO j.Node);grind[DR]
    .have e:(j.Pc == 11)=false:=aj
     simp only[e,bQ,bN,aO f];have k:0<=gG j.aH j.K:=by grind[gG]
     have m:t.aT.set bi.toNat (eG t.aT bi)=t.aT:=by grind[eG,aX2]
     unfold PC;rw[aKH E,aI];by_cases r:(j.gN.length:Int)<=gG j.aH j.K
     .rw[aM aj,aM r];simp only[dB,aI,m];rfl
     .have C:(gG j.aH j.K).toNat<j.gN.length:=aa
      have en:LC j=j.gN[(gG j.aH j.K).toNat]:=by grind[LC]
      rw[aO aj,aO r,iD k aa,<-en];by_cases d:j.Pc=12
      .have e:(j.Pc == 12)=true:=aj
       simp only[e,bS,aM d,aI];obtain⟨c,e⟩:=a7L hb.1.1 (LC j) ⟨x.Key,x.dP,(eG t.aT bi).Head⟩;grind[G4]
      .have e:(j.Pc == 12)=false:=aj
       simp only[e,bQ,bN,aO d,aI];grind[cC]
def bAG(t:Table)(w:Int)(p:ay×aK):Table:={t with aT:=p.1,aR:=t.aR.set w.toNat p.2}
theorem bCR(o:∀x∈t.aT,BkV x):zD t w=some (bAG t w (DX t.aT (aE t w))):=by
 have c:=GI h3 hw;have m:=hj.held;unfold zD DX bAG;rw[c,aI];generalize p:aE t w=j at *;have g:j.bH.length<=2:=by
  match h:j.bH,m with
  |[],_=>simp
  |[_],_=>simp
  |[_,_],_=>simp
  |x::y::z::r,⟨hm,q⟩=>
   (simp_all;omega)
 by_cases f:0<j.bH.length
 .have n:zO j=j.bH[0]:=by grind[zO]
  have d:=m.1 j.bH[0] (cQ f);rw[<-n] at d;have i:BkV (eG t.aT (zO j)):=by grind[eG]
  have l:=i.2.1;rw[aM aj,aM f,show(0:Int)=((0:Nat):Int) from rfl,aS f,aI,<-n,aMM h2 d,aI];have un:∀k,mL t w k=some {t with aT:=k,aR:=t.aR.set w.toNat {j with bH:=j.bH.drop 1}}:=λk=>by grind[mL,a4B]
  by_cases b:j.Pc=14
  .have e:(j.Pc == 14)=true:=aj
   simp only[e,bS,aM b];grind[cC]
  .have e:(j.Pc == 14)=false:=by simpa using b
   simp only[e,bQ,bN,aO b];rw[un]
 .rw[aO (by simpa using f),aO f];by_cases a:j.Pc=16
  .have e:(j.Pc == 16)=true:=by simpa using a
   simp only[e,bS,aM a]
  .have e:(j.Pc == 16)=false:=by simpa using a
   simp only[e,bQ,bN,aO a];rw[bHX (j:={j with Pc:=15,K:=0}) (O1 _)];rfl
theorem a7P:zE t w=some (aEK t w (HC t.aA w (aE t w))):=by
 have a:=GI h3 hw;have hk:=hj.k;unfold zE AL HC aEK;rw[a,aI,aI];generalize b:aE t w=j at *;by_cases c:(j.cK.length:Int)<=j.K
 .grind
 .rw[aO aj,aO c,aI,aMK hb hw,aI];generalize iV t.aA w j.Sub=r;cases d:r.2.iE
  .simp
  .simp only[d,bS];grind[cC,bHX]
theorem drop_eq:FT t w=some (aEK t w (HD t.aA w (aE t w))):=by
 have b:=GI h3 hw;have h:=hj.new;unfold FT HD aEK;rw[b,aI];generalize f:aE t w=j at *;by_cases g:j.gN.length=0
 .grind
 .have a:0<j.gN.length:=aa
  have d:j.gN.getD 0 0=j.gN[0]:=aj
  have hh:=h.2 j.gN[0] (cQ a);rw[<-d] at hh;rw[aO aj,aO g,show(0:Int)=((0:Nat):Int) from rfl,aS a,aI,<-d,show((0:Nat):Int)=0 from rfl,a4B a aa,aI,(lJ.mod hh).1,aBX hb.1.2.2.1,aI];by_cases hl:bH t.aA.aQ (j.gN.getD 0 0 % 32)
  .grind
  .rw[eQ hl,aM ak,aO hl];obtain⟨c,e⟩:=a7O hb.1.1 hw (j.gN.getD 0 0);rw[e];rfl
theorem a7Q(hl:t.Log.length<=1000000):wB t w=some {t with aR:=t.aR.set w.toNat cM,Log:=t.Log++[tlE w (aE t w)]}:=by
 have a:=GI h3 hw;unfold wB tlE;rw[a,aI];generalize b:aE t w=j at *;by_cases hc:j.Code=0
 .have e:(j.Code == 0)=true:=aj
  simp only[e,bS,aM hc];rw[LW];rfl
 .have e:(j.Code == 0)=false:=aj
  simp only[e,bQ,bN,aO hc];rw[LW];rfl
end
end Go.Gv
end
