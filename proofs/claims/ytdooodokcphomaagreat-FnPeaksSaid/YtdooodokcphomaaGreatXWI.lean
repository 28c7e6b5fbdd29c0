import Derived.Test.YtdooodokcphomaaGreatXWH
set_option linter.unusedVariables false
set_option linter.unusedSimpArgs false
set_option linter.unusedSectionVars false
set_option linter.constructorNameAsVariable false
set_option linter.unnecessarySimpa false
set_option linter.defProp false
noncomputable section
namespace Go.Gv
variable{h:Heap}{c n s w x:Int}{xs z:al}{t:aF}{l:a7}{m:Mem}{i j k p:Nat}{O:Type}
def POk(e:Int)(p:xZ):Prop:=(0<=p.aP/\p.aP<=e)/\(0<=p.Seen/\p.Seen<=2)/\(p.On=false->p=⟨false,0,false,0⟩)
instance (e:Int) (p:xZ):Decidable (POk e p):=by unfold POk;infer_instance
def COk(c:aI):Prop:=(0<=c.aP/\c.aP<=100000)/\c.bV.length=3/\∀p∈c.bV,POk c.aP p
instance (c:aI):Decidable (COk c):=by unfold COk;infer_instance
def kO(c:aI):rX c=some (decide (COk c)):=by
 unfold rX;rw[cJ];by_cases g:0<=c.aP/\c.aP<=100000
 .by_cases f:c.bV.length=3
  .simp only[aE,g,f,rB];have b:∀k:Nat,k<=3->loop (yF c) (k:Int)=some (if ∀p∈c.bV.drop k,POk c.aP p then Out.brk () else Out.ret false):=by
    refine aXF 3 _ λk r=>?_;by_cases l:k<3
    .have j:c.bV.drop k=c.bV[k]::c.bV.drop (k+1):=EU aa;simp only[yF];rw[cX,UO];simp only[aE,cJ,oB,j];rw[lZ (by simp[maxLen];omega)];generalize c.bV[k]=p;have i:POk c.aP p↔decide (0<=p.aP/\p.aP<=c.aP)=true/\decide (0<=p.Seen/\p.Seen<=2)=true/\(p.On=false->decide (p=⟨false,0,false,0⟩)=true):=by simp only[POk,decide_eq_true_eq]
     simp only[List.forall_mem_cons,i];generalize decide (0<=p.aP/\p.aP<=c.aP)=q;generalize decide (0<=p.Seen/\p.Seen<=2)=o;generalize decide (p=⟨false,0,false,0⟩)=n;generalize p.On=m;cases q<;>cases o<;>cases n<;>cases m<;>simp[l]
    .left;obtain rfl:k=3:=aa
     simp[yF,List.drop_eq_nil_of_le (show c.bV.length<=3 by omega)]
   have:=b 0 aa;simp only[Int.ofNat_zero,QL] at this;have e:decide (COk c)=if ∀p∈c.bV,POk c.aP p then true else false:=by have:COk c↔∀p∈c.bV,POk c.aP p:=⟨λh=>h.2.2,λh=>⟨g,f,h⟩⟩;simp[this]
   rw[e];simp only[Int.cast_ofNat_Int] at *;have a:loop (yF c) 0=_:=this;by_cases d:∀p∈c.bV,POk c.aP p
   .rw[aM d] at a ⊢;rw[a];simp[PQ,aAX]
   .rw[aO d] at a ⊢;rw[a];simp[PQ]
  grind[rB,COk]
 grind[rB,COk]
def a1U(p:xZ)(c:aI):BR p c=some (!decide (POk c.aP p)):=by
 unfold BR nR;rw[eT,eT];have a:decide (POk c.aP p)=(decide (0<=p.aP/\p.aP<=c.aP) && (decide (0<=p.Seen/\p.Seen<=2) && (p.On || decide (p=⟨false,0,false,0⟩)))):=by rw[XA];simp only[POk,decide_eq_true_eq,ET,Bool.or_eq_true];grind
 grind
def aY3{l:b6}(d:l.length<=maxLen)(f:xZ->Bool):nQ l (λx=>some (f x))=some (l.any f):=by
 unfold nQ BQ;have a:∀k:Nat,k<=l.length->loop (kY l (λx=>some (f x))) (k:Int)=some (if(l.drop k).any f then Out.ret ((k+(l.drop k).findIdx f:Nat):Int) else Out.brk ()):=by
  refine aXF l.length _ λk g=>?_;by_cases b:k<l.length
  .have e:l.drop k=l[k]::l.drop (k+1):=EU b;simp only[kY];rw[cX,aZ b,lZ (MZ b d),e];grind
  grind[kY]
 have c:loop (kY l (λx=>some (f x))) 0=_:=a 0 aa;rw[c];simp only[QL];by_cases h:l.any f=true
 .simp[h,vA]
 grind[vA,IQ]
def zE{c:aI}(b:c.bV.length<=maxLen):sH c=some (decide (COk c)):=by
 unfold sH yO;rw[eT];have e:(λa=>BR a c)=λa=>some (!decide (POk c.aP a)):=funext λy=>a1U y c;rw[e,aY3 b];by_cases f:0<=c.aP/\c.aP<=100000
 .by_cases d:c.bV.length=3
  .have:COk c↔∀p∈c.bV,POk c.aP p:=⟨λh=>h.2.2,λh=>⟨f,d,h⟩⟩;grind
  grind[COk]
 grind[COk]
def cN(l:a7):bg:=l.flatMap bP.Rows
theorem T4(h:k<l.length):cN (l.take (k+1))=cN (l.take k)++l[k].Rows:=by grind[cN,UR]
def aSQ(l:a7)(k:Nat):(cN (l.take k)).length<=(cN l).length:=by grind[cN,aL2]
theorem a9D(l:a7)(h:k<l.length):l[k].Rows.length<=(cN l).length:=by have a:=aSQ l (k+1);grind[T4]
def aEQ{s:bP}(h:s∈l):s.Rows.length<=(cN l).length:=by grind[aFI,a9D]
def CM(h:(cN l).length<=1073741824)(d:l.length<=maxLen):A9 l=some (cN l):=by
 unfold A9;have b:loop (A8 l) ([],0)=some (cN l):=by
  refine kL (f:=A8 l) l.length (λk=>(cN (l.take k),(k:Int))) _ (λk a=>?_) ?_
  .have c:=aSQ l (k+1);rw[T4 a] at c;simp only[A8];rw[cX,aZ a];grind[b7,T4,lZ]
  grind[A8]
 rw[b];rfl
def j3(h:Int):Prop:=(32<=h/\h<=223)/\h % 32<24
instance (h:Int):Decidable (j3 h):=by unfold j3;infer_instance
theorem eB(h:Int):gJ h=some (decide (j3 h)):=by grind[gJ,CY,j3,cJ,zC]
theorem hO(h:Int):iP h=some (decide (j3 h)):=by grind[iP,DB,j3,eT,zC]
def j3.mod{h:Int}(q:j3 h):Int.tmod h 32=h % 32/\0<=h % 32/\h % 32<=23:=by grind[j3]
theorem cZ(h:Int):eM h=some (if j3 h then h % 32 else -1):=by grind[eM,eB,j3]
def IY(r:eW):Prop:=j3 r.Handle/\0<=r.aP/\r.aP<=100000
instance (r:eW):Decidable (IY r):=by unfold IY;infer_instance
def nX(r:eW):Int:=r.Handle % 32
def tS(l:a7):Prop:=l.length=3/\(cN l).length<=24/\(∀r∈cN l,IY r)/\((cN l).map nX).Nodup
instance (l:a7):Decidable (tS l):=by unfold tS;infer_instance
def rowAt(l:bg)(k:Nat):eW:=l.getD k ⟨0,0⟩
theorem aER{l:bg}(h:k<l.length):rowAt l k=l[k]:=by grind[rowAt]
def aOV(h:(cN l).length<=1073741824)(n:l.length<=maxLen):RW l=some (decide (tS l)):=by
 unfold RW GS;rw[CM h n];simp only[aE];by_cases o:l.length=3
 .have j:((l.length:Int) != 3)=false:=ah
  simp only[j,aU,aT];by_cases d:(cN l).length<=24
  .rw[qH];have m:∀k,k<(cN l).length->yU (cN l) (((cN l).take k).map nX,(k:Int))=if IY (rowAt (cN l) k)/\nX (rowAt (cN l) k)∉((cN l).take k).map nX then some (.next (((cN l).take (k+1)).map nX,((k+1:Nat):Int))) else some (.stop (Out.ret false)):=by
    intro k b;simp only[yU,yT];rw[cX,aZ b,aER b];simp only[aE,cZ,cJ];by_cases q:j3 (cN l)[k].Handle
    .have r:=q.mod;rw[aM q,qH];by_cases e:0<=(cN l)[k].aP/\(cN l)[k].aP<=100000
     .rw[cB e];simp only[eP,aU,aT];rw[OY (by grind[maxLen])];simp only[aE];by_cases i:(cN l)[k].Handle % 32∈((cN l).take k).map nX
      .simp_all[nX]
      .rw[dV i];simp only[aU,aT];rw[aM (show IY (cN l)[k]/\nX (cN l)[k]∉((cN l).take k).map nX from⟨⟨q,e⟩,i⟩),EP,cY,map_take _ b];rfl
     .rw[dV e];simp only[oH,aS];rw[aO (λx:IY _/\_=>e x.1.2)]
    simp_all[IY]
   have c:=CK (f:=yU (cN l)) (cN l).length (λk=>(((cN l).take k).map nX,(k:Int))) (λk=>IY (rowAt (cN l) k)/\nX (rowAt (cN l) k)∉((cN l).take k).map nX) (Out.brk ()) (Out.ret false) (λk b g=>aj) (λk b g=>aj) (by simp[yU]);rw[List.take_zero,List.map_nil,show((0:Nat):Int)=0 from rfl] at c;rw[c];have a:tS l↔∀k,k<(cN l).length->IY (rowAt (cN l) k)/\nX (rowAt (cN l) k)∉((cN l).take k).map nX:=by
    constructor
    .rintro⟨_,_,p,e⟩ k b;grind[aER,aAB,List.map_take]
    .intro q;refine⟨o,d,λx g=>?_,(aAB _).2 λk b=>?_⟩
     .obtain⟨k,b,rfl⟩:=aFI.1 g;grind[aER]
     grind[aER,List.map_take]
   by_cases q:tS l
   .rw[aM (a.1 q),cB q];rfl
   .rw[aO (λx=>q (a.2 x)),dV q];rfl
  .rw[cX,dV (λq:tS l=>d q.2.1)]
 .have j:((l.length:Int) != 3)=true:=ah
  simp_all[tS]
def goR:az->bg->Option az
 |met,[]=>some met
 |met,r::t=>if IY r/\met.getD (nX r).toNat true=false then goR (met.set (nX r).toNat true) t else none
theorem a7X:∀{xs:bg} {met m:az},goR met xs=some m->m.length=met.length
 |[],met,m,h=>by grind[goR]
 |x::r,met,m,h=>by
  simp only[goR] at h;split at h
  .have:=a7X h;grind
  .cases h
def aSR:∀(a b:bg) (met:az),goR met (a++b)=(goR met a).bind λm=>goR m b
 |[],b,met=>rfl
 |x::r,b,met=>by
  simp only[aCN,goR];split
  .exact aSR r b _
  .rfl
theorem a1V:∀(xs:bg) (met:az),(goR met xs).isSome=true↔(∀r∈xs,IY r)/\(FW met (xs.map nX)).isSome=true
 |[],met=>by simp[goR,FW]
 |x::r,met=>by
  simp only[goR,aFG,FW];by_cases h:IY x
  .have c:=h.1.mod;have b:0<=nX x/\nX x<=23:=c.2;by_cases a:met.getD (nX x).toNat true=false
   .rw[aM ⟨h,a⟩,aM ⟨b,a⟩,a1V r _];simp[h]
   grind
  grind
def a9E{s:bP}(p:s.Rows.length<=maxLen):∀d k (met:az),k+d=s.Rows.length->met.length=24->loop (yL s) ((k:Int),met)=some (aY2 (goR met (s.Rows.drop k))):=by
 intro d;induction d with
 |zero=>
  intro k met l i;rw[bR (r:=Out.brk met) (by grind[yL]),List.drop_eq_nil_of_le aa];rfl
 |succ d o=>
  intro k met l i;have c:k<s.Rows.length:=aa
  have n:s.Rows.drop k=s.Rows[k]::s.Rows.drop (k+1):=EU c;have a:yL s ((k:Int),met)=if IY s.Rows[k]/\met.getD (nX s.Rows[k]).toNat true=false then some (.next (((k+1:Nat):Int),met.set (nX s.Rows[k]).toNat true)) else some (.stop (Out.ret false)):=by
   simp only[yL];rw[cX,aZ c];simp only[aE,hO,eT];generalize s.Rows[k]=x;by_cases q:j3 x.Handle
   .by_cases f:0<=x.aP/\x.aP<=100000
    .have b:=q.mod;obtain⟨j,g⟩:=bF9 b.2.1;have m:j<met.length:=aa
     have e:met.getD j true=met[j]:=aj
     have h:IY x:=⟨q,f⟩;simp only[q,f,and_self,decide_true,eP,aU,aT,oC,b.1,g,MK,h,true_and,nX,e];rw[PH,aZ m];simp only[aE];cases met[j]
     .simp only[aU,aT,aS];grind[b7,lZ]
     .simp
    .rw[cB q,dV f];simp only[eP,oH,aU,aT,aS,oC];rw[aO (λy:IY x/\_=>f y.1.2)]
   simp_all[oC,IY]
  rw[n,goR];by_cases q:IY s.Rows[k]/\met.getD (nX s.Rows[k]).toNat true=false
  .rw[aM q] at a ⊢;grind[bO]
  .rw[aO q] at a ⊢;rw[bR a];rfl
def a9F(hn:l.length<=1000)(g:∀s∈l,s.Rows.length<=maxLen):∀d k (met:az),k+d=l.length->met.length=24 ->
  loop (yN l) ((k:Int),met)=some (if(goR met (cN (l.drop k))).isSome=true then Out.brk () else Out.ret false):=by
 intro d;induction d with
 |zero=>
  simp_all[goR,cN,bR,yN]
 |succ d f=>
  intro k met n h;have a:k<l.length:=aa
  have o:l.drop k=l[k]::l.drop (k+1):=EU a;have c:=g _ (dO a);have j:cN (l.drop k)=l[k].Rows++cN (l.drop (k+1)):=by grind[cN]
  have e:=a9E c _ 0 met (aAQ _) h;rw[show((0:Nat):Int)=0 from rfl,QL] at e;have b:yN l ((k:Int),met)=(match goR met l[k].Rows with|some m=>some (.next (((k+1:Nat):Int),m))|none=>some (.stop (Out.ret false))):=by
   simp only[yN];rw[cX,aZ a];simp only[aE];rw[e];cases goR met l[k].Rows with
   |none=>rfl
   |some m=>simp only[aE,aY2,aA7,aA6];grind[cK]
  rw[j,aSR];cases i:goR met l[k].Rows with
  |none=>
   simp_all[bR]
  |some m=>
   rw[i] at b;rw[bO b,f (k+1) m aa (by grind[a7X])];simp
def MD(hn:l.length<=1000)(h:(cN l).length<=1073741824):nB l=some ((cN l).length:Int):=by
 unfold nB;have a:loop (sG l) (0,0)=some ((cN l).length:Int):=by
  refine kL (f:=sG l) l.length (λk=>(((cN (l.take k)).length:Int),(k:Int))) _ (λk b=>?_) ?_
  .have c:=aSQ l (k+1);rw[T4 b,O0] at c;simp only[sG];rw[cX,aZ b];grind[cK,T4]
  grind[sG]
 rw[a];rfl
def HJ(h:(cN l).length<=1073741824):xG l=some (decide (tS l)):=by
 unfold xG;by_cases n:l.length=3
 .have f:((l.length:Int) != 3)=false:=ah
  have o:(1073741824:Nat)<=maxLen:=by simp[maxLen]
  simp only[f,aU,aT];have b:=a9F (l:=l) aa (λs m=>by have:=aEQ m;omega) l.length 0 (List.replicate 24 false) aa rfl;rw[show((0:Nat):Int)=0 from rfl,QL] at b;rw[b];have i:∀j:Nat,j<24->(List.replicate 24 false).getD j true=false:=ai
  have a:tS l↔(cN l).length<=24/\(goR (List.replicate 24 false) (cN l)).isSome=true:=by
   rw[a1V,aG6 _ _ rfl];have g:(∀r∈cN l,IY r)->∀x∈(cN l).map nX,0<=x/\x<=23:=by intro q x k;obtain⟨r,g,rfl⟩:=aL1.1 k;exact(q r g).1.mod.2
   constructor
   .rintro⟨_,e,d,c⟩;grind
   .rintro⟨e,d,_,c,_⟩;exact⟨n,e,d,c⟩
  by_cases q:(goR (List.replicate 24 false) (cN l)).isSome=true
  .rw[aM q];simp only[aE,aA8,aA5];rw[MD aa h];grind
  .rw[aO q,dV (λx=>q (a.1 x).2)];rfl
 .have f:((l.length:Int) != 3)=true:=ah
  simp_all[tS]
def fH(h:Int):Prop:=h=0\/j3 h
instance (h:Int):Decidable (fH h):=by unfold fH;infer_instance
def UP(z:al):Prop:=z.length=3/\∀h∈z,fH h
instance (z:al):Decidable (UP z):=by unfold UP;infer_instance
def FY(h:z.length<=maxLen):M4 z=some (decide (UP z)):=by
 unfold M4;have e:∀k (c:k<z.length),E7 z (k:Int)=if fH z[k] then some (.next ((k+1:Nat):Int)) else some (.stop (Out.ret false)):=by
  intro k c;simp only[E7,N0];rw[cX,aZ c,lZ (MZ c h)];simp only[aE,eB];generalize z[k]=x;by_cases q:x=0
  .have n:(x != 0)=false:=by simp only[bne_eq_false_iff_eq];exact q
   rw[n,aM (show fH x from .inl q)];rfl
  .have n:(x != 0)=true:=by simp only[bne_iff_ne];exact q
   by_cases d:j3 x
   .rw[n,cB d,aM (show fH x from .inr d)];rfl
   .rw[n,dV d,aO (λa:fH x=>a.elim q d)];rfl
 have b:=lA (f:=E7 z) z (λk=>(k:Int)) fH (Out.brk ()) (Out.ret false) (λk c g=>aj) (λk c g=>aj) (by simp[E7]);rw[show((0:Nat):Int)=0 from rfl] at b;rw[b];by_cases q:∀x∈z,fH x
 .rw[aM q];have:UP z↔z.length=3:=⟨λa=>a.1,λa=>⟨a,q⟩⟩;simp only[aE,aFT,aFS,this];congr 1;grind
 .rw[aO q,dV (λa:UP z=>q a.2)];rfl
def WZ(c:z.length<=maxLen):M9 z=some (decide (UP z)):=by
 unfold M9 OC;have e:(λb=>RT b)=λy:Int=>some (!decide (fH y)):=by
  funext y;unfold RT BV BU;rw[hO];by_cases q:y=0
  .simp_all[fH]
  grind[fH]
 rw[e,SO c,V1];by_cases d:z.length=3
 .have n:((z.length:Int) == 3)=true:=ah
  have:UP z↔∀h∈z,fH h:=⟨λa=>a.2,λa=>⟨d,a⟩⟩;grind
 .have n:((z.length:Int) == 3)=false:=ah
  simp_all[UP]
def YU(l:List O)(f:O->Bool){body:Int->Option (Step Int (Out Unit Int))}(e:∀k (b:k<l.length),body (k:Int)=if f l[k] then some (.stop (.ret (k:Int))) else some (.next ((k+1:Nat):Int)))(c:body (l.length:Int)=some (.stop (.brk ()))) :
  ∃o,loop body 0=some o/\match o with|.brk _=>l.any f=false|.ret r=>0<=r/\l.any f=true:=by
 have a:=a9A (f:=body) l.length (λk=>(k:Int)) (λk=>if(l.drop k).any f then Out.ret ((k+(l.drop k).findIdx f:Nat):Int) else Out.brk ()) (λk b=>by
  by_cases h:k<l.length
  .have d:l.drop k=l[k]::l.drop (k+1):=EU h;grind
  grind) 0 (lR _)
 grind
def aF8{l:bg}(b:l.length<=maxLen)(f:eW->Bool):kD l (λx=>some (f x))=some (l.any f):=by
 obtain⟨o,e,h⟩:=YU l f (body:=mU l (λx=>some (f x))) (λk a=>by
  simp only[mU];rw[cX,aZ a,lZ (MZ a b)];rfl) (by simp[mU])
 grind[kD,z8,FC,FB]
def aDZ(b:l.length<=maxLen)(f:bP->Bool)(g:bP->ay)(c:∀x∈l,g x=some (f x)):jX l g=some (l.any f):=by
 obtain⟨o,e,h⟩:=YU l f (body:=l7 l g) (λk a=>by
  simp only[l7];rw[cX,aZ a,lZ (MZ a b)];grind) (by simp[l7])
 grind[jX,xE,D5,D4]
def aD0{l:ax}(b:l.length<=maxLen)(f:bD->Bool)(g:bD->ay)(c:∀x∈l,g x=some (f x)):jY l g=some (l.any f):=by
 obtain⟨o,e,h⟩:=YU l f (body:=l8 l g) (λk a=>by
  simp only[l8];rw[cX,aZ a,lZ (MZ a b)];grind) (by simp[l8])
 grind[jY,xF,D7,D6]
theorem contains_eq{l:al}(b:l.length<=maxLen)(v:Int):oJ l v=some (decide (v∈l)):=by
 obtain⟨o,e,h⟩:=YU l (λx=>v == x) (body:=gL l v) (λk a=>by
  simp only[gL];rw[cX,aZ a,lZ (MZ a b)];rfl) (by simp[gL])
 have c:l.any (λx=>v == x)=decide (v∈l):=aj
 grind[oJ,pK,EC,QO]
theorem aES{l:ax}:x∈gY l↔∃s∈l,x∈s.bA:=aL0
section
variable {m:Mem} (hsh:gX m.Heap) (hl:(fC m.aD).length<=1073741824) (hg:m.aD.Global.length<=maxLen) (ho:m.aD.Own.length<=maxLen)
include hl hg ho
theorem aSS(s:Int):U2 m.aD s=some (decide (s∈fC m.aD)):=by grind[maxLen,U2,aF7,OY]
theorem aD1(s:Int):O9 m.aD s=some (decide (s∈fC m.aD)):=by
 have e:(1073741824:Nat)<=maxLen:=by simp[maxLen]
 have b:=zD m.aD;have d:∀x∈m.aD.Global,tH x s=some (decide (s∈x.bA)):=λx a=>by have:=PI a;grind[tH,contains_eq]
 have c:∀x∈m.aD.Own,tH x s=some (decide (s∈x.bA)):=λx a=>by have:=PI a;grind[tH,contains_eq]
 unfold O9 J9;rw[aD0 hg (λx=>decide (s∈x.bA)) _ d,aD0 ho (λx=>decide (s∈x.bA)) _ c];have g:(m.aD.Global.any λx=>decide (s∈x.bA))=decide (s∈gY m.aD.Global):=by rw[XA];simp[aES]
 have f:(m.aD.Own.any λx=>decide (s∈x.bA))=decide (s∈gY m.aD.Own):=by rw[XA];simp[aES]
 grind[fC]
def fX(m:Mem)(s:Int):Int:=if bH m.Heap s<0 then 0 else if s∈fC m.aD then 1 else if 6<kN m.Heap s then 2 else 3
include hsh
theorem aB7(s:Int):JJ m s=some (fX m s):=by grind[JJ,fX,iY,aSS,tP]
theorem aB8(s:Int):KA m s=some (fX m s):=by grind[KA,fX,jQ,aD1,OX]
def lE(m:Mem)(h:Int):Prop:=j3 h/\fX m (h % 32)=3/\kN m.Heap (h % 32)=h/32
instance (m:Mem) (h:Int):Decidable (lE m h):=by unfold lE;infer_instance
omit hl hg ho hsh in
theorem jB{m:Mem}(h:fX m s=3):0<=bH m.Heap s:=by grind[fX]
theorem lY(h:Int):oY m h=some (decide (lE m h)):=by
 unfold oY yD;rw[eB,cZ];by_cases q:j3 h
 .have d:=q.mod;rw[cB q,aM q];simp only[aE,aS,aB7 hsh hl hg ho];by_cases b:fX m (h % 32)=3
  .have n:(fX m (h % 32) == 3)=true:=aj
   have c:JL h=some (h/32):=by grind[JL,j3,eB,cK]
   rw[n,tP hsh (jB b),c];simp only[aS,aE];congr 1;rw[XA];simp only[beq_iff_eq,decide_eq_true_eq];exact⟨λa=>⟨q,b,a⟩,λa=>a.2.2⟩
  grind[lE]
 grind[lE]
theorem CN(h:Int):wO m h=some (decide (lE m h)):=by
 unfold wO BP;rw[hO];by_cases q:j3 h
 .have c:=q.mod;rw[cB q,c.1];simp only[aE,aS,aB8 hsh hl hg ho];by_cases b:fX m (h % 32)=3
  .have n:(fX m (h % 32) == 3)=true:=aj
   have d:bB (Int.tdiv h 32)=h/32:=by grind[j3,cK]
   rw[n,OX hsh (jB b),d];simp only[aS,aE];congr 1;rw[XA];simp only[beq_iff_eq,decide_eq_true_eq];exact⟨λa=>⟨q,b,a⟩,λa=>a.2.2⟩
  grind[lE]
 grind[lE]
end
def ME(b:aA)(r:eW):Prop:=lE b.Mem r.Handle/\r.aP<=b.aI.aP
instance (b:aA) (r:eW):Decidable (ME b r):=by unfold ME;infer_instance
def lD(b:aA):Prop:=(lX b.Mem/\COk b.aI/\tS b.aQ/\UP b.iU)/\∀r∈cN b.aQ,ME b r
instance (b:aA):Decidable (lD b):=by unfold lD;infer_instance
def W0(b:aA):Prop:=IF b.Mem/\b.aI.bV.length<=1048576/\b.aQ.length<=1048576/\(cN b.aQ).length<=1048576/\b.iU.length<=1048576
def W0.rows{b:aA}(h:W0 b):∀s∈b.aQ,s.Rows.length<=1048576:=λs a=>by have:=aEQ a;have:=h.2.2.2.1;omega
section
variable {b:aA} (hf:b.Mem.Heap.Bytes.length<=maxLen/\(fC b.Mem.aD).length<=1073741824/\b.aI.bV.length<=maxLen/\b.aQ.length<=maxLen/\(cN b.aQ).length<=1073741824/\b.iU.length<=maxLen)
include hf
theorem aST:VM b=some (decide (lD b)):=by
 obtain⟨w,m,y,l,j,v⟩:=hf;unfold VM vH;rw[z7 w m,kO,aOV j l,FY v];by_cases c:lX b.Mem
 .by_cases i:COk b.aI
  .by_cases h:tS b.aQ
   .by_cases g:UP b.iU
    .have u:b.Mem.aD.Global.length<=maxLen:=by rw[c.1.2.1];simp[maxLen]
     have t:b.Mem.aD.Own.length<=maxLen:=by rw[c.1.2.2.1];simp[maxLen]
     have p:(1073741824:Nat)<=maxLen:=by simp[maxLen]
     simp only[cB c,cB i,cB h,cB g,aE,eP,aU,aT];rw[CM j l];simp only[aE];have o:∀k (d:k<(cN b.aQ).length),BY b (cN b.aQ) (k:Int)=if ME b (cN b.aQ)[k] then some (.next ((k+1:Nat):Int)) else some (.stop (Out.ret false)):=by
      intro k d;simp only[BY,KS];rw[cX,aZ d,lZ (show k<maxLen by omega)];generalize (cN b.aQ)[k]=r;simp only[aE,lY c.1.1.1 m u t];by_cases e:lE b.Mem r.Handle
      .rw[cB e];simp only[eP,aU,aT];by_cases n:r.aP<=b.aI.aP
       .rw[qH,aM ⟨e,n⟩]
       .rw[cX,aO (λx=>n x.2)]
      .rw[dV e];simp only[oH,aS];rw[aO (λx=>e x.1)]
     have a:=lA (f:=BY b (cN b.aQ)) (cN b.aQ) (λk=>(k:Int)) (ME b) (Out.brk ()) (Out.ret false) (λk d s=>aj) (λk d s=>aj) (by simp[BY]);rw[show((0:Nat):Int)=0 from rfl] at a;rw[a];by_cases q:∀r∈cN b.aQ,ME b r
     .rw[aM q,cB (show lD b from⟨⟨c,i,h,g⟩,q⟩)];rfl
     .rw[aO q,dV (λx:lD b=>q x.2)];rfl
    grind[lD]
   grind[lD]
  grind[lD]
 grind[lD]
theorem aSU:VF b=some (decide (lD b)):=by
 obtain⟨t,j,s,q,p,o⟩:=hf;unfold VF vF;rw[FX t j,zE s,HJ p,WZ o];by_cases a:lX b.Mem
 .by_cases i:COk b.aI
  .by_cases h:tS b.aQ
   .by_cases g:UP b.iU
    .have n:b.Mem.aD.Global.length<=maxLen:=by rw[a.1.2.1];simp[maxLen]
     have m:b.Mem.aD.Own.length<=maxLen:=by rw[a.1.2.2.1];simp[maxLen]
     have k:(1073741824:Nat)<=maxLen:=by simp[maxLen]
     simp only[cB a,cB i,cB h,cB g,aE,eP,aU,aT];have v:(λe=>GQ e b)=λr:eW=>some (!decide (ME b r)):=by funext r;unfold GQ xJ;rw[CN a.1.1.1 j n m];grind[ME]
     have u:∀l∈b.aQ,(λe=>OD e b) l=some (!decide (∀r∈l.Rows,ME b r)):=λl d=>by have:=aEQ d;simp only[OD];rw[v,aF8 aa,V1];rfl
     rw[aDZ q _ _ u,V1];have f:lD b↔∀l∈b.aQ,∀r∈l.Rows,ME b r:=by
      constructor
      .intro x l d r c;exact x.2 r (aL0.2 ⟨l,d,c⟩)
      .intro x;refine⟨⟨a,i,h,g⟩,λr c=>?_⟩;obtain⟨l,d,c⟩:=aL0.1 c;grind
     grind
    grind[lD]
   grind[lD]
  grind[lD]
 grind[lD]
end
def aAC{s:aw}{p:aW->Bool}(d:s.length<=4611686018427387904) :
  (∃j,∃h:j<s.length,(∀i (h:i<s.length),i<j->p s[i]=false)/\p s[j]=true/\dW s (λy=>some (p y))=some (j:Int))\/((∀i (h:i<s.length),p s[i]=false)/\dW s (λy=>some (p y))=some (-1)):=by
 rcases aJO (f:=qS s (λy=>some (p y))) (p:=p) d (λk=>by
  simp only[qS];by_cases h:k<s.length
  .rw[dif_pos h,cX,aZ h,aE,aE,cY];rfl
  grind) s.length 0 aa with ⟨j,h,_,c,g,e⟩|⟨l,c⟩
 .refine .inl ⟨j,h,λi b a=>c i b (lR _) a,g,?_⟩;unfold dW;rw[show(0:Int)=((0:Nat):Int) from rfl,e];rfl
 .refine .inr ⟨λi b=>l i b (lR _),?_⟩;unfold dW;rw[show(0:Int)=((0:Nat):Int) from rfl,c];rfl
def aMJ{s:bo}{p:Seen->Bool}(d:s.length<=4611686018427387904) :
  (∃j,∃h:j<s.length,(∀i (h:i<s.length),i<j->p s[i]=false)/\p s[j]=true/\gE s (λy=>some (p y))=some (j:Int))\/((∀i (h:i<s.length),p s[i]=false)/\gE s (λy=>some (p y))=some (-1)):=by
 rcases aJO (f:=tJ s (λy=>some (p y))) (p:=p) d (λk=>by
  simp only[tJ];by_cases h:k<s.length
  .rw[dif_pos h,cX,aZ h,aE,aE,cY];rfl
  grind) s.length 0 aa with ⟨j,h,_,c,g,e⟩|⟨l,c⟩
 .refine .inl ⟨j,h,λi b a=>c i b (lR _) a,g,?_⟩;unfold gE;rw[show(0:Int)=((0:Nat):Int) from rfl,e];rfl
 .refine .inr ⟨λi b=>l i b (lR _),?_⟩;unfold gE;rw[show(0:Int)=((0:Nat):Int) from rfl,c];rfl
def aVU{s:aw}{p:aW->Bool}(c:s.length<=4611686018427387904):kZ s (λy=>some (p y))=some (s.filter λx=>!p x):=by
 unfold kZ;rcases aAC (p:=p) c with ⟨j,h,e,m,b⟩|⟨e,b⟩
 .have d:¬(((j:Int) == -1)=true):=ae
  rw[b,aE,aO d,cY];obtain⟨M,k,t,r,q,o⟩:=aYX (p:=p) (n:=s.length) (f:=lK (λy=>some (p y))) c (λL i j h g l=>by
   simp only[lK];rw[cX,aZ h,aE,aE];by_cases a:p L[j]=true
   .rw[aM a,aO (by simp[a])];grind[jJ,cK]
   .rw[aO a,aM aj,UO,aE];grind[jJ,cK]) (λL i j h=>by
   simp_all[lK]) (s.length-(j+1)) s j (j+1) aa rfl aa
  grind[B4,B3,b7,gG,a9B,bEB]
 .rw[b,aE,aM ak,List.filter_eq_self.2];grind[aPX]
def a7Y{O:Type}{q:O->Bool}:∀{s:List O} {j:Nat} (h:j<s.length),(∀i (h:i<s.length),i<j->q s[i]=true)->q s[j]=false->s.takeWhile q=s.take j/\s.dropWhile q=s.drop j
 |[],j,h,_,_=>by cases h
 |x::r,0,h,_,a=>by simp_all
 |x::r,j + 1,h,b,a=>by have c:q x=true:=b 0 (Nat.zero_lt_succ _) (Nat.zero_lt_succ _);have:=a7Y (s:=r) (j:=j) aj (λi e d=>b (i+1) aa aa) a;simp_all
def bL7{q:O->Bool}{s:List O}(h:∀i (h:i<s.length),q s[i]=true):s.takeWhile q=s/\s.dropWhile q=[]:=by
 have c:∀x∈s,q x=true:=λx b=>by grind[aPX]
 clear h;induction s with
 |nil=>simp
 |cons x r a=>
  simp_all
def aF9(l:aw)(x:aW):aw:=(l.filter λy=>!(y.Key == x.Key)).takeWhile (λy=>!decide (x.Key<y.Key))++[x]++(l.filter λy=>!(y.Key == x.Key)).dropWhile (λy=>!decide (x.Key<y.Key))
def aLM{l:aw}(k:l.length<=1000)(x:aW):OI l x=some (aF9 l x):=by
 unfold OI HZ aF9;rw[EP];simp only[aE,aHI];have m:kZ l (λc=>PZ c x)=some (l.filter λy=>!(y.Key == x.Key)):=aVU (p:=λy=>y.Key == x.Key) aa;rw[m,aE];have b:(l.filter λy=>!(y.Key == x.Key)).length<=1000:=wI (List.length_filter_le _ _) k;generalize (l.filter λy=>!(y.Key == x.Key))=o at b ⊢;have f:(∃j,∃h:j<o.length,(∀i (h:i<o.length),i<j->decide (x.Key<o[i].Key)=false)/\decide (x.Key<o[j].Key)=true/\dW o (λc=>GV c x)=some (j:Int))\/((∀i (h:i<o.length),decide (x.Key<o[i].Key)=false)/\dW o (λc=>GV c x)=some (-1)):=aAC (p:=λy=>decide (x.Key<y.Key)) aa;obtain⟨j,h,r,n,g⟩|⟨r,g⟩:=f
 .obtain⟨e,d⟩:=a7Y (q:=λy:aW=>!decide (x.Key<y.Key)) h (λi f a=>aj) (by simp[n]);rw[g,aE,fF,e,d];grind[vL,uE,b7]
 .obtain⟨e,d⟩:=bL7 (s:=o) (q:=λy:aW=>!decide (x.Key<y.Key)) (λi f=>aj);rw[g,aE,aM ai,e,d];grind[vL,uE,b7,List.drop_length]
def aFB(l:aw)(k:Int):aW×Bool:=match l.find? (λy=>y.Key == k) with|some x=>(x,true)|none=>(⟨0,false,0⟩,false)
def aSV{p:O->Bool}{s:List O}(h:j<s.length)(b:∀i (h:i<s.length),i<j->p s[i]=false)(a:p s[j]=true):s.find? p=some s[j]:=by grind[List.find?_eq_some_iff_getElem]
def a7Z{p:O->Bool}{s:List O}(a:∀i (h:i<s.length),p s[i]=false):s.find? p=none:=by grind[aPX]
def aOW{l:aw}(f:l.length<=1000)(k:Int):RZ l k=some (aFB l k):=by
 unfold RZ aFB;have d:(∃j,∃h:j<l.length,(∀i (h:i<l.length),i<j->(l[i].Key == k)=false)/\(l[j].Key == k)=true/\dW l (λa=>K0 a k)=some (j:Int))\/((∀i (h:i<l.length),(l[i].Key == k)=false)/\dW l (λa=>K0 a k)=some (-1)):=aAC (p:=λy=>y.Key == k) aa;obtain⟨j,h,c,e,b⟩|⟨c,b⟩:=d
 .rw[b,aE,fF,aZ h,aSV (p:=λy:aW=>y.Key == k) h c e];rfl
 simp_all[a7Z]
def IZ(l:bo)(b v:Int):bo×Bool:=match l.find? (λy=>y.dR == b) with|some x=>(l,x.iF == v)|none=>(l++[⟨b,v⟩],true)
def aOX{l:bo}(g:l.length<=1000)(b v:Int):R0 l b v=some (IZ l b v):=by
 unfold R0 K5 IZ;rw[EP];simp only[aE,aHI];have e:(∃j,∃h:j<l.length,(∀i (h:i<l.length),i<j->(l[i].dR == b)=false)/\(l[j].dR == b)=true/\gE l (λa=>K6 a b)=some (j:Int))\/((∀i (h:i<l.length),(l[i].dR == b)=false)/\gE l (λa=>K6 a b)=some (-1)):=aMJ (p:=λy=>y.dR == b) aa;obtain⟨j,h,d,f,c⟩|⟨d,c⟩:=e
 .rw[c,aE,fF,aZ h,aSV (p:=λy:Seen=>y.dR == b) h d f];rfl
 .rw[c,aE,aM ai,EP,a7Z (p:=λy:Seen=>y.dR == b) d]
def mQ(l:aw)(n:Int):Int:=(((l.take n.toNat).filter λx=>!x.NP).length:Int)
def a41(l:aw)(n:Int):(l.take ((if(if(l.length:Int)<n then(l.length:Int) else n)<0 then 0 else(if(l.length:Int)<n then(l.length:Int) else n)).toNat)).drop 0=l.take n.toNat:=by (simp_all;omega)
def aJQ{l:aw}(h:l.length<=1000)(n:Int):X8 l n=some (mQ l n):=by
 unfold X8 mQ;rw[PH];have c:=a41 l n;obtain⟨s,a⟩:∃s,s=l.take n.toNat:=⟨_,rfl⟩;have d:s.length<=1000:=aj
 rw[show((0:Int),(0:Int))=((((s.take 0).filter λx=>!x.NP).length:Int),((0:Nat):Int)) from rfl,
  kL s.length (λk=>((((s.take k).filter λx=>!x.NP).length:Int),(k:Int))) (((s.filter λx=>!x.NP).length:Nat):Int) (λk b=>by
   have f:s.take (k+1)=s.take k++[s[k]]:=UR b;have e:((s.take k).filter λx=>!x.NP).length<=1000:=wI (List.length_filter_le _ _) aj;simp only[ZS,c,<-a];rw[cX,aZ b,aE,f,List.filter_append];cases g:s[k].NP
   .rw[aM ak,cY];simp only[K7];rw[cY];simp[g]
   .rw[fF];grind[K7,cK]) (by
   simp only[ZS,c,<-a];simp)]
 rw[a];rfl
def ER(k:Int):Int:=if 0<=k/\k<=99 then k % 2 else -1
def W2(k:Int):NB k=some (ER k):=by unfold NB ER;rw[eT,aE];grind
def tQ(l:aw):al:=(if l.any (λx=>x.Key % 2 == 0) then [0] else [])++(if l.any (λx=>x.Key % 2 == 1) then [1] else [])
def a42{l:al}(b:l.Pairwise (· < ·))(a:∀x∈l,x=0\/x=1):l=(if 0∈l then [0] else [])++(if 1∈l then [1] else []):=by
 match l,b,a with
 |[],_,_=>rfl
 |[x],_,a=>obtain rfl|rfl:=a x ae<;>rfl
 |[x,y],b,a=>
  have c:x<y:=aj
  obtain rfl|rfl:=a x ae<;>obtain rfl|rfl:=a y ae<;>first|omega|rfl
 |x::y::z::r,b,a=>
  (simp_all;omega)
def aOY{l:aw}(j:l.length<=12)(g:∀x∈l,0<=x.Key/\x.Key<=99):R1 l=some (tQ l):=by
 unfold R1;rw[show(([]:al),(0:Int))=((l.take 0).map (λx=>x.Key % 2),((0:Nat):Int)) from rfl,
  kL l.length (λk=>((l.take k).map (λx=>x.Key % 2),(k:Int))) (l.map λx=>x.Key % 2) (λk b=>by
   have f:l.take (k+1)=l.take k++[l[k]]:=UR b;have c:=g l[k] (dO b);simp only[P2];rw[cX,aZ b,aE,W2,aE];unfold ER;rw[aM c,cX,EP,f,D1];grind[GY,cK]) (by
   simp[P2]),aE]
 simp only[aBC,P1];obtain⟨y,i,n,h⟩:=bEC (x:=l.map λx=>x.Key % 2) aj (by grind[a4W]);rw[i,aE];obtain⟨c1,o⟩:=a1S h;have e:∀a,a∈I4 y↔∃x∈l,x.Key % 2=a:=λa=>aj
 have d:∀a∈I4 y,a=0\/a=1:=λa m=>aj
 show some (I4 y)=_;rw[a42 c1 d];grind[tQ]
def aY4(l:aw):(tQ l).length<=2:=by grind[tQ]
theorem aSW{l:aw}{b:Int}(h:b∈tQ l):b=0\/b=1:=by grind[tQ]
def T5{f:(List O×Int)->Option (Step (List O×Int) (List O))}(l:List O)
  (h:∀k (a:k<l.length),f (l.take k,(k:Int))=some (.next (l.take k++[l[k]],((k+1:Nat):Int)))) (b:f (l,(l.length:Int))=some (.stop l)):loop f ([],0)=some l:=by have:=kL (f:=f) l.length (λk=>(l.take k,(k:Int))) l (λk a=>by simp_all) aj;grind
def aET{f:(Int×List O)->Option (Step (Int×List O) (List O))}(l:List O)
  (h:∀k (a:k<l.length),f ((k:Int),l.take k)=some (.next (((k+1:Nat):Int),l.take k++[l[k]]))) (b:f ((l.length:Int),l)=some (.stop l)):loop f (0,[])=some l:=by have:=kL (f:=f) l.length (λk=>((k:Int),l.take k)) l (λk a=>by simp_all) aj;grind
def wF{l:al}(h:l.length<=1073741824):lT l=some l:=by grind[lT,b7]
def sZ{l:al}(h:l.length<=1073741824):iJ l=some l:=by grind[iJ,b7]
def aY5{l:b6}(h:l.length<=1073741824):C7 l=some l:=by grind[C7,b7]
def aVV{l:bg}(h:l.length<=1073741824):AJ l=some l:=by grind[AJ,b7]
def a9G{l:ax}(c:l.length<=1048576)(b:∀s∈l,s.bA.length<=1048576):O4 l=some l:=by
 unfold O4;rw[T5 l]
 .rfl
 .intro k a;have:=b _ (dO a);simp only[S4];rw[cX,aZ a];simp only[aE];rw[wF aa,aE,EP,cY];rfl
 grind[S4]
def aVW{l:aD}(d:l.Global.length<=1048576)(c:l.Own.length<=1048576)(b:∀s∈l.Global,s.bA.length<=1048576)(a:∀s∈l.Own,s.bA.length<=1048576):U5 l=some l:=by simp_all[U5,a9G]
def W3{l:aD}(e:l.Global.length<=1048576)(d:l.Own.length<=1048576)(c:∀s∈l.Global,s.bA.length<=1048576)(b:∀s∈l.Own,s.bA.length<=1048576):kC l=some l:=by
 unfold kC;rw[aET l.Global]
 .simp only[aE,VB,VA];rw[aET l.Own]
  .rfl
  .intro k a;have:=b _ (dO a);simp only[J0];rw[cX,aZ a];simp only[aE];rw[sZ aa,aE,EP,JZ,cY];rfl
  grind[J0]
 .intro k a;have:=c _ (dO a);simp only[J2];rw[cX,aZ a];simp only[aE];rw[sZ aa,aE,EP,J1,cY];rfl
 grind[J2]
def aY6(b:h.Bytes.length<=1048576)(a:h.Class.length<=1048576):U4 h=some h:=by unfold U4;rw[wF aa,wF aa];rfl
def aAD(b:h.Bytes.length<=1048576)(a:h.Class.length<=1048576):zR h=some h:=by unfold zR;rw[sZ aa,sZ aa];rfl
def I0(h:IF m):wM m=some m:=by have a:=aY6 h.1 h.2.1;have b:=aVW h.2.2.1 h.2.2.2.1 h.aMI.1 h.aMI.2;simp_all[wM]
def PJ(h:IF m):o6 m=some m:=by have a:=aAD h.1 h.2.1;have b:=W3 h.2.2.1 h.2.2.2.1 h.aMI.1 h.aMI.2;simp_all[o6]
def mX{c:aI}(h:c.bV.length<=1048576):rY c=some c:=by unfold rY;rw[EP];rfl
def FZ{c:aI}(h:c.bV.length<=1048576):m7 c=some c:=by unfold m7;rw[aY5 aa];rfl
def aVX(c:l.length<=1048576)(b:∀s∈l,s.Rows.length<=1048576):SG l=some l:=by
 unfold SG;rw[T5 l]
 .rfl
 .intro k a;have:=b _ (dO a);simp only[P7];rw[cX,aZ a];simp only[aE];rw[EP,EP,cY];rfl
 grind[P7]
def W4(c:l.length<=1048576)(b:∀s∈l,s.Rows.length<=1048576):m8 l=some l:=by
 unfold m8;rw[T5 l]
 .rfl
 .intro k a;have:=b _ (dO a);simp only[J3];rw[cX,aZ a];simp only[aE];rw[aVV aa,aE,EP,cY];rfl
 grind[J3]
def aY7{b:aA}(h:W0 b):SH b=some b:=by have m:=I0 h.1;have c:=mX h.2.1;have l:=aVX h.2.2.1 h.rows;have:=h.2.2.2.2;unfold SH;rw[m,c,l,wF aa];rfl
def aY8{b:aA}(h:W0 b):N4 b=some b:=by have m:=PJ h.1;have c:=FZ h.2.1;have l:=W4 h.2.2.1 h.rows;have:=h.2.2.2.2;unfold N4;rw[m,c,l,sZ aa];rfl
theorem jM(w:Int):gK w=some (decide (0<=w/\w<=2)):=by grind[gK,eT]
section
variable {c:aI} (hc:COk c) {w:Int} (hw:0<=w/\w<=2)
include hc
theorem COk.small:c.bV.length<=1048576/\c.bV.length<=maxLen:=by have:=hc.2.1;grind[maxLen]
theorem COk.aY9{p:xZ}(b:POk c.aP p):COk ⟨c.aP,c.bV.set k p⟩:=⟨hc.1,by simpa using hc.2.1,λq a=>(nM a).elim (hc.2.2 q) (λe=>e ▸ b)⟩
theorem COk.later(h:c.aP+1<=100000):COk ⟨c.aP+1,c.bV⟩:=by
 have f:=hc.1;exact⟨⟨aj,h⟩,hc.2.1,λq e=>by
  obtain⟨a,b,d⟩:=hc.2.2 q e;exact⟨⟨a.1,aj⟩,b,d⟩⟩
include hw
theorem aLN:∃p,idx c.bV w=some p/\POk c.aP p:=by have a:=hc.2.1;rw[eQ hw.1 aa];exact⟨_,rfl,hc.2.2 _ (dO _)⟩
theorem a9H(e:Int):∃r,IJ c w e=some r/\VE c w e=some r/\COk r.1/\r.1.aP=c.aP:=by
 obtain⟨p,d,f,⟨i,h⟩,o⟩:=aLN hc hw;have n:=hc.2.1;unfold IJ VE;rw[mX hc.small.1,FZ hc.small.1,kO,zE hc.small.2,jM,cJ,cB hc,cB hw];simp only[aE,eP,aU,aT,BA,KB,d];cases m:p.On
 .exact⟨_,rfl,rfl,hc,rfl⟩
 .cases l:p.gU
  .by_cases k:p.aP=e
   .simp_all[pQ,vB]
   .have b:(p.aP == e)=false:=aj
    simp only[pQ,vB,b,eP,aU,aT,d,aE];by_cases j:p.Seen=2
    .simp only[j,beq_self_eq_true,aS,show ¬((2:Int)<2) by omega,decide_false,aU,aT];exact⟨_,rfl,rfl,hc.aY9 ⟨f,ae,λq=>aj⟩,rfl⟩
    .have a:(p.Seen == 2)=false:=aj
     simp only[a,show p.Seen<2 by omega,decide_true,aS,aU,aT];have g:bB (p.Seen+1)=p.Seen+1:=cY;exact⟨_,rfl,rfl,hc.aY9 ⟨f,aj,λq=>aj⟩,rfl⟩
  .exact⟨_,rfl,rfl,hc,rfl⟩
theorem bEG(e:Int):∃r,M3 c w e=some r/\ZK c w e=some r/\(COk r.1/\r.1.aP=c.aP)/\(r.2=false->r.1=c):=by
 obtain⟨p,b,a⟩:=aLN hc hw;have d:=hc.2.1;unfold M3 ZK;rw[mX hc.small.1,FZ hc.small.1,kO,zE hc.small.2,jM,cJ,cJ,eT,cB hc,cB hw];simp only[aE,eP,aU,aT,zN,FD,b];by_cases h:0<=e/\e<=c.aP
 .simp only[cB h,eP,aU,aT];exact⟨_,rfl,rfl,⟨hc.aY9 ⟨h,ae,λq=>by cases q⟩,rfl⟩,λq=>by cases q⟩
 simp_all[dV]
omit hw in
theorem bIE(e:Int):∃r,SR c e=some r/\aEN c e=some r/\COk r.1/\c.aP<=r.1.aP:=by
 have f:=hc.2.1;unfold SR aEN;rw[mX hc.small.1,FZ hc.small.1,kO,zE hc.small.2,cB hc];simp only[aE,eP,aU,aT,C0,KC];by_cases h:c.aP=e
 .subst h;simp only[bne_self_eq_false,aU,aT];by_cases h:c.aP=100000
  .simp_all
  .have b:(c.aP == 100000)=false:=aj
   have d:=hc.1;have a:bB (c.aP+1)=c.aP+1:=cY;simp only[b,aU,aT,a];exact⟨_,rfl,rfl,hc.later aa,aj⟩
 simp_all
end
def bL8{b:aA}(a:COk b.aI)(k:0<=w/\w<=2)(s:Sub) :
  ∃x y,IK b w s=some (x,y)/\DF s b w=some (y,x)/\∃cl,x=⟨b.Mem,cl,b.aQ,b.iU⟩/\COk cl/\b.aI.aP<=cl.aP:=by
 obtain⟨r,o,n,m,l⟩:=bEG a k s.E;unfold IK DF;rw[o,n];simp only[b9,bX,ED,aE];by_cases j:s.Pc=0
 .simp only[j,beq_self_eq_true,aS];exact⟨_,_,rfl,rfl,_,rfl,a,aa⟩
 .have e:(s.Pc == 0)=false:=aj
  simp only[e,aU,aT];by_cases i:s.Pc=1
  .simp only[i,beq_self_eq_true,aS];cases h:r.2
   .rw[l h];exact⟨_,_,rfl,rfl,_,rfl,a,aa⟩
   .exact⟨_,_,rfl,rfl,_,rfl,m.1,aa⟩
  .have d:(s.Pc == 1)=false:=aj
   simp only[d,aU,aT];by_cases g:s.Pc=2
   .simp only[g,beq_self_eq_true,aS];by_cases q:b.aI.aP=s.E
    .simp only[q,beq_self_eq_true,aS];exact⟨_,_,rfl,rfl,_,rfl,a,aa⟩
    .have f:(b.aI.aP == s.E)=false:=aj
     simp only[f,aU,aT];exact⟨_,_,rfl,rfl,_,rfl,a,aa⟩
   .have c:(s.Pc == 2)=false:=aj
    simp only[c,aU,aT];exact⟨_,_,rfl,rfl,_,rfl,a,aa⟩
def a43{b:aA}(a:COk b.aI)(s:Sub) :
  ∃x y,rC b s=some (x,y)/\sI s b=some (y,x)/\∃cl,x=⟨b.Mem,cl,b.aQ,b.iU⟩/\COk cl/\b.aI.aP<=cl.aP:=by
 obtain⟨k,t,p,i⟩:=bIE a s.E;unfold rC sI nU;rw[t,p,cJ,jM];simp only[b9,bX,pR,pS,nT,aE];by_cases o:s.Pc=0
 .simp only[o,beq_self_eq_true,aS];exact⟨_,_,rfl,rfl,_,rfl,a,aa⟩
 .have e:(s.Pc == 0)=false:=aj
  simp only[e,aU,aT];by_cases n:s.Pc=1
  .simp only[n,beq_self_eq_true,aS,show((1:Int) == 2)=false from rfl,aU,aT];by_cases f:0<=s.B/\s.B<=2
   .obtain⟨r,v,u,g,j⟩:=a9H a f s.E;simp only[cB f,eP,aU,aT,aS,v,u,aE];cases h:r.2
    .exact⟨_,_,rfl,rfl,_,rfl,g,aa⟩
    .by_cases q:bB (s.B+1)=3
     .simp only[q,beq_self_eq_true,aS,eP,aU,aT];exact⟨_,_,rfl,rfl,_,rfl,g,aa⟩
     .have l:(bB (s.B+1) == 3)=false:=aj
      simp only[l,eP,aU,aT];exact⟨_,_,rfl,rfl,_,rfl,g,aa⟩
   .simp only[dV f,oH,aU,aT,aS];exact⟨_,_,rfl,rfl,_,rfl,a,aa⟩
  .have d:(s.Pc == 1)=false:=aj
   simp only[d,aU,aT];by_cases m:s.Pc=2
   .simp only[m,beq_self_eq_true,aS];cases h:k.2
    .simp only[aU,aT];exact⟨_,_,rfl,rfl,_,rfl,i⟩
    .simp only[aS];exact⟨_,_,rfl,rfl,_,rfl,i⟩
   .have c:(s.Pc == 2)=false:=aj
    simp only[c,aU,aT];exact⟨_,_,rfl,rfl,_,rfl,a,aa⟩
def a44:∀(n:Nat) (l:al),l.Nodup->(∀x∈l,0<=x/\x<(n:Int))->l.length<=n
 |0,l,_,h=>by
  cases l with
  |nil=>simp
  |cons a t=>(simp_all;omega)
 |n + 1,l,b,h=>by
  have c:=a44 n (l.erase (n:Int)) (b.erase _) (λx d=>by
   grind)
  grind
theorem YV(a:k<l.length)(x:bP):cN (l.set k x)=cN (l.take k)++(x.Rows++cN (l.drop (k+1))):=by simp_all[List.set_eq_take_append_cons_drop,cN]
theorem V2(a:k<l.length):cN l=cN (l.take k)++(l[k].Rows++cN (l.drop (k+1))):=by grind[aPY,YV]
theorem NJ{l:ax}(a:k<l.length)(x:bD):gY (l.set k x)=gY (l.take k)++(x.bA++gY (l.drop (k+1))):=by simp_all[List.set_eq_take_append_cons_drop,gY]
theorem I1{l:ax}(a:k<l.length):gY l=gY (l.take k)++(l[k].bA++gY (l.drop (k+1))):=by grind[aPY,NJ]
def bM(l:a7)(s:Int):Prop:=∃r∈cN l,j3 r.Handle/\r.Handle % 32=s
instance (l:a7) (s:Int):Decidable (bM l s):=by unfold bM;infer_instance
section
variable {l:a7} (hl:tS l)
include hl
theorem tS.small:(cN l).length<=1073741824/\l.length<=maxLen/\l.length<=1048576/\∀s∈l,s.Rows.length<=24:=by have:=hl.1;have b:=hl.2.1;refine⟨aa,by grind[maxLen],aa,λs a=>?_⟩;have:=aEQ a;omega
theorem HK(s:Int):CZ l s=some (decide (bM l s)):=by
 have g:=hl.small;unfold CZ;rw[CM g.1 g.2.1,aE];have c:=lA (f:=rA s (cN l)) (cN l) (λk=>(k:Int)) (λr=>¬(j3 r.Handle/\r.Handle % 32=s)) (Out.brk ()) (Out.ret true)
  (λk h j=>by
   have i:=hl.2.1;simp only[rA,yE];rw[cX,aZ h,lZ (show k<maxLen by grind[maxLen])];grind[eB,cZ])
  (λk h j=>by
   simp_all[rA,yE,aZ,eB,cZ])
  (by simp[rA])
 have b:loop (rA s (cN l)) 0=_:=c;rw[b];by_cases q:bM l s
 .rw[aO (λa=>by obtain⟨r,d,e⟩:=q;grind),cB q];rfl
 .rw[aM (λr d e=>q ⟨r,d,e⟩),dV q];rfl
theorem QG(s:Int):DC l s=some (decide (bM l s)):=by
 have b:=hl.small;unfold DC;have d:∀(r:eW),uZ r s=some (decide (j3 r.Handle/\r.Handle % 32=s)):=by
  intro r;unfold uZ tX;rw[hO];by_cases q:j3 r.Handle
  .rw[q.mod.1];grind
  .simp[q]
 have c:∀x∈l,J8 x s=some (x.Rows.any λr=>decide (j3 r.Handle/\r.Handle % 32=s)):=by
  intro x e;unfold J8;have:x.Rows.length<=maxLen:=by grind[maxLen]
  rw[show(λa=>uZ a s)=λr=>some (decide (j3 r.Handle/\r.Handle % 32=s)) from funext d,aF8 this];rfl
 rw[aDZ b.2.1 (λx=>x.Rows.any λr=>decide (j3 r.Handle/\r.Handle % 32=s)) _ c];simp only[aE];congr 1;rw[XA,decide_eq_true_iff];simp only[List.any_eq_true,decide_eq_true_eq,bM,cN,aL0];grind
theorem tS.more(g:k<l.length){r:eW}(f:IY r)(hn:¬bM l (r.Handle % 32)):tS (l.set k ⟨l[k].Rows++[r]⟩):=by
 have e:=YV g (⟨l[k].Rows++[r]⟩:bP);have p:(cN (l.set k ⟨l[k].Rows++[r]⟩)).Perm (r::cN l):=by grind[V2]
 have c:∀x∈cN (l.set k ⟨l[k].Rows++[r]⟩),IY x:=λx a=>by
  rcases qM.1 (p.mem_iff.1 a) with rfl|h
  .exact f
  .exact hl.2.2.1 x h
 have b:((cN (l.set k ⟨l[k].Rows++[r]⟩)).map nX).Nodup:=by refine(List.Perm.nodup_iff (p.map nX)).2 ?_;rw[aFG,List.nodup_cons];refine⟨λh=>hn ?_,hl.2.2.2⟩;obtain⟨x,a,e⟩:=aL1.1 h;exact⟨x,a,(hl.2.2.1 x a).1,e⟩
 refine⟨by simpa using hl.1,?_,c,b⟩;have:=a44 24 _ b (λx a=>by
  obtain⟨y,d,rfl⟩:=aL1.1 a;have:=(c y d).1.mod;grind[nX])
 grind
end
def a9I{b:aA}(f:lD b)(D:W0 b)(t:0<=w/\w<=2)(s:Sub) :
  ∃x y,uQ b w s=some (x,y)/\tY s b w=some (y,x)/\∃L,x=⟨b.Mem,b.aI,L,b.iU⟩/\tS L/\∀r∈cN L,ME b r:=by
 have d:=f.1.2.2.1;have l:=f.1.1;have c:w.toNat<b.aQ.length:=by have:=d.1;omega
 have q:idx b.aQ w=some b.aQ[w.toNat]:=eQ t.1 aa;have z:b.Mem.aD.Global.length<=maxLen:=by rw[l.1.2.1];simp[maxLen]
 have v:b.Mem.aD.Own.length<=maxLen:=by rw[l.1.2.2.1];simp[maxLen]
 have g:(fC b.Mem.aD).length<=1073741824:=by have:=D.1.2.2.2.2;omega
 have p:=d.small.2.2.2 _ (dO c);have E:=f.1.2.1.1;unfold uQ tY o9;rw[cJ,eT,lY l.1.1.1 g z v,CN l.1.1.1 g z v,cZ];simp only[b9,bX,aE,rW,AG,o8];by_cases C:s.Pc=0
 .simp only[C,beq_self_eq_true,aS];exact⟨_,_,rfl,rfl,_,rfl,d,f.2⟩
 .have n : (s.Pc == 0) = false:=aj
  simp only[n,aU,aT];by_cases B:s.Pc=1
  .simp only[B,beq_self_eq_true,bne_self_eq_false,aU,aT,aS];by_cases k:0<=s.E/\s.E<=b.aI.aP
   .simp only[cB k,eP,aU,aT];by_cases j:lE b.Mem s.A
    .have hh:=j.1;simp only[cB j,eP,aU,aT,aM hh,hh.mod.1,HK d,QG d,aE];by_cases o:bM b.aQ (s.A % 32)
     .simp only[cB o,aS];exact⟨_,_,rfl,rfl,_,rfl,d,f.2⟩
     .have a:=d.more c (r:=⟨s.A,s.E⟩) ⟨hh,k.1,aj⟩ o;have e:OA b.aQ w s.A s.E=some (b.aQ.set w.toNat ⟨b.aQ[w.toNat].Rows++[⟨s.A,s.E⟩]⟩,true):=by unfold OA DD;rw[HJ d.small.1,jM,W4 d.small.2.2.1 (λs h=>by have:=d.small.2.2.2 s h;omega)];simp only[cB d,cB t,aE,eP,aU,aT,q];rw[EP,HJ a.small.1,cB a];rfl
      simp only[dV o,aU,aT,q,e,aE];rw[EP];refine⟨_,_,rfl,rfl,_,rfl,a,λr u=>?_⟩;rw[YV c] at u;have A:=V2 c;obtain h|h:=j4.1 u
      .exact f.2 r aj
      .obtain h|h:=j4.1 h
       .obtain h|h:=j4.1 h
        .exact f.2 r aj
        .simp at h;subst h;exact⟨j,k.2⟩
       .exact f.2 r aj
    .simp only[dV j,oH,aS];exact⟨_,_,rfl,rfl,_,rfl,d,f.2⟩
   .simp only[dV k,oH,aS];exact⟨_,_,rfl,rfl,_,rfl,d,f.2⟩
  .have m:(s.Pc == 1)=false:=aj
   have i:(s.Pc != 1)=true:=aj
   simp only[m,i,aU,aT,aS];exact⟨_,_,rfl,rfl,_,rfl,d,f.2⟩
def st4(b:al)(a:Nat)(n:Int):al:=(((b.set a 0).set (a+1) 0).set (a+2) 0).set (a+3) n
theorem OZ(b:al)(a:Nat)(n:Int):(st4 b a n).length=b.length:=by simp[st4]
def a1W{b:al}(h:wD b)(a:Nat)(hn:0<=n/\n<=255):wD (st4 b a n):=by
 have c:∀{l:al} (i:Nat) (v:Int),wD l->0<=v/\v<=255->wD (l.set i v):=λi v f e x d=>by
  obtain h|rfl:=nM d
  .exact f x h
  .exact e
 exact c _ _ (c _ _ (c _ _ (c _ _ h aa) aa) aa) hn
theorem bEH(hn:0<=n/\n<=255):((u8 n).toNat:Int)=n:=by grind[u8,UInt8.toNat_ofNat']
theorem a1X{l:al}(i:Nat){v:Int}(c:wD l)(b:0<=v/\v<=255):wD (l.set i v):=λx a=>by
 obtain h|rfl:=nM a
 .exact c x h
 .exact b
def MP(b:al)(a:Nat)(n:Int):al:=(((b.set a (n/16777216)).set (a+1) (n/65536 % 256)).set (a+2) (n/256 % 256)).set (a+3) (n % 256)
theorem YW(b:al)(a:Nat)(n:Int):(MP b a n).length=b.length:=by simp[MP]
def a9J{b:al}(h:wD b)(a:Nat)(hn:0<=n/\n<=4294967295):wD (MP b a n):=by grind[MP,a1X]
def a9K(b:al)(a:Nat)(x y z u:Int):(((b.set (a+3) u).set (a+2) z).set (a+1) y).set a x=(((b.set a x).set (a+1) y).set (a+2) z).set (a+3) u:=by refine List.ext_getElem ae λj d c=>?_;grind
theorem aEU{b:al}{a:Nat}(h:a+4<=b.length)(e:b.length<=100000)(hn:0<=n/\n<=4294967295):jE b (a:Int) 4 n=some (MP b a n):=by
 have st:∀(c:al) (m:Int) (i:Nat),c.length=b.length->0<=m->m<=4294967295->i<4->oA (a:Int) (c,m,(i:Int))=some (.next (c.set (a+i) (m % 256),m/256,(i:Int)-1)):=λc m i g d j f=>by simp only[oA];rw[aM ae,cY (x:=(a:Int)+i),show(a:Int)+i=((a+i:Nat):Int) by omega,UO,aE,zC d,aJN d,cY (x:=m/256),cY (x:=(i:Int)-1),MK]
 unfold jE;rw[show bB (4-1)=((3:Nat):Int) from by grind[cK]];rw[bO (st b n 3 rfl hn.1 hn.2 aa),show((3:Nat):Int)-1=((2:Nat):Int) by rfl,
  bO (st _ _ 2 ae aa aa aa),show((2:Nat):Int)-1=((1:Nat):Int) by rfl,
  bO (st _ _ 1 ae aa aa aa),show((1:Nat):Int)-1=((0:Nat):Int) by rfl,
  bO (st _ _ 0 ae aa aa aa),bR (r:=MP b a n)]
 .rfl
 .simp only[oA];rw[fF];have o:n/256/256=n/65536:=aa
  have l:n/256/256/256=n/16777216:=aa
  have k:n/16777216 % 256=n/16777216:=aa
  simp_all[MP,a9K]
def F5(n:Int):aF:=[u8 (n/16777216),u8 (n/65536),u8 (n/256),u8 n]
theorem T6(hn:0<=n/\n<=4294967295):mH n 4=some (F5 n):=by
 have b:kI 4=some true:=by grind[kI,eT]
 unfold mH;rw[b];have a:IntKind.u64.wrap (bB (8*4))=32:=ai
 have f:aP0 .i64 1 32=4294967296:=ai
 simp only[aE,eP,aU,aT,a,f];rw[qH,PH,dV aa];simp only[zT,aU,aT];rw[PH,show bB (4-1)=((3:Nat):Int) from by grind[cK]];have st:∀(m:Int) (c:aF) (i:Nat),i<c.length->i<4->0<=m->tG (m,c,(i:Int))=some (.next (m/256,c.set i (u8 m),(i:Int)-1)):=λm c i d g e=>by simp only[tG];rw[aM ae,aZ d,aE,show(8:Int)=((8:Nat):Int) from rfl,a7U e aa,cY,MK];rfl
 rw[bO (st n _ 3 ae aa hn.1),show((3:Nat):Int)-1=((2:Nat):Int) by rfl,
  bO (st _ _ 2 ae aa aa),show((2:Nat):Int)-1=((1:Nat):Int) by rfl,
  bO (st _ _ 1 ae aa aa),show((1:Nat):Int)-1=((0:Nat):Int) by rfl,
  bO (st _ _ 0 ae aa aa),bR (r:=F5 n)]
 .rfl
 .simp only[tG];rw[fF];have a:n/256/256=n/65536:=aa
  rw[a,show n/65536/256=n/16777216 by omega];rfl
def W5(hn:0<=n):((u8 n).toNat:Int)=n % 256:=by
 have:u8 n=u8 (n % 256):=by grind[u8]
 grind[bEH]
def aSX{b:al}{a:Nat}(h:a+4<=b.length)(f:b.length<=100000)(hn:0<=n/\n<=4294967295):nA b (a:Int) (F5 n)=some (MP b a n):=by
 have st:∀(c:al) (i:Nat) (v:UInt8),c.length=b.length->i<4->idx (F5 n) (i:Int)=some v->m9 b (a:Int) (F5 n) (c,(i:Int))=some (.next (c.set (a+i) (v.toNat:Int),((i+1:Nat):Int))):=λc i v e g d=>by simp only[m9];rw[b7 e,aM (by grind[F5]),d,aE,cY (x:=(a:Int)+i),show(a:Int)+i=((a+i:Nat):Int) by omega,UO,aE,cY,MK];rfl
 unfold nA;rw[show(0:Int)=((0:Nat):Int) from rfl,bO (st b 0 _ rfl aa rfl),bO (st _ 1 _ ae aa rfl),bO (st _ 2 _ ae aa rfl),bO (st _ 3 _ ae aa rfl),bR (r:=MP b a n)]
 .grind[S8,S7,b7,YW]
 .simp only[m9];rw[b7 ae,aO (by simp[F5])];simp only[W5 hn.1,W5 (show 0<=n/16777216 by omega),W5 (show 0<=n/65536 by omega),W5 (show 0<=n/256 by omega)];rw[show n/16777216 % 256=n/16777216 by omega];rfl
theorem bEI{b:al}{a:Nat}(hn:0<=n/\n<=255):MP b a n=st4 b a n:=by grind[MP,st4]
def QH{b:al}{a:Nat}(h:a+4<=b.length)(c:b.length<=100000)(hn:0<=n/\n<=255):jE b (a:Int) 4 n=some (st4 b a n):=by grind[aEU,bEI]
theorem bOD(hn:0<=n/\n<=255):F5 n=[0,0,0,u8 n]:=by unfold F5;rw[show n/16777216=0 by omega,show n/65536=0 by omega,show n/256=0 by omega];rfl
def aGA(hn:0<=n/\n<=255):mH n 4=some [0,0,0,u8 n]:=by grind[T6,bOD]
def aD2{b:al}{a:Nat}(h:a+4<=b.length)(c:b.length<=100000)(hn:0<=n/\n<=255):nA b (a:Int) [0,0,0,u8 n]=some (st4 b a n):=by rw[<-bOD hn,aSX h c ⟨hn.1,aa⟩,bEI hn]
def bJY{x y z:Int}:∀(a:Nat) (l:al),a+3<=l.length->dM l a [x,y,z]=((l.set a x).set (a+1) y).set (a+2) z
 |0,l,h=>by
  match l,h with
  |_::_::_::t,_=>simp[dM]
 |a + 1,l,h=>by
  match l,h with
  |u::t,h=>
   have b:=bJY (x:=x) (y:=y) (z:=z) a t aj;grind[dM]
def bEJ(p k:Nat)(c:Int):Nat:=(fW ((p:Int)*4+k) c).toNat
def gB(b:al)(p:Nat)(c:Int):Nat->al
 |0=>((b.set (p*64) 171).set (p*64+1) c).set (p*64+2) (dI c)
 |k+1=>st4 (gB b p c k) (bEJ p k c) 1
theorem T7(b:al)(p:Nat)(c:Int):∀k,(gB b p c k).length=b.length
 |0=>by simp[gB]
 |k+1=>by rw[gB,OZ,T7 b p c k]
def aSY{l:al}(i:Nat){v:Int}(c:wD l)(b:0<=v/\v<=255):wD (l.set i v):=λx a=>by
 obtain h|rfl:=nM a
 .exact c x h
 .exact b
def aZA{b:al}(a:wD b)(p:Nat){c:Int}(d:0<=c/\c<=2):∀k,wD (gB b p c k)
 |0=>by have:=pA c;exact aSY _ (aSY _ (aSY _ a aa) aa) aa
 |k+1=>a1W (aZA a p d k) _ aa
def gS(p:Nat)(n:Nat):al:=(List.range n).map λ(i:Nat)=>(p:Int)*4+(i:Int)
theorem aLO(p n:Nat):(gS p n).length=n:=by simp[gS]
def a70(p n:Nat):gS p (n+1)=gS p n++[(p:Int)*4+(n:Int)]:=by simp[gS,List.range_succ]
def aZB(d:p<6)(b:(k:Int)<dI c):fW ((p:Int)*4+k) c=(bEJ p k c:Int)/\bEJ p k c+4<=384:=by
 have g:=pA c;have f:=aAA (c:=c) (i:=(k:Int)) aa b;have a:4<=bL c:=by have:0<=c/\c<=2:=lB.1 aa;obtain e|e|e:=mP this<;>rw[e]<;>decide
 have e:fW ((p:Int)*4+k) c=(p:Int)*64+8+(k:Int)*bL c:=by unfold fW;grind
 grind[bEJ]
def aWU(a:p<6)(b:k<4):wL (p:Int) (k:Int)=some ((p:Int)*4+k)/\VD (p:Int) (k:Int)=some ((p:Int)*4+k):=by grind[cK,wL,A5,cJ,VD,J7,eT]
section
variable {b:al} (hb:b.length=384) {p:Nat} (hp:p<6) {c:Int} (hc:0<=c/\c<=2)
include hb hp hc
theorem aSZ:loop (GC c (p:Int)) ([],0,gB b p c 0)=some (gS p (dI c).toNat,gB b p c (dI c).toNat):=by
 have e:=pA c;refine kL (dI c).toNat (λk=>(gS p k,(k:Int),gB b p c k)) _ (λk d=>?_) ?_
 .have a:=aZB (c:=c) hp (k:=k) aa;simp only[GC,PO,kM,aE];rw[cX,(aWU hp aa).1];simp only[aE,z6,a.1];rw[QH (by grind[T7]) (by grind[T7]) aa];simp only[aE];rw[b7 (by grind[aLO]),cY,a70];rfl
 .simp only[GC,kM,aE];grind
theorem a45:loop (N8 c (p:Int) (dI c)) ([],0,gB b p c 0)=some (gS p (dI c).toNat,gB b p c (dI c).toNat):=by
 have e:=pA c;refine kL (dI c).toNat (λk=>(gS p k,(k:Int),gB b p c k)) _ (λk d=>?_) ?_
 .have a:=aZB (c:=c) hp (k:=k) aa;simp only[N8,WE];rw[cX,(aWU hp aa).2];simp only[aE,FV,a.1];rw[aGA aa,aE,aD2 (by grind[T7]) (by grind[T7]) aa];simp only[aE];rw[b7 (by grind[aLO]),cY,a70];rfl
 .simp only[N8];grind
end
def bEK(hh:HOk h)(g:0<=c/\c<=2) :
  (rV h c=some (h,[])/\M8 h c=some (h,[])) \/
  ∃p,p<6/\cV h p<0/\rV h c=some (⟨gB h.Bytes p c (dI c).toNat,h.Class.set p c⟩,gS p (dI c).toNat)/\M8 h c=some (⟨gB h.Bytes p c (dI c).toNat,h.Class.set p c⟩,gS p (dI c).toNat):=by
 have s:=hh.1;have D:=s.2.1;have a:=s.1;have v:=pA c;have e:=aAD (h:=h) aa aa;have d:∀j (y:j<6),j<h.Class.findIdx (λx=>decide (x = -1))->h.Class[j]≠-1:=λj y w=>aj
 generalize C:h.Class.findIdx (λx=>decide (x = -1))=q at d;have u:q<=6:=aj
 have r:∀k (f:k<q),g7 h c (k:Int)=some (.next ((k+1:Nat):Int)):=λk f=>by
  have:=d k aa f;have n:(h.Class[k] != -1)=true:=aj
  simp only[g7,GB];rw[cX,UO,aE,n,aM rfl,cY];rfl
 have o:∀k (f:k<q),gL h.Class (-1) (k:Int)=some (.next ((k+1:Nat):Int)):=λk f=>by
  have:=d k aa f;have n:((-1:Int) == h.Class[k])=false:=aj
  simp only[gL];rw[cX,UO,aE,n,cY];rfl
 have t:h.Bytes.length<=maxLen:=by grind[maxLen]
 by_cases E:q=6
 .left;have m:loop (g7 h c) 0=some (Out.brk ()):=kL q (λk=>(k:Int)) _ r (by simp_all[g7]);have l:loop (gL h.Class (-1)) 0=some (Out.brk ()):=kL q (λk=>(k:Int)) _ o (by simp_all[gL]);constructor
  .unfold rV;rw[m];rfl
  .unfold M8 pK;rw[l,e,T3 t,lW,cB hh,cB g];rfl
 .right;have b:q<6:=aa
  have z:h.Class[q] = -1:=aj
  refine⟨q,b,by grind[aEP],?_,?_⟩
  .have m:loop (g7 h c) 0=some (Out.ret (⟨gB h.Bytes q c (dI c).toNat,h.Class.set q c⟩,gS q (dI c).toNat)):=kL q (λk=>(k:Int)) _ r (by
    have i:bB ((q:Int)*64)=((q*64:Nat):Int):=by grind[cK]
    have B:bB (((q*64:Nat):Int)+1)=((q*64+1:Nat):Int):=by grind[cK]
    have A:bB (((q*64:Nat):Int)+2)=((q*64+2:Nat):Int):=by grind[cK]
    have n:(h.Class[q] != -1)=false:=aj
    simp only[g7,i,B,A,MK];rw[cX,UO,aE,n,fF,UO,aE,aZ ah,aE,kM,aE,aZ ah,aE];have:=aSZ a b g;simp only[gB] at this;rw[this];rfl)
   unfold rV;rw[m];rfl
  .have l:loop (gL h.Class (-1)) 0=some (Out.ret (q:Int)):=kL q (λk=>(k:Int)) _ o (by
    have n:((-1:Int) == h.Class[q])=true:=by rw[z];rfl
    simp only[gL];rw[cX,UO,aE,n];rfl)
   unfold M8 pK;rw[l,e,T3 t,lW,cB hh,cB g];have i:bB ((q:Int)*64)=((q*64:Nat):Int):=by grind[cK]
   simp only[aE,EC,eP,aU,aT,FA,i,HI,WG,MK];rw[dV aa,fF,UO,aE,PH,bJY _ _ aa];have:=a45 a b g;simp only[gB] at this;rw[this];rfl
def LOk.count{l:aD}(h:LOk l):(fC l).length<=24:=a44 24 _ h.2.2.2.2 (λx a=>by have:=h.2.2.2.1 x a;omega)
def a9L(b:gX m.Heap)(a:0<=bH m.Heap s):∃h,zJ m s=some h/\N9 m s=some h:=by
 unfold zJ N9 NW WH uN DA;rw[tP b a,OX b a,aE,aE,cJ,cJ,CL,eT];have c:=(xV a).1;simp only[cB c,aE,eP,aU,aT];by_cases q:1<=kN m.Heap s/\kN m.Heap s<=6
 .simp only[cB q,eP,aU,aT];exact⟨_,rfl,rfl⟩
 .simp only[dV q,oH,aS];exact⟨_,rfl,rfl⟩
theorem aG7{l:ax}(a:k<l.length)(t:al):(gY (l.set k ⟨l[k].bA++t⟩)).length=(gY l).length+t.length:=by grind[NJ,I1]
def bt(b:al)(i:Nat):Int:=b.getD i 0
theorem a46{b:al}(h:i<b.length):b[i]=bt b i:=by grind[bt]
def ld4{b:al}{a:Nat}(h:a+4<=b.length):ld b a 4=((bt b a*256+bt b (a+1))*256+bt b (a+2))*256+bt b (a+3):=by grind[ld,EU,ldF,a46]
theorem T8{b:al}{v:Int}(a:i<b.length):bt (b.set i v) j=if j=i then v else bt b j:=by grind[bt]
def QI{b:al}{a:Nat}(h:a+4<=b.length)(j:Nat):bt (st4 b a n) j=if j=a+3 then n else if a<=j/\j<a+3 then 0 else bt b j:=by unfold st4;rw[T8 ah,T8 ah,T8 ah,T8 aa];omega
theorem a47{b:al}{a:Nat}(h:a+4<=b.length):ld (st4 b a n) a 4=n:=by simp_all[ld4,OZ,QI]
theorem SP{b c:al}{a:Nat}(h:a+4<=b.length)(e:c.length=b.length)(d:∀j,a<=j->j<a+4->bt c j=bt b j):ld c a 4=ld b a 4:=by simp_all[ld4]
def aG8(h:Heap)(p:Nat):Prop:=
 if cV h p<0 then ∀k,k<64->bt h.Bytes (p*64+k)=0
 else((bt h.Bytes (p*64)=171/\bt h.Bytes (p*64+1)=cV h p/\bt h.Bytes (p*64+2)=dI (cV h p))/\(∀k,3<=k->k<8->bt h.Bytes (p*64+k)=0)/\∀i,i<(dI (cV h p)).toNat->1<=ld h.Bytes (p*64+8+i*(bL (cV h p)).toNat) 4/\ld h.Bytes (p*64+8+i*(bL (cV h p)).toNat) 4<=7)
theorem aWV(a:gX h)(b:p<6)(c:k<64):(iN h p).getD k 0=bt h.Bytes (p*64+k):=by rw[<-aWR a b c,a46 (by have:=a.1;omega)]
theorem aJR{l:al}:x∈l↔∃k,k<l.length/\l.getD k 0=x:=by
 rw[aFI];constructor
 .rintro⟨k,a,e⟩;exact⟨k,a,aj⟩
 grind
def MF(a:gX h)(b:p<6):qV h p↔aG8 h p:=by
 unfold qV aG8;have f:=YQ a b;split
 .constructor
  .intro q k c;rw[<-aWV a b c];exact q _ (aJR.2 ⟨k,aa,rfl⟩)
  grind[aJR,aWV]
 .rw[aWV a b aa,aWV a b aa,aWV a b aa];have e:(∀x∈((iN h p).drop 3).take 5,x=0)↔∀k,3<=k->k<8->bt h.Bytes (p*64+k)=0:=by
   have g:∀j,j<5->(((iN h p).drop 3).take 5).getD j 0=bt h.Bytes (p*64+(3+j)):=λj i=>by rw[<-aWV a b aa,MQ,MQ,aLZ,aM i,List.getElem?_drop]
   constructor
   .intro q k m l;have:=q _ (aJR.2 ⟨k-3,aj,rfl⟩);grind
   .intro q x d;obtain⟨k,c,rfl⟩:=aJR.1 d;simp[f] at c;rw[g _ c];exact q _ aa aa
  rw[e];rfl
def aG8.same{d:Heap}(g:p<6)(e:gX h)(l:d.Bytes.length=h.Bytes.length)(n:cV d p=cV h p)(a:∀k,k<64->bt d.Bytes (p*64+k)=bt h.Bytes (p*64+k))(q:aG8 h p):aG8 d p:=by
 have w:=e.1;unfold aG8 at q ⊢;rw[n];split
 .grind
 .rename_i f;rw[aO f] at q;obtain⟨⟨D,C,B⟩,A,z⟩:=q;have o:=a 0 aa;have y:=a 1 aa;have x:=a 2 aa;simp only[aFJ] at o;refine⟨⟨aa,aa,aa⟩,λk s r=>aj,λi m=>?_⟩;have v:=wE e g (c:=cV h p) rfl m;rw[SP (b:=h.Bytes) aa l λj u t=>by
   have:=a (j-p*64) aa;grind]
  grind
theorem oT(c:0<=bH h s):∃p i,p<6/\i<(dI (cV h p)).toNat/\s=(p:Int)*4+i/\bH h s=cV h p/\(fW s (bH h s)).toNat=p*64+8+i*(bL (cV h p)).toNat/\(s/4).toNat=p:=by obtain⟨d,e,a⟩:=xV c;have b:=pA (cV h (s/4).toNat);refine⟨(s/4).toNat,(s % 4).toNat,aa,aa,aa,a,?_,rfl⟩;rw[a];unfold fW;rw[aM ⟨d,aa⟩];grind[bL]
def aAE(e:i<(dI c).toNat)(d:j<(dI c).toNat)(hn:i≠j):i*(bL c).toNat+4<=j*(bL c).toNat\/j*(bL c).toNat+4<=i*(bL c).toNat:=by
 have b:0<=c/\c<=2:=lB.1 aa;have a:12<=(bL c).toNat:=by obtain rfl|rfl|rfl:=mP b<;>decide
 obtain q|q:=Nat.lt_or_gt_of_ne hn
 .left;have:(i+1)*(bL c).toNat<=j*(bL c).toNat:=xX _ q;rw[pP] at this;omega
 .right;have:(j+1)*(bL c).toNat<=i*(bL c).toNat:=xX _ q;rw[pP] at this;omega
def HOk.bEL(hh:HOk h){g:Int}(M:0<=bH h s)(W:1<=g/\g<=7) :
  HOk ⟨st4 h.Bytes (fW s (bH h s)).toNat g,h.Class⟩/\∀t,0<=bH h t->kN ⟨st4 h.Bytes (fW s (bH h s)).toNat g,h.Class⟩ t=if t=s then g else kN h t:=by
 obtain⟨c,K⟩:=hh;have w:=c.1;have f:gX ⟨st4 h.Bytes (fW s (bH h s)).toNat g,h.Class⟩:=⟨by grind[OZ],c.2.1,a1W c.2.2.1 _ aa,c.2.2.2⟩;obtain⟨p,i,x,r,Y,ec,N,Z⟩:=oT M;have V:=wE c x rfl r;have X:=pA (cV h p);refine⟨⟨f,λq m=>?_⟩,λt J=>?_⟩
 .rw[MF f m];have a:=(MF c m).1 (K q m);by_cases e:q=p
  .subst e;have v:0<dI (cV h q):=aa
   have o:¬cV h q<0:=aa
   unfold aG8 at a ⊢;have d:cV ⟨st4 h.Bytes (fW s (bH h s)).toNat g,h.Class⟩ q=cV h q:=rfl;rw[d];rw[aO o] at a ⊢;obtain⟨⟨a1,a2,a3⟩,a4,a5⟩:=a;have u:∀k,k<8->bt (st4 h.Bytes (fW s (bH h s)).toNat g) (q*64+k)=bt h.Bytes (q*64+k):=λk L=>by rw[QI aa,qU,qU]
   have R:=u 0 aa;have b1:=u 1 aa;have b2:=u 2 aa;simp only[aFJ] at R;refine⟨⟨aj,aj,aj⟩,λk T S=>aj,λj z=>?_⟩;have A:=wE c x rfl z;by_cases O:j=i
   .grind[a47]
   .rw[SP (b:=h.Bytes) aa (by grind[OZ]) λk I H=>?_]
    .grind
    .simp only[N];have:=aAE r z (λq=>O q.symm);rw[QI aa,qU,qU]
  .refine aG8.same m c (by grind[OZ]) rfl (λk L=>?_) a;rw[QI aa,qU,qU]
 .have Q:bH ⟨st4 h.Bytes (fW s (bH h s)).toNat g,h.Class⟩ t=bH h t:=rfl;unfold kN;rw[Q];by_cases e:t=s
  .subst e;rw[aM rfl];grind[a47]
  .rw[aO e];obtain⟨y,U,n,l,D,G,F,E⟩:=oT J;have B:=wE c n rfl l;rw[SP (b:=h.Bytes) aa (by grind[OZ]) λk I H=>?_];simp only;by_cases P:y=p
   .subst P;have:=aAE r l (λq=>e aa);rw[QI aa,qU,qU]
   .have C:=pA (cV h y);rw[QI aa,qU,qU]
def aPS(b:p<6)(d:(k:Int)<dI c):bEJ p k c=p*64+8+k*(bL c).toNat/\8+k*(bL c).toNat+4<=64:=by have g:0<=c/\c<=2:=lB.1 aa;have f:=aZB (c:=c) b d;have a:=pA c;have e:=f.1;unfold fW at e;rw[aM aa] at e;grind[bL,dI]
def bEM{b:al}{p:Nat}{c:Int}(l:b.length=384)(e:p<6)(n:0<=c/\c<=2):∀k:Nat,(k:Int)<=dI c->∀j,(j<p*64\/p*64+64<=j->bt (gB b p c k) j=bt b j)/\(3<=j->j<8->bt (gB b p c k) (p*64+j)=bt b (p*64+j))/\bt (gB b p c k) (p*64)=171/\bt (gB b p c k) (p*64+1)=c/\bt (gB b p c k) (p*64+2)=dI c
 |0,m,j=>by
  have f:∀i,bt (gB b p c 0) i=if i=p*64+2 then dI c else if i=p*64+1 then c else if i=p*64 then 171 else bt b i:=λi=>by grind[gB,T8]
  grind
 |k + 1,m,j=>by
  have a:=bEM l e n k aa;have d:=aPS (c:=c) e (by omega:(k:Int)<dI c);have g:=T7 b p c k;unfold gB;refine⟨λh=>?_,λq o=>?_,?_,?_,?_⟩
  .rw[QI aa,qU,qU];grind
  .rw[QI aa,qU,qU];grind
  .rw[QI aa,qU,qU];exact(a j).2.2.1
  .rw[QI aa,qU,qU];exact(a j).2.2.2.1
  .rw[QI aa,qU,qU];exact(a j).2.2.2.2
def bEN{b:al}{p:Nat}{c:Int}(g:b.length=384)(a:p<6):∀k:Nat,(k:Int)<=dI c->∀i,i<k->ld (gB b p c k) (p*64+8+i*(bL c).toNat) 4=1
 |0,_,i,h=>absurd h aa
 |k + 1,o,i,h=>by
  have f:=T7 b p c k;have n:=aPS (c:=c) a (by omega:(k:Int)<dI c);unfold gB;by_cases e:i=k
  .grind[a47]
  .have d:=aPS (c:=c) a (by omega:(i:Int)<dI c);have q:=aAE (c:=c) (i:=i) (j:=k) aa aa e;rw[SP (b:=gB b p c k) aa (by rw[OZ]) λj m l=>by rw[QI aa,qU,qU]];exact bEN g a k aa i aa
def aD3(a:gX h){B:al}{q:Nat}(b:q<6):cV ⟨B,h.Class.set p c⟩ q=if q=p then c else cV h q:=by have d:=a.2.1;grind[cV]
def HOk.bJZ(hh:HOk h)(r:p<6)(w:cV h p<0)(E:0<=c/\c<=2) :
  HOk ⟨gB h.Bytes p c (dI c).toNat,h.Class.set p c⟩/\(∀t,(t/4).toNat≠p->bH ⟨gB h.Bytes p c (dI c).toNat,h.Class.set p c⟩ t=bH h t)/\(∀t,0<=bH h t->(t/4).toNat≠p/\kN ⟨gB h.Bytes p c (dI c).toNat,h.Class.set p c⟩ t=kN h t) /\
   ∀i,i<(dI c).toNat->bH ⟨gB h.Bytes p c (dI c).toNat,h.Class.set p c⟩ ((p:Int)*4+i)=c/\kN ⟨gB h.Bytes p c (dI c).toNat,h.Class.set p c⟩ ((p:Int)*4+i)=1:=by
 obtain⟨f,y⟩:=hh;have d:=f.1;have G:=pA c;have j:((dI c).toNat:Int)<=dI c:=aa
 have u:=bEM d r E (dI c).toNat j;have l:=T7 h.Bytes p c (dI c).toNat;have n:gX ⟨gB h.Bytes p c (dI c).toNat,h.Class.set p c⟩:=⟨by simp only[l];exact d,by simp only[bI];exact f.2.1,aZA f.2.2.1 p E _,λx L=>by
  obtain q|rfl:=nM L
  .exact f.2.2.2 x q
  .omega⟩
 have g:∀t:Int,(t/4).toNat≠p->bH ⟨gB h.Bytes p c (dI c).toNat,h.Class.set p c⟩ t=bH h t:=λt s=>by
  unfold bH;by_cases q:0<=t/\t<=23
  .rw[aD3 f aa,aO s]
  .rw[aO (λz=>q z.1),aO (λz=>q z.1)]
 refine⟨⟨n,λq m=>?_⟩,g,λt s=>?_,λi D=>?_⟩
 .rw[MF n m];have a:=(MF f m).1 (y q m);by_cases e:q=p
  .subst e;unfold aG8 at a ⊢;rw[aM w] at a;rw[aD3 f m,aM rfl,qU];refine⟨(u 0).2.2,λk K J=>?_,λi D=>?_⟩
   .simp only;rw[(u k).2.1 K J];exact a k aa
   .simp only;rw[bEN d r _ j i D];omega
  .refine aG8.same m f (by simp only[l]) (by rw[aD3 f m,aO e]) (λk T=>?_) a;exact(u _).1 aa
 .obtain⟨P,S,v,A,H,C,I,B⟩:=oT s;have o:(t/4).toNat≠p:=λz=>by rw[C,<-B,z] at s;omega
  refine⟨o,?_⟩;have F:=wE f v rfl A;unfold kN;rw[g t o,SP (b:=h.Bytes) aa (by simp only[l]) λk R Q=>(u k).1 aa]
 .have O:((p:Int)*4+i)/4=p:=aa
  have N:((p:Int)*4+i) % 4=i:=aa
  have ec:bH ⟨gB h.Bytes p c (dI c).toNat,h.Class.set p c⟩ ((p:Int)*4+i)=c:=by unfold bH;rw[O,N,MK,aD3 f r,aM rfl,aM aa]
  refine⟨ec,?_⟩;unfold kN;rw[ec];have M:=aPS (c:=c) r (by omega:(i:Int)<dI c);have:(fW ((p:Int)*4+i) c).toNat=p*64+8+i*(bL c).toNat:=M.1;rw[this];exact bEN d r _ j i D
def zF(m m':Mem)(k:Int):Prop:=lX m'/\∀s,fX m s=3->s≠k->fX m' s=3/\kN m'.Heap s=kN m.Heap s/\bH m'.Heap s=bH m.Heap s
theorem zF.refl(h:lX m)(k:Int):zF m m k:=⟨h,λ_ h _=>⟨h,rfl,rfl⟩⟩
def zF.live{m':Mem}{k h:Int}(q:zF m m' k)(c:lE m h)(hn:h % 32≠k):lE m' h:=by obtain⟨e,d,f⟩:=c;obtain⟨a,b,_⟩:=q.2 _ d hn;exact⟨e,a,aa⟩
def V3{l:ax}(a:k<l.length){t:bD}:fY (l.set k t) j=if j=k then t.bA else fY l j:=by grind[fY]
def aWW{l:ax}(b:k<l.length){t:bD}(a:t.bA.Sublist l[k].bA):(gY (l.set k t)).Sublist (gY l):=by grind[NJ,I1]
theorem MG{l:ax}(a:k<l.length):s∈gY (l.set k ⟨l[k].bA++xs⟩)↔s∈gY l\/s∈xs:=by grind[NJ,I1]
theorem aD4{l:ax}(a:k<l.length){r q:al}(h:(q++(gY l++r)).Nodup)(b:xs.Nodup)(d:∀x∈xs,x∉q++(gY l++r)):(q++(gY (l.set k ⟨l[k].bA++xs⟩)++r)).Nodup:=by
 have c:(q++(gY (l.set k ⟨l[k].bA++xs⟩)++r)).Perm (xs++(q++(gY l++r))):=by rw[NJ a,I1 a];grind
 grind
def aJS{m':Mem}(c:bH m'.Heap s=bH m.Heap s)(b:kN m'.Heap s=kN m.Heap s)(a:s∈fC m'.aD↔s∈fC m.aD):fX m' s=fX m s:=by simp_all[fX]
theorem jN:fX m s=3↔0<=bH m.Heap s/\s∉fC m.aD/\kN m.Heap s<=6:=by unfold fX;grind
section
variable {m:Mem} (hm:lX m)
include hm
theorem lX.bL9(q:k<9){t:bD}(h:t.bA.Sublist (fY m.aD.Own k)):zF m ⟨m.Heap,⟨m.aD.Global,m.aD.Own.set k t⟩⟩ (-1):=by
 obtain⟨⟨hh,p,r,u,l,n⟩,o,f⟩:=hm;have b:k<m.aD.Own.length:=aa
 have c:t.bA.Sublist m.aD.Own[k].bA:=by grind[eO]
 have a:(fC ⟨m.aD.Global,m.aD.Own.set k t⟩).Sublist (fC m.aD):=(List.Sublist.refl _).append (aWW b c);refine⟨⟨⟨hh,p,aj,λs i=>?_,λx d=>l x (a.subset d),a.nodup n⟩,o,λj g=>?_⟩,λs i _=>⟨?_,rfl,rfl⟩⟩
 .grind
 .unfold MO;simp only[V3 b];split
  .rename_i e;subst e;exact λx d=>f j g x (h.subset d)
  .exact f j g
 grind[jN]
theorem lX.a9M(r:k<3){t:bD}(h:t.bA.Sublist (fY m.aD.Global k)):zF m ⟨m.Heap,⟨m.aD.Global.set k t,m.aD.Own⟩⟩ (-1):=by
 obtain⟨⟨hh,u,o,p,i,n⟩,g,l⟩:=hm;have b:k<m.aD.Global.length:=aa
 have c:t.bA.Sublist m.aD.Global[k].bA:=by grind[eO]
 have a:(fC ⟨m.aD.Global.set k t,m.aD.Own⟩).Sublist (fC m.aD):=(aWW b c).append (List.Sublist.refl _);refine⟨⟨⟨hh,aj,o,p,λx d=>i x (a.subset d),a.nodup n⟩,λj f=>?_,l⟩,λs q _=>⟨?_,rfl,rfl⟩⟩
 .unfold WY;simp only[V3 b];split
  .rename_i e;subst e;exact λx d=>g j f x (h.subset d)
  .exact g j f
 grind[jN]
theorem lX.bIF(v:k<9)(u:(fY m.aD.Own k).length+xs.length<=2)(b:xs.Nodup)(g:MC m.Heap xs ((k % 3:Nat):Int))(w:∀x∈xs,x∉fC m.aD)(a:k<m.aD.Own.length) :
  lX ⟨m.Heap,⟨m.aD.Global,m.aD.Own.set k ⟨m.aD.Own[k].bA++xs⟩⟩⟩/\∀s,s∉xs->fX m s=3->fX ⟨m.Heap,⟨m.aD.Global,m.aD.Own.set k ⟨m.aD.Own[k].bA++xs⟩⟩⟩ s=3:=by
 obtain⟨⟨hh,i,y,z,p,t⟩,o,d⟩:=hm;have c:∀s,s∈fC ⟨m.aD.Global,m.aD.Own.set k ⟨m.aD.Own[k].bA++xs⟩⟩↔s∈fC m.aD\/s∈xs:=λs=>by simp[fC,MG,or_assoc]
 have l:∀x∈xs,0<=x/\x<=23:=λx h=>by have:=(g x h).1;exact(xV (h:=m.Heap) (s:=x) aa).1
 refine⟨⟨⟨hh,i,aj,λs n=>?_,λx b=>?_,?_⟩,o,λj f=>?_⟩,λs n i=>?_⟩
 .grind[eO]
 .grind
 .have:=aD4 (q:=gY m.aD.Global) (r:=[]) a (by grind[fC]) b (by grind[fC]);grind[fC]
 .unfold MO;simp only[V3 a];split
  .rename_i e;subst e;intro x b;obtain q|q:=j4.1 b
   .rw[eO a] at q;exact d j f x q
   .exact g x q
  .exact d j f
 grind[jN]
theorem lX.aS0(w:k<3)(b:xs.Nodup)(g:MC m.Heap xs (k:Int))(y:∀x∈xs,x∉fC m.aD)(a:k<m.aD.Global.length) :
  lX ⟨m.Heap,⟨m.aD.Global.set k ⟨m.aD.Global[k].bA++xs⟩,m.aD.Own⟩⟩/\∀s,s∉xs->fX m s=3->fX ⟨m.Heap,⟨m.aD.Global.set k ⟨m.aD.Global[k].bA++xs⟩,m.aD.Own⟩⟩ s=3:=by
 obtain⟨⟨hh,o,n,p,u,v⟩,f,l⟩:=hm;have c:∀s,s∈fC ⟨m.aD.Global.set k ⟨m.aD.Global[k].bA++xs⟩,m.aD.Own⟩↔s∈fC m.aD\/s∈xs:=λs=>by simp[fC,MG,or_right_comm]
 have i:∀x∈xs,0<=x/\x<=23:=λx h=>by have:=(g x h).1;exact(xV (h:=m.Heap) (s:=x) aa).1
 refine⟨⟨⟨hh,aj,n,p,λx b=>?_,?_⟩,λj d=>?_,l⟩,λs t o=>?_⟩
 .grind
 .have:=aD4 (q:=[]) (r:=gY m.aD.Own) a (by grind[fC]) b (by grind[fC]);grind[fC]
 .unfold WY;simp only[V3 a];split
  .rename_i e;subst e;intro x b;obtain q|q:=j4.1 b
   .rw[eO a] at q;exact f j d x q
   .exact g x q
  .exact f j d
 grind[jN]
theorem lX.qW(b:x∈fC m.aD):0<=bH m.Heap x/\kN m.Heap x<=6:=by
 obtain⟨⟨hh,j,i,n,f,g⟩,e,c⟩:=hm;have a:∀(l:ax),x∈gY l->∃k,k<l.length/\x∈fY l k:=λl h=>by grind[aES,aFI,eO]
 obtain q|q:=j4.1 b
 .obtain⟨k,d,h⟩:=a _ q;have:=e k aa x h;omega
 .obtain⟨k,d,h⟩:=a _ q;have:=c k aa x h;omega
theorem lX.heap{c:Heap}(hh:HOk c)(g:∀x∈fC m.aD,bH c x=bH m.Heap x/\kN c x=kN m.Heap x):lX ⟨c,m.aD⟩:=by
 obtain⟨⟨_,j⟩,n,i⟩:=hm;have d:∀(l:ax) k x,x∈fY l k->x∈gY l:=λl k x h=>by grind[fY,aES]
 refine⟨⟨hh,j⟩,λk f x e=>?_,λk f x e=>?_⟩
 .obtain⟨a,b⟩:=g x (List.mem_append_left _ (d _ k x e));show bH c x=_/\kN c x<=6;rw[a,b];exact n k f x e
 .obtain⟨a,b⟩:=g x (List.mem_append_right _ (d _ k x e));show bH c x=_/\kN c x<=6;rw[a,b];exact i k f x e
theorem lX.bP3{g:Int}(h:fX m s=3)(j:1<=g/\g<=7):zF m ⟨⟨st4 m.Heap.Bytes (fW s (bH m.Heap s)).toNat g,m.Heap.Class⟩,m.aD⟩ s/\kN ⟨st4 m.Heap.Bytes (fW s (bH m.Heap s)).toNat g,m.Heap.Class⟩ s=g:=by
 have c:=jN.1 h;obtain⟨a,b⟩:=HOk.bEL hm.1.1 c.1 j;refine⟨⟨lX.heap hm a λx f=>⟨rfl,?_⟩,λt i k=>?_⟩,aj⟩
 .rw[b x (lX.qW hm f).1,aO (show ¬x=s from λe=>c.2.1 (e ▸ f))]
 .have d:=jN.1 i;have e:kN ⟨st4 m.Heap.Bytes (fW s (bH m.Heap s)).toNat g,m.Heap.Class⟩ t=kN m.Heap t:=aj
  exact⟨jN.2 ⟨d.1,d.2.1,aj⟩,e,rfl⟩
theorem lX.bOE(t:p<6)(l:cV m.Heap p<0)(v:0<=c/\c<=2)(j:∀x∈xs,∃i,i<(dI c).toNat/\x=(p:Int)*4+(i:Nat))(r:xs.Nodup)(o:c.toNat<m.aD.Global.length) :
  zF m ⟨⟨gB m.Heap.Bytes p c (dI c).toNat,m.Heap.Class.set p c⟩,⟨m.aD.Global.set c.toNat ⟨m.aD.Global[c.toNat].bA++xs⟩,m.aD.Own⟩⟩ (-1):=by
 obtain⟨a,b,d,e⟩:=HOk.bJZ hm.1.1 t l v;have w:lX ⟨⟨gB m.Heap.Bytes p c (dI c).toNat,m.Heap.Class.set p c⟩,m.aD⟩:=lX.heap hm a λx r=>by grind[lX.qW]
 have n:∀x∈xs,¬0<=bH m.Heap x:=λx h q=>by obtain⟨i,u,rfl⟩:=j x h;have z:=pA c;exact(d _ q).1 aa
 obtain⟨f,g⟩:=lX.aS0 w (k:=c.toNat) aa r (λx h=>by
  obtain⟨i,u,rfl⟩:=j x h
  (simp_all;omega)) (λx h q=>n x h (lX.qW hm q).1) o
 refine⟨f,λs y _=>?_⟩;grind[jN]
end
theorem bEO{n:Nat}(h:x∈gS p n):∃i,i<n/\x=(p:Int)*4+(i:Nat):=by grind[gS]
theorem a1Y(p n:Nat):(gS p n).Nodup:=by grind[gS,List.nodup_range]
def a1Z(d:lX m)(f:0<=c/\c<=2) :
  ∃m' s,CX m c=some (m',s)/\RO m c=some (m',s)/\IF m'/\(0<=s->gX m'.Heap/\0<=bH m'.Heap s)/\zF m m' (-1):=by
 have e:=d.1.2;have o:=e.count;have b:=d.1.1.1;have t:=e.aMI aa;have w:=pA c;have v:0<dI c:=lB.2 f;have q:=zD m.aD;have g:∀s∈m.aD.Global,s.bA.length<=24:=λs h=>by have:=PI h;omega
 have u:∀s∈m.aD.Own,s.bA.length<=24:=λs h=>by have:=PI h;omega
 have F:=e.1;have E:=e.2.1;have a:=W3 (l:=m.aD) aa aa (λs h=>aj) (λs h=>aj);unfold CX RO;obtain⟨k,j⟩|⟨p,D,r,k,j⟩:=bEK d.1.1 f
 .rw[k,j,a];have H:=b.1;have G:=b.2.1;exact⟨_,_,rfl,rfl,⟨aj,aj,aj,aj,aj⟩,λh=>absurd h aa,zF.refl d _⟩
 .rw[k,j,a];simp only[aE,PX,PW,GD,aLO];have B:(((dI c).toNat:Int) == 0)=false:=aj
  have C:c.toNat<m.aD.Global.length:=aa
  have y:=g _ (dO C);have i:idx m.aD.Global c=some m.aD.Global[c.toNat]:=eQ f.1 aa;have A:idx (gS p (dI c).toNat) 0=some ((p:Int)*4):=by grind[aZ,gS]
  have n:(List.drop (1:Int).toNat (List.take (dI c).toNat (gS p (dI c).toNat))).length<=4:=aj
  simp only[B,aU,aT,i,aE,A];rw[PH,PH];have z:cV ⟨gB m.Heap.Bytes p c (dI c).toNat,m.Heap.Class.set p c⟩ p=c:=by grind[cV]
  refine⟨_,_,rfl,rfl,⟨by simp only[T7];have:=b.1;omega,by simp only[bI];have:=b.2.1;omega,aj,aj,?_⟩,λ_=>⟨⟨by simp only[T7];exact b.1,by simp only[bI];exact b.2.1,aZA b.2.2.1 p f _,λx i=>?_⟩,?_⟩,?_⟩
  .grind[zD,aG7]
  .obtain h|rfl:=nM i
   .exact b.2.2.2 x h
   .omega
  .unfold bH
   (simp_all;omega)
  grind[lX.bOE,bEO,a1Y]
def a48(n:Int):∃c,CU n=some c/\RL n=some c/\(c = -1\/(0<=c/\c<=2)):=by
 have l:∀k,0<=k/\k<=2->iH n k=some (if 1<=n/\n<=gQ k then .stop (Out.ret k) else .next (k+1)):=λk a=>by simp only[iH];rw[cX,qI,aE,cJ,aE,cY];grind
 have j:∀k,0<=k/\k<=2->lU n k=some (if 1<=n/\n<=gQ k then .stop (Out.ret k) else .next (k+1)):=λk a=>by simp only[lU,GI];rw[cX,T2,aE,cY];grind
 have st:∀k,0<=k/\k<=2->1<=n/\n<=gQ k->loop (iH n) k=some (Out.ret k)/\loop (lU n) k=some (Out.ret k):=λk a h=>
  ⟨bR aj,bR aj⟩
 have nx:∀k,0<=k/\k<=2->¬(1<=n/\n<=gQ k)->loop (iH n) k=loop (iH n) (k+1)/\loop (lU n) k=loop (lU n) (k+1):=λk a h=>
  ⟨bO aj,bO aj⟩
 unfold CU RL;by_cases e:1<=n/\n<=gQ 0
 .have:=st 0 aa e;rw[this.1,this.2];exact⟨_,rfl,rfl,.inr aa⟩
 .have i:=nx 0 aa e;rw[i.1,i.2,show(0:Int)+1=1 from rfl];by_cases d:1<=n/\n<=gQ 1
  .have:=st 1 aa d;rw[this.1,this.2];exact⟨_,rfl,rfl,.inr aa⟩
  .have g:=nx 1 aa d;rw[g.1,g.2,show(1:Int)+1=2 from rfl];by_cases b:1<=n/\n<=gQ 2
   .have:=st 2 aa b;rw[this.1,this.2];exact⟨_,rfl,rfl,.inr aa⟩
   .have f:=nx 2 aa b;rw[f.1,f.2,show(2:Int)+1=3 from rfl,bR (body:=iH n) (r:=Out.brk ()) (by simp[iH]),bR (body:=lU n) (r:=Out.brk ()) (by simp[lU])];exact⟨_,rfl,rfl,.inl rfl⟩
def bEP{s:bD}(b:s.bA.length<=1048576):∃t x,tD s=some (t,x)/\BL s=some (x,t)/\t.bA.length<=s.bA.length/\(0<=x->x∈s.bA)/\t.bA.Sublist s.bA:=by
 unfold tD BL NU;rw[cY];by_cases q:s.bA.length=0
 .rw[aM aj,cX];grind
 .have a:idx s.bA ((s.bA.length:Int)-1)=some (s.bA[s.bA.length-1]' aa):=by grind[aZ]
  rw[aO aj,qH,PH,a];simp only[aE];grind[b7]
def YX(a:0<=w/\w<=2)(b:0<=c/\c<=2):A3 w c=some (w*3+c)/\S6 w c=some (w*3+c):=by grind[cK,A3,E0,cJ,S6,N5,jM,lW]
theorem aS1{l:ax}(b:k<l.length){t:bD}(a:t.bA.length<=l[k].bA.length):(gY (l.set k t)).length<=(gY l).length:=by grind[NJ,I1]
section
variable {m:Mem} (hm:lX m)
include hm
theorem lX.facts:(fC m.aD).length<=24/\m.aD.Global.length=3/\m.aD.Own.length=9/\m.Heap.Bytes.length=384/\m.Heap.Class.length=6/\IF m/\kC m.aD=some m.aD/\sD m.aD=some true /\
  (∀s∈m.aD.Global,s.bA.length<=24)/\(∀s∈m.aD.Own,s.bA.length<=24):=by
 have d:=hm.1.2;have a:=d.count;have e:=zD m.aD;have c:∀s∈m.aD.Global,s.bA.length<=24:=λs h=>by have:=PI h;omega
 have b:∀s∈m.aD.Own,s.bA.length<=24:=λs h=>by have:=PI h;omega
 have g:=d.1;have f:=d.2.1;have j:=hm.1.1.1.1;have i:=hm.1.1.1.2.1;refine⟨a,g,f,j,i,⟨aa,aa,aa,aa,aa⟩,W3 aa aa (λs h=>aj) (λs h=>aj),by grind[aB5],c,b⟩
theorem aS2(o:0<=w/\w<=2)(q:0<=c/\c<=2) :
  ∃l t x,idx m.aD.Own (w*3+c)=some l/\tD l=some (t,x)/\RM m.aD w c=some (⟨m.aD.Global,m.aD.Own.set (w*3+c).toNat t⟩,x) /\
   IF ⟨m.Heap,⟨m.aD.Global,m.aD.Own.set (w*3+c).toNat t⟩⟩/\(0<=x->0<=bH m.Heap x)/\zF m ⟨m.Heap,⟨m.aD.Global,m.aD.Own.set (w*3+c).toNat t⟩⟩ (-1):=by
 obtain⟨g,y,v,A,z,i,d,b,j,a⟩:=lX.facts hm;have p:(w*3+c).toNat<m.aD.Own.length:=aa
 have n:idx m.aD.Own (w*3+c)=some m.aD.Own[(w*3+c).toNat]:=eQ aa aa;have k:=a _ (dO p);obtain⟨t,x,r,C,u,f,e⟩:=bEP (s:=m.aD.Own[(w*3+c).toNat]) aa;have h:=zD m.aD;refine⟨_,t,x,n,r,?_,⟨aj,aj,aj,aj,?_⟩,λB=>?_,lX.bL9 hm aa (by grind[eO])⟩
 .unfold RM GK;rw[d,(YX o q).2,b];grind
 .grind[aS1,zD]
 .have:=hm.2.2 (w*3+c).toNat aa x (by grind[eO]);omega
theorem aGB(r:0<=c/\c<=2) :
  ∃l t x,idx m.aD.Global c=some l/\tD l=some (t,x)/\GL m.aD c=some (⟨m.aD.Global.set c.toNat t,m.aD.Own⟩,x) /\
   IF ⟨m.Heap,⟨m.aD.Global.set c.toNat t,m.aD.Own⟩⟩/\(0<=x->0<=bH m.Heap x)/\zF m ⟨m.Heap,⟨m.aD.Global.set c.toNat t,m.aD.Own⟩⟩ (-1):=by
 obtain⟨e,v,u,y,w,g,j,i,a,h⟩:=lX.facts hm;have o:c.toNat<m.aD.Global.length:=aa
 have n:idx m.aD.Global c=some m.aD.Global[c.toNat]:=eQ aa aa;have k:=a _ (dO o);obtain⟨t,x,p,A,q,d,b⟩:=bEP (s:=m.aD.Global[c.toNat]) aa;have f:=zD m.aD;refine⟨_,t,x,n,p,?_,⟨aj,aj,aj,aj,?_⟩,λz=>?_,lX.a9M hm aa (by grind[eO])⟩
 .simp_all[GL,xB,lW]
 .grind[aS1,zD]
 .have:=hm.2.1 c.toNat aa x (by grind[eO]);omega
theorem aZC{h:Int}(L:0<=w/\w<=2)(f:lE m h):∃m',BC m w (h % 32)=some m'/\TB m w h=some m'/\IF m'/\zF m m' (h % 32):=by
 obtain⟨J,Y,X,z,y,P,p,E,C,B⟩:=lX.facts hm;have v:=hm.1.1.1;have hh:=f.1;have o:=hh.mod;have d:=jB f.2.1;have Q:=MB d;have r:0<=bH m.Heap (h % 32)/\bH m.Heap (h % 32)<=2:=by obtain⟨_,q,e⟩:=xV d;rw[e];exact lB.1 aa
 have R:1<=h/32/\h/32<=6:=by grind[j3]
 have G:m.Heap.Bytes.length<=maxLen:=by grind[maxLen]
 have i:h % 32∉fC m.aD:=λq=>by have:=f.2.1;simp_all[fX,aO]
 have l:=aAD (h:=m.Heap) aa aa;have N:fW (h % 32) (bH m.Heap (h % 32))=(((fW (h % 32) (bH m.Heap (h % 32))).toNat:Nat):Int):=aa
 have I:bB (h/32+1)=h/32+1:=cY;have O:bB (Int.tdiv h 32)=h/32:=by grind[cK]
 have K:=zD m.aD;obtain⟨b,D⟩:=lX.bP3 hm f.2.1 (g:=h/32+1) aa;have W:=jN.1 f.2.1;unfold BC TB aC4 xC;rw[o.1,iY v,l,MA G,cB v,jQ v,O,I,p];simp only[aE,eP,aU,aT,TA,KD,S9];rw[tP v d,f.2.2,eT,dV (show ¬bH m.Heap (h % 32)<0 by omega),cB (show 1<=h/32+1/\h/32+1<=7 by omega)];simp only[aE,eP,aU,aT,z6,FV,I];generalize F:(fW (h % 32) (bH m.Heap (h % 32))).toNat=a at N;rw[F] at b D;rw[N,QH aa aa aa,aGA aa];simp only[aE];rw[aD2 aa aa aa];simp only[aE,JQ,WJ,O,I,o.1];by_cases q:h/32+1<=6
 .have M:(w*3+bH m.Heap (h % 32)).toNat<m.aD.Own.length:=aa
  have c:idx m.aD.Own (w*3+bH m.Heap (h % 32))=some m.aD.Own[(w*3+bH m.Heap (h % 32)).toNat]:=eQ aa aa;have n:(bH m.Heap (h % 32)).toNat<m.aD.Global.length:=aa
  have A:idx m.aD.Global (bH m.Heap (h % 32))=some m.aD.Global[(bH m.Heap (h % 32)).toNat]:=eQ aa aa;have b1:=B _ (dO M);have Z:=C _ (dO n);rw[cB q,aM rfl,aM rfl];unfold U3 aKN DE;rw[jQ v,aE,p,(YX L r).1,(YX L r).2,E,CL,cB (show 0<=h % 32/\h % 32<=23 by omega),aD1 aa aa aa,dV i];simp only[aE,eP,aU,aT,c,A];have U:¬w*3+bH m.Heap (h % 32)<0:=aa
  simp only[dV U,aU,aT];by_cases V:m.aD.Own[(w*3+bH m.Heap (h % 32)).toNat].bA.length<2
  .have u:(m.aD.Own[(w*3+bH m.Heap (h % 32)).toNat].bA.length:Int)<2:=aa
   have t:¬(2:Int)<=m.aD.Own[(w*3+bH m.Heap (h % 32)).toNat].bA.length:=aa
   simp only[cB u,dV t,aU,aT,aS];rw[EP,EP];refine⟨_,rfl,rfl,⟨by grind[OZ],aj,aj,aj,?_⟩,?_⟩
   .grind[zD,aG7]
   .have j:((w*3+bH m.Heap (h % 32)).toNat % 3:Nat)=(bH m.Heap (h % 32)).toNat:=aa
    obtain⟨H,S⟩:=lX.bIF b.1 (k:=(w*3+bH m.Heap (h % 32)).toNat) aa (xs:=[h % 32]) (by grind[eO]) ae (λx c=>by
     simp at c;subst c;exact⟨by rw[j];show bH m.Heap (h % 32)=_;omega,aj⟩) (λx c=>aj) M
    refine⟨H,λs z y=>?_⟩;obtain⟨u,t,T⟩:=b.2 s z y;grind
  .have u:¬(m.aD.Own[(w*3+bH m.Heap (h % 32)).toNat].bA.length:Int)<2:=aa
   have t:(2:Int)<=m.aD.Own[(w*3+bH m.Heap (h % 32)).toNat].bA.length:=aa
   simp only[cB t,dV u,aU,aT,aS];rw[EP,EP];refine⟨_,rfl,rfl,⟨by grind[OZ],aj,aj,aj,?_⟩,?_⟩
   .grind[zD,aG7]
   .obtain⟨H,S⟩:=lX.aS0 b.1 (k:=(bH m.Heap (h % 32)).toNat) aa (xs:=[h % 32]) ae (λx c=>by
     simp at c;subst c;exact⟨by show bH m.Heap (h % 32)=_;omega,aj⟩) (λx c=>aj) n
    refine⟨H,λs z y=>?_⟩;obtain⟨u,t,T⟩:=b.2 s z y;grind
 .rw[dV q,fF,fF];refine⟨_,rfl,rfl,⟨by grind[OZ],aj,aj,aj,by(simp_all;omega)⟩,b⟩
end
def alloc_eq{b:aA}(d:lX b.Mem)(C:0<=w/\w<=2)(s:Sub) :
  ∃x y,zK b w s=some (x,y)/\xD s b w=some (y,x)/\∃m',x=⟨m',b.aI,b.aQ,b.iU⟩/\IF m'/\zF b.Mem m' (-1):=by
 have e:=(lX.facts d).2.2.2.2.2.1;have I:=d.1.1.1;obtain⟨c,ec,D,B⟩:=a48 s.A;unfold zK xD;rw[ec,D];simp only[aE];by_cases c0:c<0
 .simp only[cB c0,aS,b9,bX];exact⟨_,_,rfl,rfl,_,rfl,e,zF.refl d _⟩
 have o:0<=c/\c<=2:=aa
 simp only[dV c0,aU,aT];have fin:∀(m':Mem) (x:Int),IF m'->zF b.Mem m' (-1)->(0<=x->gX m'.Heap/\0<=bH m'.Heap x) ->
   ∃X Y,jV s x ⟨m',b.aI,b.aQ,b.iU⟩=some (X,Y)/\j8 s x ⟨m',b.aI,b.aQ,b.iU⟩=some (Y,X)/\∃m',X=⟨m',b.aI,b.aQ,b.iU⟩/\IF m'/\zF b.Mem m' (-1):=by
  intro m' x A z q;unfold jV j8;simp only[uO,RE,b9,bX];by_cases f:0<=x
  .obtain⟨h,i,g⟩:=a9L (m:=m') (q f).1 (q f).2;rw[dV (show ¬x<0 by omega),cB f];simp only[aU,aT,aS,i,g,aE];grind
  .rw[cB (show x<0 by omega),dV f];by_cases p:s.Pc=3
   .simp only[p,beq_self_eq_true,aS,aU,aT,aE];grind
   .have a:(s.Pc == 3)=false:=aj
    simp only[a,aS,aU,aT,aE];grind
 by_cases H:s.Pc=0
 .obtain⟨l,t,x,i,g,E,v,u,r⟩:=aS2 d C o;simp_all[YX]
 .have n:(s.Pc == 0)=false:=aj
  simp only[n,aU,aT,uP,qK];obtain⟨l,t,x,i,g,E,v,u,r⟩:=aGB d o;by_cases G:s.Pc=1
  .simp_all
  .have k:(s.Pc == 1)=false:=aj
   simp only[k,aU,aT];by_cases p:s.Pc=3
   .simp_all
   .have a:(s.Pc == 3)=false:=aj
    simp only[a,aU,aT];by_cases F:s.Pc=2
    .obtain⟨m',x,i,g,v,u,r⟩:=a1Z d o;simp_all
    .have j:(s.Pc == 2)=false:=aj
     simp only[j,aU,aT,b9,bX];exact⟨_,_,rfl,rfl,_,rfl,e,zF.refl d _⟩
def a71(r:eW)(e:Int):∃v,M1 r e=some v/\X0 r e=some v:=by
 unfold M1 X0 JM RP;by_cases h:2<=e
 .simp only[cB h,aS];exact⟨_,rfl,rfl⟩
 .simp only[dV h,aU,aT];exact⟨_,rfl,rfl⟩
def bIG{b:aA}{l:bP}(m:idx b.aQ w=some l)(A:l.Rows.length<=1000)(s:Sub) :
  (wY l.Rows s.Row s.E=some (-1)/\sJ s b w=(bX s 0).bind λx=>some (x,b)) \/
  ∃k,∃h:k<l.Rows.length,wY l.Rows s.Row s.E=some (k:Int)/\sJ s b w=some (⟨s.Kind,s.A,2,s.E,(k:Int),0,l.Rows[k].Handle,s.Out,s.Code,s.eG⟩,b):=by
 have f:∀d k,k+d=l.Rows.length ->
   (loop (g8 l.Rows s.E) (k:Int)=some (Out.brk ())/\loop (hU s b w) (k:Int)=some (Out.brk ())) \/
   ∃j,∃h:j<l.Rows.length,loop (g8 l.Rows s.E) (k:Int)=some (Out.ret (j:Int))/\loop (hU s b w) (k:Int)=some (Out.ret (⟨s.Kind,s.A,2,s.E,(j:Int),0,l.Rows[j].Handle,s.Out,s.Code,s.eG⟩,b)):=by
  intro d;induction d with
  |zero=>
   simp_all[bR,g8,hU]
  |succ d t=>
   intro k B;have e:k<l.Rows.length:=aa
   obtain⟨v,o,n⟩:=a71 l.Rows[k] s.E;cases v with
   |true=>
    right;refine⟨k,e,bR ?_,bR ?_⟩
    .simp only[g8];rw[cX,aZ e,aE,o];rfl
    .simp only[hU,m,aE];rw[cX,aZ e,aE,n];rfl
   |false=>
    have q:g8 l.Rows s.E (k:Int)=some (.next ((k+1:Nat):Int)):=by simp only[g8];rw[cX,aZ e,aE,o,aE,cY];rfl
    have p:hU s b w (k:Int)=some (.next ((k+1:Nat):Int)):=by simp only[hU,m,aE];rw[cX,aZ e,aE,n,aE,cY];rfl
    rw[bO q,bO p];exact t (k+1) aa
 unfold wY sJ;have g:∃i:Nat,(if 0<s.Row then s.Row else 0)=(i:Int)/\(if s.Row<0 then 0 else s.Row)=(i:Int):=by refine⟨s.Row.toNat,?_,?_⟩<;>split<;>omega
 obtain⟨i,y,u⟩:=g;rw[y,u];by_cases C:i<=l.Rows.length
 .rcases f (l.Rows.length-i) i aa with ⟨a,c⟩|⟨j,z,a,c⟩
  .left;rw[a,c];exact⟨rfl,rfl⟩
  .right;rw[a,c];exact⟨j,z,rfl,rfl⟩
 .left;rw[bR (body:=g8 l.Rows s.E) (r:=Out.brk ()) (by simp only[g8];grind),
   bR (body:=hU s b w) (r:=Out.brk ()) (by simp only[hU,m,aE];grind)]
  exact⟨rfl,rfl⟩
theorem del_eq{l:List O}(h:k<l.length):((dM l k (l.drop (k+1))).take (k+(l.length-(k+1)))).drop 0=l.eraseIdx k:=by grind[dM,aHJ]
def a49{l:List O}(h:k<l.length):l.Perm (l[k]::l.eraseIdx k):=by grind[EU,aL2,List.eraseIdx_eq_take_drop_succ,List.perm_middle]
def tS.drop{b:a7}(c:tS b){w:Nat}(f:w<b.length):∀k (g:k<b[w].Rows.length),tS (b.set w ⟨b[w].Rows.eraseIdx k⟩)/\∀r∈cN (b.set w ⟨b[w].Rows.eraseIdx k⟩),r∈cN b/\r.Handle % 32≠b[w].Rows[k].Handle % 32:=by
 intro k g;have a:(cN (b.set w ⟨b[w].Rows.eraseIdx k⟩)).Sublist (cN b):=by grind[YV,V2]
 have d:=c.2.2.2;refine⟨⟨by simpa using c.1,wI a.length_le c.2.1,λr e=>c.2.2.1 r (a.subset e),(a.map nX).nodup d⟩,λr e=>⟨a.subset e,?_⟩⟩;have h:(cN b).Perm (b[w].Rows[k]::cN (b.set w ⟨b[w].Rows.eraseIdx k⟩)):=by rw[YV f,V2 f];refine List.Perm.trans (List.Perm.append_left _ (List.Perm.append_right _ (a49 g))) ?_;simp
 grind[nX]
def a5A{b:aA}(p:lD b)(V:0<=w/\w<=2)(s:Sub) :
  ∃x y,rD b w s=some (x,y)/\sK s b w=some (y,x)/\∃m' L,x=⟨m',b.aI,L,b.iU⟩/\IF m'/\lX m'/\tS L/\∀r∈cN L,lE m' r.Handle/\r.aP<=b.aI.aP:=by
 have Q:=p.1.1;have o:=p.1.2.2.1;have W:=p.1.2.2.2;have H:=(lX.facts Q).2.2.2.2.2.1;have i:w.toNat<b.aQ.length:=by have:=o.1;omega
 have A:idx b.aQ w=some b.aQ[w.toNat]:=eQ V.1 aa;have t:=o.small.2.2.2 _ (dO i);have c:b.aQ[w.toNat]∈b.aQ:=dO i;have j:=tS.drop o i;generalize b.aQ[w.toNat]=l at A t j c;have done:∀y:Sub,∃x z,(some (b,y):Option (aA×Sub))=some (x,z)/\(some (y,b):Option (Sub×aA))=some (z,x)/\∃m' L,x=⟨m',b.aI,L,b.iU⟩/\IF m'/\lX m'/\tS L/\∀r∈cN L,lE m' r.Handle/\r.aP<=b.aI.aP:=
  λy=>⟨_,_,rfl,rfl,b.Mem,b.aQ,rfl,H,Q,o,p.2⟩
 have G:bB ((l.Rows.length:Int)-1)=(l.Rows.length:Int)-1:=cY;have m:PA b.aQ w s.Row=some (decide (0<=s.Row/\s.Row<=(l.Rows.length:Int)-1)):=by simp_all[PA,KE,jM,eT]
 unfold rD sK;rw[m,A];simp only[aE,b9,cJ,G];have K:∃a:Bool,(if decide (0<=s.Row/\s.Row<=(l.Rows.length:Int)-1)=true then(idx l.Rows s.Row).bind λB=>iL s b w (B.Handle == s.H) else iL s b w false)=iL s b w a /\
   (if(!decide (0<=s.Row/\s.Row<=(l.Rows.length:Int)-1))=true then fZ b s true else(idx l.Rows s.Row).bind λC=>fZ b s (C.Handle != s.H))=fZ b s (!a) /\
   (a=true->∃r,r∈l.Rows/\idx l.Rows s.Row=some r/\r.Handle=s.H/\0<=s.Row/\s.Row<l.Rows.length) /\
   (a=false->∀f:eW->Option (aA×Sub),(if(!decide (0<=s.Row/\s.Row<=(l.Rows.length:Int)-1))=true then gA b w s l true else(idx l.Rows s.Row).bind λx=>if(x.Handle != s.H)=true then gA b w s l true else f x)=gA b w s l true):=by
  by_cases q:0<=s.Row/\s.Row<=(l.Rows.length:Int)-1
  .have n:idx l.Rows s.Row=some (l.Rows[s.Row.toNat]' aa):=eQ q.1 aa;by_cases u:(l.Rows[s.Row.toNat]' aa).Handle=s.H
   .refine⟨true,?_,?_,λ_=>⟨_,dO _,n,u,q.1,aa⟩,λh=>by cases h⟩
    .rw[cB q,aM rfl,n,aE,u,beq_self_eq_true]
    .rw[cB q,fF,n,aE,u,bne_self_eq_false];rfl
   .have n1:((l.Rows[s.Row.toNat]' aa).Handle == s.H)=false:=by simpa using u
    have U:((l.Rows[s.Row.toNat]' aa).Handle != s.H)=true:=by simpa using u
    refine⟨false,?_,?_,(λh=>by cases h),λ_ f=>?_⟩
    .rw[cB q,aM rfl,n,aE,n1]
    .rw[cB q,fF,n,aE,U];rfl
    .rw[cB q,fF,n,aE,U,aM rfl]
  simp_all[dV]
 obtain⟨a,P,O,N,M⟩:=K;rw[P,O];unfold iL;by_cases p0:s.Pc=0
 .simp_all
 have F:(s.Pc == 0)=false:=aj
 simp only[F,aU,aT];by_cases p1:s.Pc=1
 .simp only[p1,beq_self_eq_true,aS];obtain⟨T,S⟩|⟨k,R,T,S⟩:=bIG A aa s
  .simp_all[bX]
  simp_all[aO,aZ]
 have E:(s.Pc == 1)=false:=aj
 simp only[E,aU,aT];by_cases p2:s.Pc=2
 .simp only[p2,beq_self_eq_true,aS,jM,aE];by_cases X:0<=s.B/\s.B<=2
  .rw[cB X];simp only[eP,aU,aT,aS];cases a with
   |true=>
    have hz:idx b.iU s.B=some (b.iU[s.B.toNat]'(by have:=W.1;omega)):=eQ X.1 (by have:=W.1;omega);simp only[fZ,gI,eP,aU,aT,aS,hz,aE,pT];by_cases q:(b.iU[s.B.toNat]' aj)=s.H
    .simp_all
    .have Z:((b.iU[s.B.toNat]' aj) == s.H)=false:=aj
     simp only[Z,aU,aT];by_cases q3:bB (s.B+1)=3
     .simp_all
     simp_all
   |false=>
    simp_all[fZ,gI,eR,b9,bX]
  simp_all[dV,fZ,gI,eR,b9,bX]
 have D:(s.Pc == 2)=false:=aj
 simp only[D,aU,aT,gI];by_cases p3:s.Pc=3
 .simp only[p3,beq_self_eq_true,aS];cases a with
  |false=>
   rw[M rfl];simp_all[gA,eR,b9,bX]
  |true=>
   obtain⟨r,I,n,J,r0,r1⟩:=N rfl;obtain⟨v,T,S⟩:=a71 r s.E;rw[cB (show 0<=s.Row/\s.Row<=(l.Rows.length:Int)-1 by omega)];simp only[eP,aU,aT,aS,n,aE,J,bne_self_eq_false,A,T,S];cases v with
   |false=>
    simp_all[gA,eR,b9,bX]
   |true=>
    have d:lE b.Mem s.H:=by have:r∈cN b.aQ:=aL0.2 ⟨l,c,I⟩;have:=(p.2 r this).1;grind
    obtain⟨m',f1,f2,f3,f4⟩:=aZC Q V d;have Y:bB (s.Row+1)=s.Row+1:=cY;have g:RQ b.aQ w s.Row=some (b.aQ.set w.toNat ⟨((dM l.Rows s.Row.toNat (l.Rows.drop (s.Row+1).toNat)).take (s.Row.toNat+(l.Rows.length-(s.Row+1).toNat))).drop 0⟩,true):=by
     unfold RQ GO;rw[W4 o.small.2.2.1 (λs h=>by have:=o.small.2.2.2 s h;omega),HJ o.small.1,cB o,m,cB (show 0<=s.Row/\s.Row<=(l.Rows.length:Int)-1 by omega)];simp only[aE,eP,aU,aT,A,Y];unfold HV;rw[PH,qH,PH,PH,PH,b7]
     .rfl
     grind[gG]
    simp only[gA,eR,wZ,Y,eP,aU,aT,aS];rw[PH,PH,PH,cZ,aM d.1,aE,f1,f2,g];have R:s.Row.toNat<l.Rows.length:=aa
    have eL:((dM l.Rows s.Row.toNat (l.Rows.drop (s.Row+1).toNat)).take (s.Row.toNat+(l.Rows.length-(s.Row+1).toNat))).drop 0=l.Rows.eraseIdx s.Row.toNat:=by rw[show(s.Row+1).toNat=s.Row.toNat+1 by omega];exact del_eq R
    have er:l.Rows[s.Row.toNat]=r:=by grind[aZ]
    rw[eL] at g ⊢;obtain⟨g1,g2⟩:=j s.Row.toNat R;refine⟨_,_,rfl,rfl,m',_,rfl,f3,f4.1,g1,λq hq=>?_⟩;obtain⟨g3,g4⟩:=g2 q hq;obtain⟨g5,g6⟩:=p.2 q g3;refine⟨f4.live g5 λe=>?_,g6⟩;grind
 simp_all[eR,bX]
def W0.fits{b:aA}(h:W0 b):b.Mem.Heap.Bytes.length<=maxLen/\(fC b.Mem.aD).length<=1073741824/\b.aI.bV.length<=maxLen/\b.aQ.length<=maxLen/\(cN b.aQ).length<=1073741824/\b.iU.length<=maxLen:=by
 have a:(1048576:Nat)<=maxLen:=by simp[maxLen]
 have i:=h.1.1;have g:=h.1.2.2.2.2;have f:=h.2.1;have e:=h.2.2.1;have d:=h.2.2.2.1;have c:=h.2.2.2.2;omega
def step_eq{b:aA}(a:lD b)(z:W0 b)(i:0<=w/\w<=2)(s:Sub) :
  ∃x y,tE b w s=some (x,y)/\i4 s b w=some (y,x)/\lD x:=by
 have C:=a.1.2.2.2.1;have D:=a.1.2.2.1;unfold tE i4;cases E:s.eG with
 |true=>grind
 |false=>
  simp only[aU,aT];by_cases v:s.Kind=1
  .obtain⟨x,y,f,e,m,rfl,h,d⟩:=alloc_eq a.1.1 i s;simp only[v,beq_self_eq_true,aS,f,e,aE];exact⟨_,_,rfl,rfl,⟨d.1,a.1.2⟩,λr g=>⟨d.live (a.2 r g).1 aa,(a.2 r g).2⟩⟩
  have o:(s.Kind == 1)=false:=aj
  simp only[o,aU,aT];by_cases u:s.Kind=2
  .obtain⟨x,y,f,e,L,rfl,h,d⟩:=a9I a z i s;simp only[u,beq_self_eq_true,aS,f,e,aE];exact⟨_,_,rfl,rfl,⟨a.1.1,a.1.2.1,h,a.1.2.2.2⟩,d⟩
  have n:(s.Kind == 2)=false:=aj
  simp only[n,aU,aT];by_cases t:s.Kind=3
  .obtain⟨x,y,f,e,c,rfl,h,d⟩:=a43 a.1.2.1 s;simp only[t,beq_self_eq_true,aS,f,e,aE];exact⟨_,_,rfl,rfl,⟨a.1.1,h,a.1.2.2⟩,λr g=>⟨(a.2 r g).1,Int.le_trans (a.2 r g).2 d⟩⟩
  have l:(s.Kind == 3)=false:=aj
  simp only[l,aU,aT];by_cases q:s.Kind=4
  .obtain⟨x,y,f,e,m,L,rfl,h,d,B,A⟩:=a5A a i s;simp only[q,beq_self_eq_true,aS,f,e,aE];exact⟨_,_,rfl,rfl,⟨d,a.1.2.1,B,a.1.2.2.2⟩,A⟩
  have k:(s.Kind == 4)=false:=aj
  simp only[k,aU,aT];by_cases p:s.Kind=5
  .obtain⟨x,y,f,e,c,rfl,h,d⟩:=bL8 a.1.2.1 i s;simp only[p,beq_self_eq_true,aS,f,e,aE];exact⟨_,_,rfl,rfl,⟨a.1.1,h,a.1.2.2⟩,λr g=>⟨(a.2 r g).1,Int.le_trans (a.2 r g).2 d⟩⟩
  have j:(s.Kind == 5)=false:=aj
  simp only[j,aU,aT,b9,bX,aE];grind
def lD.small{b:aA}(a:lD b):W0 b:=by have f:=a.1.2.1.2.1;have e:=a.1.2.2.1.1;have d:=a.1.2.2.1.2.1;have c:=a.1.2.2.2.1;exact⟨(lX.facts a.1.1).2.2.2.2.2.1,aa,aa,aa,aa⟩
def NL(s:Sub)(code:Int):Sub:={s with Code:=code,eG:=true}
def QJ(n:Int):Int:=if 1<=n/\n<=8 then 0 else if 1<=n/\n<=16 then 1 else if 1<=n/\n<=40 then 2 else -1
def aS3(n:Int):-1<=QJ n/\QJ n<=2:=by grind[QJ]
def a9N(n:Int):CU n=some (QJ n):=by
 have a:∀k,0<=k/\k<=2->iH n k=some (if 1<=n/\n<=gQ k then .stop (Out.ret k) else .next (k+1)):=λk h=>by simp only[iH];rw[cX,qI,aE,cJ,aE,cY];grind
 have g:gQ 0=8:=rfl;have f:gQ 1=16:=rfl;have e:gQ 2=40:=rfl;unfold CU QJ;by_cases d:1<=n/\n<=8
 .rw[bR (by rw[a 0 aa,aM aa]),aM d];rfl
 .rw[bO (by rw[a 0 aa,qU]),aO d,show(0:Int)+1=1 from rfl];by_cases c:1<=n/\n<=16
  .rw[bR (by rw[a 1 aa,aM aa]),aM c];rfl
  .rw[bO (by rw[a 1 aa,qU]),aO c,show(1:Int)+1=2 from rfl];by_cases b:1<=n/\n<=40
   .rw[bR (by rw[a 2 aa,aM aa]),aM b];rfl
   .rw[bO (by rw[a 2 aa,qU]),aO b,show(2:Int)+1=3 from rfl,bR (body:=iH n) (r:=Out.brk ()) (by simp[iH])];rfl
def aAF(l:al):al×Int:=(l.dropLast,l.getLastD (-1))
theorem aPT{s:bD}(h:s.bA.length<=1048576):tD s=some (⟨(aAF s.bA).1⟩,(aAF s.bA).2):=by
 unfold tD NU aAF;obtain⟨l⟩:=s;obtain rfl|⟨L,b,rfl⟩:=aV3 l
 .rfl
 .simp only[List.concat_eq_append] at h ⊢;have a:(L++[b]).length=L.length+1:=ae
  rw[a,cY,show((L.length+1:Nat):Int)-1=(L.length:Int) by omega,qH,PH,UO];simp
def MH(m:Mem)(w c:Int):Mem×Int:=(⟨m.Heap,⟨m.aD.Global,m.aD.Own.set (w*3+c).toNat ⟨(aAF (fY m.aD.Own (w*3+c).toNat)).1⟩⟩⟩,(aAF (fY m.aD.Own (w*3+c).toNat)).2)
def DY(m:Mem)(c:Int):Mem×Int:=(⟨m.Heap,⟨m.aD.Global.set c.toNat ⟨(aAF (fY m.aD.Global c.toNat)).1⟩,m.aD.Own⟩⟩,(aAF (fY m.aD.Global c.toNat)).2)
def pgF(h:Heap):Nat:=h.Class.findIdx (λx=>decide (x = -1))
def T9(m:Mem)(c:Int):Mem×Int:=if pgF m.Heap=6 then(m,-1) else
 (⟨⟨gB m.Heap.Bytes (pgF m.Heap) c (dI c).toNat,m.Heap.Class.set (pgF m.Heap) c⟩,⟨m.aD.Global.set c.toNat ⟨fY m.aD.Global c.toNat++(gS (pgF m.Heap) (dI c).toNat).drop 1⟩,m.aD.Own⟩⟩,(pgF m.Heap:Int)*4)
theorem bEQ(a:gX h):pgF h<=6:=by rw[<-a.2.1];exact List.findIdx_le_length
theorem bER(b:gX h)(c:pgF h≠6):pgF h<6/\cV h (pgF h) = -1:=by
 have d:=b.2.1;have a:pgF h<6:=by grind[bEQ]
 refine⟨a,?_⟩;rw[<-aEP b a];have:=List.findIdx_getElem (xs:=h.Class) (p:=λx=>decide (x = -1)) (w:=by grind[pgF]);exact of_decide_eq_true this
theorem bIH(c:gX h):∀j (b:j<6),j<pgF h->cV h j≠-1:=λj b a=>by have:=List.not_of_lt_findIdx a;grind[aEP]
def bMA(hh:HOk h)(o:0<=c/\c<=2):rV h c=some (if pgF h=6 then(h,[]) else(⟨gB h.Bytes (pgF h) c (dI c).toNat,h.Class.set (pgF h) c⟩,gS (pgF h) (dI c).toNat)):=by
 have d:=hh.1;have t:=d.2.1;have a:=d.1;have j:=bEQ d;have g:∀k (l:k<pgF h),g7 h c (k:Int)=some (.next ((k+1:Nat):Int)):=λk l=>by
  have n:(h.Class[k] != -1)=true:=by grind[bIH,aEP]
  simp only[g7,GB];rw[cX,UO,aE,n,aM rfl,cY];rfl
 unfold rV;by_cases e:pgF h=6
 .have f:loop (g7 h c) 0=some (Out.brk ()):=kL (pgF h) (λk=>(k:Int)) _ g (by simp_all[g7]);rw[f,aM e];rfl
 .obtain⟨b,m⟩:=bER d e;rw[<-aEP d b] at m;generalize i:pgF h=q at *;have f:loop (g7 h c) 0=some (Out.ret (⟨gB h.Bytes q c (dI c).toNat,h.Class.set q c⟩,gS q (dI c).toNat)):=kL q (λk=>(k:Int)) _ g (by
   have s:bB ((q:Int)*64)=((q*64:Nat):Int):=by grind[cK]
   have r:bB (((q*64:Nat):Int)+1)=((q*64+1:Nat):Int):=by grind[cK]
   have p:bB (((q*64:Nat):Int)+2)=((q*64+2:Nat):Int):=by grind[cK]
   have n:(h.Class[q] != -1)=false:=aj
   simp only[g7,s,r,p,MK];rw[cX,UO,aE,n,fF,UO,aE,aZ ah,aE,kM,aE,aZ ah,aE];have:=aSZ a b o;simp only[gB] at this;rw[this];rfl)
  rw[f,aO e];rfl
def a9O(b:lX m)(d:0<=c/\c<=2):CX m c=some (T9 m c):=by
 have p:=b.1.2.1;have e:0<dI c:=lB.2 d;have f:=pA c;obtain⟨_,_,_,_,_,_,_,_,a,_⟩:=lX.facts b;unfold CX T9;rw[bMA b.1.1 d];by_cases k:pgF m.Heap=6
 .simp_all
 .have n:c.toNat<m.aD.Global.length:=aa
  have g:=a _ (dO n);have i:idx m.aD.Global c=some m.aD.Global[c.toNat]:=eQ d.1 aa;have h:idx (gS (pgF m.Heap) (dI c).toNat) 0=some ((pgF m.Heap:Int)*4):=by grind[aZ,gS]
  have l:(((dI c).toNat:Int) == 0)=false:=aj
  have j:(gS (pgF m.Heap) (dI c).toNat).take (dI c).toNat=gS (pgF m.Heap) (dI c).toNat:=aHJ (by grind[aLO]);have o:((gS (pgF m.Heap) (dI c).toNat).drop 1).length<=4:=aj
  simp only[aO k,aE,aLO,l,aU,aT,i,h,GD,j];grind[b7,eO]
def a5B(m:Mem)(s:Int):Int:=if 1<=kN m.Heap s/\kN m.Heap s<=6 then kN m.Heap s*32+s else 0
def bII(b:gX m.Heap)(a:0<=bH m.Heap s):zJ m s=some (a5B m s):=by
 unfold zJ NW uN a5B;rw[tP b a,aE,cJ,cJ];have c:=(xV a).1;simp only[cB c,aE,eP,aU,aT];by_cases q:1<=kN m.Heap s/\kN m.Heap s<=6
 .simp only[cB q,eP,aU,aT,aM q];grind[cK]
 grind
def aAG(b:aA)(s:Sub)(p:Mem×Int):aA×Sub:=if 0<=p.2 then({b with Mem:=p.1},NL {s with Out:=a5B p.1 p.2} 0) else if s.Pc=3 then({b with Mem:=p.1},NL s 3) else({b with Mem:=p.1},{s with Pc:=s.Pc+1})
def aLP(b:aA)(w:Int)(s:Sub):aA×Sub:=
 if QJ s.A<0 then(b,NL s 2)
 else if s.Pc=0 then aAG b s (MH b.Mem w (QJ s.A))
 else if s.Pc=1\/s.Pc=3 then aAG b s (DY b.Mem (QJ s.A))
 else if s.Pc=2 then aAG b s (T9 b.Mem (QJ s.A))
 else(b,NL s 1)
def a9P{b:aA}(g:lX b.Mem)(I:0<=w/\w<=2)(s:Sub):zK b w s=some (aLP b w s):=by
 obtain⟨F,h3,h9,h1,h2,K,N,L,C,B⟩:=lX.facts g;have hs:=g.1.1.1;have hr:=aS3 s.A;unfold zK aLP;rw[a9N];simp only[aE];by_cases c0:QJ s.A<0
 .simp only[cB c0,aS,b9,aM c0];rfl
 generalize QJ s.A=c at *;have o:0<=c/\c<=2:=aa
 simp only[dV c0,aU,aT,aO c0];have fin:∀(p:Mem×Int),-1<=p.2->(0<=p.2->gX p.1.Heap/\0<=bH p.1.Heap p.2)->s.Pc<=3/\0<=s.Pc->jV s p.2 ⟨p.1,b.aI,b.aQ,b.iU⟩=some (aAG b s p):=by
  intro p hp j D;unfold jV aAG;simp only[uO,RE,b9];by_cases k:0<=p.2
  .rw[dV (show ¬p.2<0 by omega),cB k];simp only[aU,aT,aS,aM k,bII (j k).1 (j k).2,aE];rfl
  .rw[cB (show p.2<0 by omega),dV k];by_cases G:s.Pc=3
   .have a:(s.Pc == 3)=true:=aj
    simp only[a,aS,aO k,aM G,aE];rfl
   .have a:(s.Pc == 3)=false:=aj
    have e:bB (s.Pc+1)=s.Pc+1:=cY;grind
 have f:∀l:al,-1<=(aAF l).2\/(aAF l).2∈l:=λl=>by unfold aAF;grind
 by_cases H:s.Pc=0
 .have n:(w*3+c).toNat<b.Mem.aD.Own.length:=aa
  have j:idx b.Mem.aD.Own (w*3+c)=some b.Mem.aD.Own[(w*3+c).toNat]:=eQ aa aa;obtain⟨l,t,x,q,d,W,T,S,R⟩:=aS2 g I o;have P:=B _ (dO n);rw[j] at q;cases q;rw[aPT aa] at d;have J:MH b.Mem w c=(⟨b.Mem.Heap,⟨b.Mem.aD.Global,b.Mem.aD.Own.set (w*3+c).toNat t⟩⟩,x):=by grind[MH,eO]
  have A:-1<=x:=by
   injection d with d;injection d with V E
   rcases f b.Mem.aD.Own[(w*3+c).toNat].bA with h|h
   .omega
   .rw[<-E];have:=g.1.2.2.2.2.1 _ (List.mem_append_right _ (aL0.2 ⟨_,dO n,h⟩));omega
  have i:(s.Pc == 0)=true:=aj
  have:=fin (MH b.Mem w c) aj aj aa;rw[J] at this;simp only[i,aS,aM H,(YX I o).1,aE,j];grind[aPT]
 .have i:(s.Pc == 0)=false:=aj
  simp only[i,aU,aT,uP,aO H];have n:c.toNat<b.Mem.aD.Global.length:=aa
  have j:idx b.Mem.aD.Global c=some b.Mem.aD.Global[c.toNat]:=eQ aa aa;obtain⟨l,t,x,q,d,W,T,S,R⟩:=aGB g o;have P:=C _ (dO n);rw[j] at q;cases q;rw[aPT aa] at d;have J:DY b.Mem c=(⟨b.Mem.Heap,⟨b.Mem.aD.Global.set c.toNat t,b.Mem.aD.Own⟩⟩,x):=by grind[DY,eO]
  have A:-1<=x:=by
   injection d with d;injection d with V E
   rcases f b.Mem.aD.Global[c.toNat].bA with h|h
   .omega
   .rw[<-E];have:=g.1.2.2.2.2.1 _ (List.mem_append_left _ (aL0.2 ⟨_,dO n,h⟩));omega
  have X:0<=s.Pc/\s.Pc<=3->(idx b.Mem.aD.Global c).bind (λr=>(tD r).bind λm=>jV s m.2 ({b with Mem:=(⟨b.Mem.Heap,(⟨b.Mem.aD.Global.set c.toNat m.1,b.Mem.aD.Own⟩:aD)⟩:Mem)}:aA))=some (aAG b s (DY b.Mem c)):=λD=>by grind[aPT]
  by_cases Y:s.Pc=1
  .grind
  .have v:(s.Pc == 1)=false:=aj
   simp only[v,aU,aT];by_cases G:s.Pc=3
   .grind
   .have a:(s.Pc == 3)=false:=aj
    have z:¬(s.Pc=1\/s.Pc=3):=aa
    simp only[a,aU,aT,aO z];by_cases O:s.Pc=2
    .obtain⟨m',y,U,f2,k1,k2,Z⟩:=a1Z g o;have Q:=a9O g o;rw[U] at Q;have M:T9 b.Mem c=(m',y):=aj
     have hy:-1<=(T9 b.Mem c).2:=by grind[T9]
     grind
    .have u:(s.Pc == 2)=false:=aj
     simp only[u,aU,aT,b9,aO O,aE];rfl
def mD(c:aI)(w:Int):xZ:=c.bV.getD w.toNat ⟨false,0,false,0⟩
theorem DZ{c:aI}(a:COk c)(b:0<=w/\w<=2):idx c.bV w=some (mD c w):=by have:=a.2.1;grind[eQ,mD]
def a11(c:aI)(w e:Int):aI×Bool:=
 if(mD c w).On=false\/(mD c w).gU=true\/(mD c w).aP=e then(c,true)
 else if(mD c w).Seen=2 then(⟨c.aP,c.bV.set w.toNat {mD c w with gU:=true,Seen:=0}⟩,true)
 else(⟨c.aP,c.bV.set w.toNat {mD c w with Seen:=(mD c w).Seen+1}⟩,false)
def bES{c:aI}(a:COk c)(b:0<=w/\w<=2):POk c.aP (mD c w):=by
 have:=DZ a b;have d:=a.2.1;rw[eQ b.1 aa] at this;injection this with this
 rw[<-this];exact a.2.2 _ (dO _)
def bET{c:aI}(a:COk c)(d:0<=w/\w<=2)(e:Int):IJ c w e=some (a11 c w e):=by have g:=bES a d;have f:=DZ a d;have b:=a.small;unfold IJ BA a11;rw[mX b.1,kO,cB a,cJ,cB d,f];simp only[aE,eP,aU,aT,pQ,f];generalize mD c w=p at *;have h:bB (p.Seen+1)=p.Seen+1:=cK (by have:=g.2.1;omega) (by have:=g.2.1;omega);grind
def a12(c:aI)(e:Int):aI×Bool:=if c.aP=e/\e≠100000 then(⟨e+1,c.bV⟩,true) else(c,false)
def bEU{c:aI}(b:COk c)(e:Int):SR c e=some (a12 c e):=by
 have a:=b.small;unfold SR C0 a12;rw[mX a.1,kO,cB b];simp only[aE,eP,aU,aT];by_cases d:c.aP=e
 .have f:=b.1;grind[cK]
 .simp[d]
def aLQ(c:aI)(w e:Int):aI×Bool:=if 0<=e/\e<=c.aP then(⟨c.aP,c.bV.set w.toNat ⟨true,e,false,0⟩⟩,true) else(c,false)
def a9Q{c:aI}(b:COk c)(d:0<=w/\w<=2)(e:Int):M3 c w e=some (aLQ c w e):=by have a:=b.small;unfold M3 zN aLQ;rw[mX a.1,kO,cB b,cJ,cB d,cJ];simp only[aE,eP,aU,aT];grind[DZ]
def aAH(c:aI)(w:Int):aI×Bool:=if(mD c w).On then(⟨c.aP,c.bV.set w.toNat ⟨false,0,false,0⟩⟩,true) else(c,false)
def YY{c:aI}(b:COk c)(d:0<=w/\w<=2):BI c w=some (aAH c w):=by have a:=b.small;have e:=DZ b d;unfold BI zO aAH;rw[mX a.1,kO,cB b,cJ,cB d,e];grind
def aD5(b:aA)(s:Sub):aA×Sub:=
 if s.Pc=0 then(b,{s with Pc:=1,E:=b.aI.aP,B:=0})
 else if s.Pc=1 then
  if 0<=s.B/\s.B<=2 then
   if(a11 b.aI s.B s.E).2 then({b with aI:=(a11 b.aI s.B s.E).1},{s with Pc:=if s.B=2 then 2 else 1,B:=s.B+1})
   else({b with aI:=(a11 b.aI s.B s.E).1},NL s 8)
  else(b,NL s 1)
 else if s.Pc=2 then({b with aI:=(a12 b.aI s.E).1},NL {s with Out:=if(a12 b.aI s.E).2 then 1 else s.Out} 0)
 else(b,NL s 1)
def a13{b:aA}(i:COk b.aI)(s:Sub):rC b s=some (aD5 b s):=by
 unfold rC aD5;rw[bEU i,cJ];simp only[b9,pR,pS,aE];by_cases j:s.Pc=0
 .grind
 .have e:(s.Pc == 0)=false:=aj
  simp only[e,aU,aT,aO j];by_cases g:s.Pc=1
  .have c:(s.Pc == 1)=true:=aj
   simp only[c,aS,aM g];by_cases d:0<=s.B/\s.B<=2
   .have k:bB (s.B+1)=s.B+1:=cY;simp only[cB d,eP,aU,aT,aM d,bET i d,aE,k];grind[NL]
   .simp only[dV d,oH,aS,aO d];rfl
  .have c:(s.Pc == 1)=false:=aj
   simp only[c,aU,aT,aO g];by_cases f:s.Pc=2
   .have a:(s.Pc == 2)=true:=aj
    simp only[a,aS,aM f];cases h:(a12 b.aI s.E).2<;>rfl
   .have a:(s.Pc == 2)=false:=aj
    simp only[a,aU,aT,aO f];rfl
def bEV(b:aA)(w:Int)(s:Sub):aA×Sub:=
 if s.Pc=0 then(b,{s with Pc:=1,E:=b.aI.aP})
 else if s.Pc=1 then
  if(aLQ b.aI w s.E).2 then({b with aI:=(aLQ b.aI w s.E).1},{s with Pc:=2}) else({b with aI:=(aLQ b.aI w s.E).1},NL s 1)
 else if s.Pc=2 then if b.aI.aP=s.E then(b,NL s 0) else(b,{s with Pc:=0})
 else(b,NL s 1)
def bIJ{b:aA}(k:COk b.aI)(j:0<=w/\w<=2)(s:Sub):IK b w s=some (bEV b w s):=by
 unfold IK bEV;rw[a9Q k j];simp only[b9,aE];by_cases i:s.Pc=0
 .grind
 .have d:(s.Pc == 0)=false:=aj
  simp only[d,aU,aT,aO i];by_cases f:s.Pc=1
  .have c:(s.Pc == 1)=true:=aj
   simp only[c,aS,aM f];cases h:(aLQ b.aI w s.E).2<;>rfl
  .have c:(s.Pc == 1)=false:=aj
   simp only[c,aU,aT,aO f];by_cases e:s.Pc=2
   .have a:(s.Pc == 2)=true:=aj
    simp only[a,aS,aM e];by_cases q:b.aI.aP=s.E
    .have g:(b.aI.aP == s.E)=true:=aj
     simp only[g,aS,aM q];rfl
    grind
   .have a:(s.Pc == 2)=false:=aj
    simp only[a,aU,aT,aO e];rfl
def IG(l:a7)(w:Int):bg:=(l.getD w.toNat ⟨[]⟩).Rows
def aAI(b:tS l)(a:0<=w/\w<=2):idx l w=some ⟨IG l w⟩:=by have:=b.1;rw[eQ a.1 aa];simp[IG,MQ,mA (show w.toNat<l.length by omega)]
def aWX(a:tS l)(b:0<=w/\w<=2):(IG l w).length<=24:=by
 have h:=aAI a b;have c:=a.1;rw[eQ b.1 aa] at h;injection h with h
 have:=a.small.2.2.2 _ (dO (show w.toNat<l.length by omega));grind
def aJT(b:aA)(w:Int)(s:Sub):aA×Sub:=
 if s.Pc=0 then(b,{s with Pc:=1,E:=b.aI.aP})
 else if s.Pc=1 then
  if 0<=s.E/\s.E<=b.aI.aP then
   if lE b.Mem s.A/\¬bM b.aQ (s.A % 32) then({b with aQ:=b.aQ.set w.toNat ⟨IG b.aQ w++[⟨s.A,s.E⟩]⟩},NL s 0) else(b,NL s 4)
  else(b,NL s 1)
 else(b,NL s 1)
def a5C{b:aA}(m:lD b)(k:0<=w/\w<=2)(s:Sub):uQ b w s=some (aJT b w s):=by
 have g:=m.1.2.2.1;have l:=m.1.1;obtain⟨r,q,p,_⟩:=lX.facts l;have o:=aAI g k;have i:=aWX g k;unfold uQ aJT;rw[cJ,lY l.1.1.1 aa (by grind[maxLen]) (by grind[maxLen]),cZ];simp only[b9,aE,rW,AG];by_cases n:s.Pc=0
 .grind
 .have f:(s.Pc == 0)=false:=aj
  simp only[f,aU,aT,aO n];by_cases j:s.Pc=1
  .have a:(s.Pc == 1)=true:=aj
   simp only[a,aS,aM j];by_cases e:0<=s.E/\s.E<=b.aI.aP
   .simp only[cB e,eP,aU,aT,aM e];by_cases c:lE b.Mem s.A
    .have hh:=c.1;simp only[cB c,eP,aU,aT,aM hh,HK g,aE];by_cases d:bM b.aQ (s.A % 32)
     .simp only[cB d,aS,aO (show ¬(lE b.Mem s.A/\¬bM b.aQ (s.A % 32)) from λh=>h.2 d)];rfl
     .simp only[dV d,aU,aT,o,aE,aM (show lE b.Mem s.A/\¬bM b.aQ (s.A % 32) from⟨c,d⟩)];rw[EP];rfl
    .simp only[dV c,oH,aS,aO (show ¬(lE b.Mem s.A/\¬bM b.aQ (s.A % 32)) from λh=>c h.1)];rfl
   .simp only[dV e,oH,aS,aO e];rfl
  .have a:(s.Pc == 1)=false:=aj
   simp only[a,aU,aT,aO j];rfl
def aB9(r:eW)(e:Int):Prop:=2<=e/\r.aP<=bB (e-2)
instance (r:eW) (e:Int):Decidable (aB9 r e):=by unfold aB9;infer_instance
def aS4(r:eW)(e:Int):M1 r e=some (decide (aB9 r e)):=by unfold M1 JM aB9;grind
def QV(l:bg)(e:Int)(k:Nat):Nat:=k+(l.drop k).findIdx (λr=>decide (aB9 r e))
def bEW{l:bg}(m:l.length<=1000){a e:Int}:wY l a e=some (if QV l e a.toNat<l.length then(QV l e a.toNat:Int) else -1):=by
 have f:(if 0<a then a else 0)=(a.toNat:Int):=aa
 unfold wY;rw[f];have c:∀d k:Nat,l.length<=k+d->loop (g8 l e) (k:Int)=some (if QV l e k<l.length then Out.ret (QV l e k:Int) else Out.brk ()):=by
  intro d;induction d with
  |zero=>
   intro k j;rw[bR (r:=Out.brk ()) (by simp_all[g8,aO]),aO (by grind[QV])]
  |succ d h=>
   intro k j;by_cases b:k<l.length
   .have n:l.drop k=l[k]::l.drop (k+1):=EU b;by_cases i:aB9 l[k] e
    .have g:QV l e k=k:=by grind[QV]
     simp_all[bR,g8,aZ,aS4]
    .have g:QV l e k=QV l e (k+1):=by unfold QV;grind
     rw[bO (s':=((k+1:Nat):Int)) (by simp only[g8];rw[cX,aZ b,aE,aS4 _ e,aE,dV i,fF,cY];rfl),h (k+1) aa,g]
   grind
 rw[c l.length a.toNat aa];split<;>rfl
def UA(m:Mem)(w h:Int):Mem:=
 if h/32+1<=6 then
  if(fY m.aD.Own (w*3+bH m.Heap (h % 32)).toNat).length<2 then⟨⟨st4 m.Heap.Bytes (fW (h % 32) (bH m.Heap (h % 32))).toNat (h/32+1),m.Heap.Class⟩,⟨m.aD.Global,m.aD.Own.set (w*3+bH m.Heap (h % 32)).toNat ⟨fY m.aD.Own (w*3+bH m.Heap (h % 32)).toNat++[h % 32]⟩⟩⟩
  else⟨⟨st4 m.Heap.Bytes (fW (h % 32) (bH m.Heap (h % 32))).toNat (h/32+1),m.Heap.Class⟩,⟨m.aD.Global.set (bH m.Heap (h % 32)).toNat ⟨fY m.aD.Global (bH m.Heap (h % 32)).toNat++[h % 32]⟩,m.aD.Own⟩⟩
 else⟨⟨st4 m.Heap.Bytes (fW (h % 32) (bH m.Heap (h % 32))).toNat (h/32+1),m.Heap.Class⟩,m.aD⟩
def aJU(r:lX m){h:Int}(D:0<=w/\w<=2)(l:lE m h):BC m w (h % 32)=some (UA m w h):=by
 obtain⟨n,F,E,H,G,v,B,x,i,g⟩:=lX.facts r;have p:=r.1.1.1;have hh:=l.1;have b:=jB l.2.1;have y:=MB b;have j:0<=bH m.Heap (h % 32)/\bH m.Heap (h % 32)<=2:=by obtain⟨_,q,e⟩:=xV b;rw[e];exact lB.1 aa
 have A:1<=h/32/\h/32<=6:=by grind[j3]
 have u:fW (h % 32) (bH m.Heap (h % 32))=(((fW (h % 32) (bH m.Heap (h % 32))).toNat:Nat):Int):=aa
 have t:bB (h/32+1)=h/32+1:=cY;unfold BC UA;rw[iY p,aE,tP p b,l.2.2,aE,z6,aE,t];generalize z:(fW (h % 32) (bH m.Heap (h % 32))).toNat=a at u;rw[u,QH aa aa aa];simp only[aE,JQ,JO,t];generalize bH m.Heap (h % 32)=c at *;by_cases q:h/32+1<=6
 .have s:(w*3+c).toNat<m.aD.Own.length:=aa
  have C:idx m.aD.Own (w*3+c)=some m.aD.Own[(w*3+c).toNat]:=eQ aa aa;have d:c.toNat<m.aD.Global.length:=aa
  have f:idx m.aD.Global c=some m.aD.Global[c.toNat]:=eQ aa aa;have J:=g _ (dO s);have I:=i _ (dO d);rw[cB q,aM rfl,aM q];unfold U3;rw[(YX D j).1];simp only[aE,C,f,JN,S1,S3,<-eO s,<-eO d];by_cases o:m.aD.Own[(w*3+c).toNat].bA.length<2
  .have k:(m.aD.Own[(w*3+c).toNat].bA.length:Int)<2:=aa
   simp only[cB k,aS,aM o];grind[b7]
  .have k:¬(m.aD.Own[(w*3+c).toNat].bA.length:Int)<2:=aa
   simp only[dV k,aU,aT,aO o];grind[b7]
 simp_all[aO]
def aS5(z:al)(w:Int):Int:=z.getD w.toNat 0
def YZ(a:UP z)(b:0<=w/\w<=2):idx z w=some (aS5 z w):=by have:=a.1;grind[eQ,aS5]
def aD6(l:bg)(k:Int):eW:=l.getD k.toNat ⟨0,0⟩
def aJV{l:bg}{k:Int}(h:0<=k/\k<l.length):idx l k=some (aD6 l k):=by grind[eQ,aD6]
def aCA(l:bg)(s:Sub):Prop:=0<=s.Row/\s.Row<l.length/\(aD6 l s.Row).Handle=s.H
instance (l:bg) (s:Sub):Decidable (aCA l s):=by unfold aCA;infer_instance
def aD7(b:aA)(w:Int)(s:Sub):aA×Sub:=
 if s.Pc=0 then(b,{s with Pc:=1,E:=b.aI.aP,Row:=0})
 else if s.Pc=1 then
  if QV (IG b.aQ w) s.E s.Row.toNat<(IG b.aQ w).length then(b,{s with Pc:=2,Row:=(QV (IG b.aQ w) s.E s.Row.toNat:Int),B:=0,H:=(aD6 (IG b.aQ w) (QV (IG b.aQ w) s.E s.Row.toNat:Int)).Handle})
  else(b,NL s 0)
 else if s.Pc=2 then
  if(0<=s.B/\s.B<=2)/\aCA (IG b.aQ w) s then
   if aS5 b.iU s.B=s.H then(b,{s with Pc:=1,Row:=s.Row+1}) else(b,{s with Pc:=if s.B=2 then 3 else 2,B:=s.B+1})
  else(b,NL s 1)
 else if s.Pc=3 then
  if aCA (IG b.aQ w) s/\aB9 (aD6 (IG b.aQ w) s.Row) s.E then({b with Mem:=UA b.Mem w s.H,aQ:=b.aQ.set w.toNat ⟨(IG b.aQ w).eraseIdx s.Row.toNat⟩},{s with Pc:=1,Out:=bB (s.Out+1)})
  else(b,NL s 1)
 else(b,NL s 1)
def aMK(b:tS l)(a:0<=w/\w<=2){r:eW}(c:r∈IG l w):r∈cN l:=by
 have h:=aAI b a;have d:=b.1;rw[eQ a.1 aa] at h;injection h with h
 exact aL0.2 ⟨l[w.toNat],dO _,aj⟩
def a14{l:bg}{k:Int}(h:0<=k/\k<l.length):aD6 l k∈l:=by have:=aJV h;grind[eQ]
def a15{b:aA}(t:lD b)(p:0<=w/\w<=2)(s:Sub):rD b w s=some (aD7 b w s):=by
 have x:=t.1.2.2.1;have F:=t.1.1;have E:=aAI x p;have z:=aWX x p;have v:=λr j=>aMK x p (r:=r) j;unfold rD aD7;rw[E];simp only[aE,b9];generalize IG b.aQ w=l at *;by_cases D:s.Pc=0
 .grind
 have u:(s.Pc == 0)=false:=aj
 simp only[u,aU,aT,aO D];by_cases C:s.Pc=1
 .have i:(s.Pc == 1)=true:=aj
  simp only[i,aS,aM C,bEW (show l.length<=1000 by omega),aE];by_cases q:QV l s.E s.Row.toNat<l.length
  .have n:¬(QV l s.E s.Row.toNat:Int)<0:=aa
   simp only[aM q,dV n,aU,aT,aJV (l:=l) (k:=(QV l s.E s.Row.toNat:Int)) aa,aE]
  .simp only[aO q,cB (show(-1:Int)<0 by omega),aS];rfl
 have i:(s.Pc == 1)=false:=aj
 simp only[i,aU,aT,aO C];have el:bB ((l.length:Int)-1)=(l.length:Int)-1:=cY;by_cases B:s.Pc=2
 .have g:(s.Pc == 2)=true:=aj
  simp only[g,aS,aM B,cJ,el,aE,fZ,pT,b9];by_cases o:0<=s.B/\s.B<=2
  .simp only[cB o,eP,aU,aT];by_cases e:0<=s.Row/\s.Row<=(l.length:Int)-1
   .simp only[cB e,eP,aU,aT,aJV (l:=l) (k:=s.Row) aa,aE];by_cases m:(aD6 l s.Row).Handle=s.H
    .have c:((aD6 l s.Row).Handle != s.H)=false:=aj
     have d:(0<=s.B/\s.B<=2)/\aCA l s:=⟨o,e.1,aa,m⟩;have H:bB (s.B+1)=s.B+1:=cY;have y:bB (s.Row+1)=s.Row+1:=cY;simp only[c,aU,aT,aM d,YZ t.1.2.2.2 o,aE,H,y];grind
    .have c:((aD6 l s.Row).Handle != s.H)=true:=aj
     have d:¬((0<=s.B/\s.B<=2)/\aCA l s):=λh=>m h.2.2.2;simp only[c,aS,aO d,aE];rfl
   .have d:¬((0<=s.B/\s.B<=2)/\aCA l s):=λh=>e ⟨h.2.1,by have:=h.2.2.1;omega⟩;simp only[dV e,oH,aS,aO d,aE];rfl
  .have d:¬((0<=s.B/\s.B<=2)/\aCA l s):=λh=>o h.1;simp only[dV o,oH,aS,aO d,aE];rfl
 have g:(s.Pc == 2)=false:=aj
 simp only[g,aU,aT,aO B];by_cases A:s.Pc=3
 .have f:(s.Pc == 3)=true:=aj
  simp only[f,aS,aM A,cJ,el,aE,gA,wZ,b9];by_cases e:0<=s.Row/\s.Row<=(l.length:Int)-1
  .simp only[cB e,eP,aU,aT,aJV (l:=l) (k:=s.Row) aa,aE];by_cases m:(aD6 l s.Row).Handle=s.H
   .have c:((aD6 l s.Row).Handle != s.H)=false:=aj
    simp only[c,aU,aT,aS4,aE];by_cases j:aB9 (aD6 l s.Row) s.E
    .have d:aCA l s/\aB9 (aD6 l s.Row) s.E:=⟨⟨e.1,aa,m⟩,j⟩;have y:bB (s.Row+1)=s.Row+1:=cY;have a:=(t.2 _ (v _ (a14 (l:=l) (k:=s.Row) aa))).1;rw[m] at a;have G:(s.Row+1).toNat=s.Row.toNat+1:=aa
     simp only[cB j,eP,aU,aT,aM d,y,cZ,aM a.1,aE,aJU F p a,G];grind[b7,del_eq]
    .have d:¬(aCA l s/\aB9 (aD6 l s.Row) s.E):=λh=>j h.2;simp only[dV j,oH,aS,aO d,aE];rfl
   .have c:((aD6 l s.Row).Handle != s.H)=true:=aj
    have d:¬(aCA l s/\aB9 (aD6 l s.Row) s.E):=λh=>m h.1.2.2;simp only[c,aS,aO d,aE];rfl
  .have d:¬(aCA l s/\aB9 (aD6 l s.Row) s.E):=λh=>e ⟨h.1.1,by have:=h.1.2.1;omega⟩;simp only[dV e,oH,aS,aO d,aE];rfl
 .have f:(s.Pc == 3)=false:=aj
  simp only[f,aU,aT,aO A];rfl
def gZ(b:aA)(w:Int)(s:Sub):aA×Sub:=if s.eG then(b,s) else if s.Kind=1 then aLP b w s else if s.Kind=2 then aJT b w s else if s.Kind=3 then aD5 b s else if s.Kind=4 then aD7 b w s else if s.Kind=5 then bEV b w s else(b,NL s 1)
theorem aEV{b:aA}(a:lD b)(c:0<=w/\w<=2)(s:Sub):tE b w s=some (gZ b w s):=by
 unfold tE gZ;rw[a9P a.1.1 c,a5C a c,a13 a.1.2.1,a15 a c,bIJ a.1.2.1 c];simp only[aE,b9];cases s.eG
 .simp only[aU,aT,beq_iff_eq];split<;>(try rfl);split<;>(try rfl);split<;>(try rfl);split<;>(try rfl);split<;>rfl
 .rfl
def bIK{b:aA}(a:lD b)(c:0<=w/\w<=2)(s:Sub):lD (gZ b w s).1:=by obtain⟨x,y,d,_,h⟩:=step_eq a a.small c s;grind[aEV]
theorem aJW{b:al}{a:Nat}(h:a+4<=b.length)(c:j<a\/a+4<=j):bt (MP b a n) j=bt b j:=by unfold MP;rw[T8 ah,T8 ah,T8 ah,T8 aa,qU,qU,qU,qU]
theorem HOk.put(hh:HOk h)(E:0<=bH h s)(hn:0<=n/\n<=4294967295) :
  HOk ⟨MP h.Bytes ((fW s (bH h s)).toNat+4) n,h.Class⟩/\∀t,0<=bH h t->kN ⟨MP h.Bytes ((fW s (bH h s)).toNat+4) n,h.Class⟩ t=kN h t:=by
 obtain⟨b,B⟩:=hh;have o:=b.1;have f:gX ⟨MP h.Bytes ((fW s (bH h s)).toNat+4) n,h.Class⟩:=⟨by grind[YW],b.2.1,a9J b.2.2.1 _ hn,b.2.2.2⟩;obtain⟨p,i,G,M,N,ec,P,O⟩:=oT E;have v:0<=cV h p/\cV h p<=2:=lB.1 aa;have g:8+i*(bL (cV h p)).toNat+8<=64/\∀j,j<(dI (cV h p)).toNat->j*(bL (cV h p)).toNat+4<=i*(bL (cV h p)).toNat+4\/i*(bL (cV h p)).toNat+12<=j*(bL (cV h p)).toNat:=by grind[dI,bL]
 have m:∀q j,q<6->j<(dI (cV h q)).toNat->ld (MP h.Bytes ((fW s (bH h s)).toNat+4) n) (q*64+8+j*(bL (cV h q)).toNat) 4=ld h.Bytes (q*64+8+j*(bL (cV h q)).toNat) 4:=λq j c D=>by
  have L:=wE b c rfl D;refine SP aa (by grind[YW]) λk J I=>?_;by_cases e:q=p
  .grind[aJW]
  grind[aJW]
 refine⟨⟨f,λq c=>?_⟩,λt A=>?_⟩
 .rw[MF f c];have a:=(MF b c).1 (B q c);by_cases e:q=p
  .subst e;have d:¬cV h q<0:=aa
   unfold aG8 at a ⊢;have l:cV ⟨MP h.Bytes ((fW s (bH h s)).toNat+4) n,h.Class⟩ q=cV h q:=rfl;rw[l];rw[aO d] at a ⊢;obtain⟨⟨W,V,U⟩,T,S⟩:=a;have F:∀k,k<8->bt (MP h.Bytes ((fW s (bH h s)).toNat+4) n) (q*64+k)=bt h.Bytes (q*64+k):=λk C=>aJW aa aa;have R:=F 0 aa;grind
  .refine aG8.same c b (by grind[YW]) rfl (λk C=>aJW aa aa) a
 .obtain⟨H,K,r,u,w,z,y,x⟩:=oT A;have Q:bH ⟨MP h.Bytes ((fW s (bH h s)).toNat+4) n,h.Class⟩ t=bH h t:=rfl;grind[kN]
theorem lX.put(d:lX m)(h:0<=bH m.Heap s)(hn:0<=n/\n<=4294967295):zF m ⟨⟨MP m.Heap.Bytes ((fW s (bH m.Heap s)).toNat+4) n,m.Heap.Class⟩,m.aD⟩ (-1):=by obtain⟨a,b⟩:=HOk.put d.1.1 h hn;refine⟨lX.heap d a λx f=>⟨rfl,b x (lX.qW d f).1⟩,λt g _=>?_⟩;have c:=jN.1 g;have e:=b t c.1;exact⟨jN.2 ⟨c.1,c.2.1,aj⟩,e,rfl⟩
theorem start_eq(b:gX h)(a:0<=bH h s):C2 s (bH h s)=some (fW s (bH h s)+4)/\KF s (bH h s)=some (fW s (bH h s)+4):=by have c:=MB a;unfold C2 KF;rw[z6,FV,aE,qH,cY];simp
def aS6(c:gX h)(b:0<=bH h s):DH h s 0 4=some (fW s (bH h s)+4):=by
 have f:=MB b;have a:0<=bH h s/\bH h s<=2:=by obtain⟨_,q,e⟩:=xV b;rw[e];exact lB.1 aa
 have d:8<=gQ (bH h s)/\gQ (bH h s)<=40:=by obtain e|e|e:=mP a<;>rw[e]<;>decide
 unfold DH ZL;rw[jQ c,aE,(start_eq c b).2,aE,qH,T2];grind[eT,cK]
def aML(hn:0<=n/\n<=65535):∃t:aF,S5 n 4=some t/\(t == [])=false:=by
 have st:∀(m:Int) (c:aF) (i:Nat),c.length<=4->i<4->0<=m->m<=4294967295->NY 4 (m,c,(i:Int))=some (.next (m/256,[u8 (m % 256)]++c,((i+1:Nat):Int))):=λm c i d b a e=>by simp only[NY];rw[cX,EP,zC a,aJN a,cY (x:=m/256),cY];rfl
 unfold S5;rw[cJ];simp only[aE,show(decide ((1:Int)<=4/\(4:Int)<=7))=true from rfl,eP,aU,aT,NZ,dV (show ¬n<0 by omega)];rw[show(0:Int)=((0:Nat):Int) from rfl,bO (st n [] 0 ae aa hn.1 aa),bO (st _ _ 1 ae aa aa aa),bO (st _ _ 2 ae aa aa aa),bO (st _ _ 3 ae aa aa aa),bR (by simp only[NY];rw[fF])];simp only[aE,aFR,aFQ];rw[qH];simp
def a5D(s:lX m){h:Int}(hn:0<=n/\n<=65535):∃x c,C3 m h 0 4 n=some (x,c)/\RR m h 0 4 n=some (x,c)/\zF m x (-1)/\(c≠0->x=m):=by
 obtain⟨D,P,O,R,Q,k,K,I,H,G⟩:=lX.facts s;have f:=s.1.1.1;have o:m.Heap.Bytes.length<=maxLen:=by grind[maxLen]
 have a:(fC m.aD).length<=1073741824:=aa
 have F:m.aD.Global.length<=maxLen:=aa
 have E:m.aD.Own.length<=maxLen:=aa
 have y:kI 4=some true:=by grind[kI,eT]
 unfold C3 RR U8 aC6;rw[I0 k,PJ k,z7 o a,FX o a,cB s,cJ,y,T6 ⟨hn.1,aa⟩];simp only[aE,eP,aU,aT,BG,KG,show(decide ((1:Int)<=4/\(4:Int)<=7))=true from rfl,lY f a F E,CN f a F E];by_cases r:lE m h
 .have hh:=r.1;have b:=jB r.2.1;have J:=MB b;have l:0<=bH m.Heap (h % 32)/\bH m.Heap (h % 32)<=2:=by obtain⟨_,q,e⟩:=xV b;rw[e];exact lB.1 aa
  have N:8<=gQ (bH m.Heap (h % 32))/\gQ (bH m.Heap (h % 32))<=40:=by obtain e|e|e:=mP l<;>rw[e]<;>decide
  obtain⟨p,i,M,u,S,ec,L,T⟩:=oT b;have v:(fW (h % 32) (bH m.Heap (h % 32))).toNat+8<=384:=by
   rw[L];have d:0<=cV m.Heap p/\cV m.Heap p<=2:=by rw[<-ec];exact l
   generalize cV m.Heap p=c at u d;obtain rfl|rfl|rfl:=mP d
   .rw[show(dI 0).toNat=4 from rfl] at u;rw[show(bL 0).toNat=12 from rfl];omega
   .rw[show(dI 1).toNat=2 from rfl] at u;rw[show(bL 1).toNat=20 from rfl];omega
   .rw[show(dI 2).toNat=1 from rfl] at u;rw[show(bL 2).toNat=44 from rfl];omega
  simp only[cB r,eP,aU,aT,cZ,aM hh,aE,iY f,qI,cJ,hh.mod.1,aS6 f b];rw[cK (x:=gQ (bH m.Heap (h % 32))-1) aa aa,cB (show(0:Int)<=0/\(0:Int)<=gQ (bH m.Heap (h % 32))-1 by omega),cK (x:=gQ (bH m.Heap (h % 32))-0) aa aa,dV (show ¬gQ (bH m.Heap (h % 32))-0<4 by omega)];simp only[eP,aU,aT,BF,(start_eq f b).1,aE];rw[cK (x:=fW (h % 32) (bH m.Heap (h % 32))+4+0) aa aa,Int.add_zero,dV (show ¬fW (h % 32) (bH m.Heap (h % 32))+4<0 by omega)];have C:fW (h % 32) (bH m.Heap (h % 32))+4=(((fW (h % 32) (bH m.Heap (h % 32))).toNat+4:Nat):Int):=aa
  have j:=lX.put s b (n:=n) ⟨hn.1,aa⟩;have g:∃t:aF,S5 n 4=some t/\(t == [])=false:=aML hn;obtain⟨t,A,z⟩:=g;have B:kJ m.Heap.Bytes (((fW (h % 32) (bH m.Heap (h % 32))).toNat+4:Nat):Int) 4=some (ld m.Heap.Bytes ((fW (h % 32) (bH m.Heap (h % 32))).toNat+4) 4):=oG f.2.2.1 (w:=4) aa aa aa;rw[C,B];simp only[aE,aU,aT,bne_self_eq_false,A,z,show(F5 n == [])=false from rfl];rw[aEU aa aa ⟨hn.1,aa⟩,aSX aa aa ⟨hn.1,aa⟩];exact⟨_,_,rfl,rfl,j,λq=>absurd rfl q⟩
 .simp only[dV r,oH,aS,aE,show((4:Int) != 0)=true from rfl];grind[zF.refl]
def a5E{b:aA}(s:lX b.Mem)(h:Int):∃r,O5 b.Mem.Heap h 0 4=some r/\RS b h 0 4=some r:=by
 have c:=s.1.1.1;have y:=c.1;have m:b.Mem.Heap.Bytes.length<=maxLen:=by grind[maxLen]
 have f:kI 4=some true:=by grind[kI,eT]
 unfold O5 RS xC;rw[eB,hO,cJ,f,MA m,cB c];simp only[aE,BH,yP,show(decide ((1:Int)<=4/\(4:Int)<=7))=true from rfl,eP,aU,aT];by_cases hh:j3 h
 .simp only[cB hh,eP,aU,aT,cZ,aM hh,aE,iY c,jQ c,hh.mod.1];by_cases k:bH b.Mem.Heap (h % 32)<0
  .simp_all[m5]
  .have a:0<=bH b.Mem.Heap (h % 32):=aa
   have o:=MB a;have l:0<=bH b.Mem.Heap (h % 32)/\bH b.Mem.Heap (h % 32)<=2:=by obtain⟨_,q,e⟩:=xV a;rw[e];exact lB.1 aa
   have u:8<=gQ (bH b.Mem.Heap (h % 32))/\gQ (bH b.Mem.Heap (h % 32))<=40:=by obtain e|e|e:=mP l<;>rw[e]<;>decide
   obtain⟨p,i,t,v,z,ec,B,A⟩:=oT a;have d:(fW (h % 32) (bH b.Mem.Heap (h % 32))).toNat+8<=384:=by grind[bL]
   simp only[dV k,aU,aT,qI,cJ,aE,aS6 c a];rw[cK (x:=gQ (bH b.Mem.Heap (h % 32))-1) aa aa,cB (show(0:Int)<=0/\(0:Int)<=gQ (bH b.Mem.Heap (h % 32))-1 by omega),cK (x:=gQ (bH b.Mem.Heap (h % 32))-0) aa aa,dV (show ¬gQ (bH b.Mem.Heap (h % 32))-0<4 by omega)];simp only[eP,aU,aT,m5,cZ,aM hh,(start_eq c a).1,aE];rw[cK (x:=fW (h % 32) (bH b.Mem.Heap (h % 32))+4+0) aa aa,Int.add_zero,dV (show ¬fW (h % 32) (bH b.Mem.Heap (h % 32))+4<0 by omega)];have n:fW (h % 32) (bH b.Mem.Heap (h % 32))+4=(((fW (h % 32) (bH b.Mem.Heap (h % 32))).toNat+4:Nat):Int):=aa
   have j:kJ b.Mem.Heap.Bytes (((fW (h % 32) (bH b.Mem.Heap (h % 32))).toNat+4:Nat):Int) 4=some (ld b.Mem.Heap.Bytes ((fW (h % 32) (bH b.Mem.Heap (h % 32))).toNat+4) 4):=oG c.2.2.1 (w:=4) aa aa aa;have g:pD b.Mem.Heap.Bytes (((fW (h % 32) (bH b.Mem.Heap (h % 32))).toNat+4:Nat):Int) 4=some (ld b.Mem.Heap.Bytes ((fW (h % 32) (bH b.Mem.Heap (h % 32))).toNat+4) 4):=qJ c.2.2.1 (w:=4) aa aa aa;rw[n,j,g];simp
 simp_all
def a16{l:bm}(b:l.length<=maxLen)(f:mS->Bool)(g:mS->ay)(c:∀x∈l,g x=some (f x)):o5 l g=some (l.any f):=by
 obtain⟨o,e,h⟩:=YU l f (body:=o4 l g) (λk a=>by
  simp only[o4];rw[cX,aZ a,lZ (MZ a b)];grind) (by simp[o4])
 grind[o5,EA,JW,JV]
def aS7{l:av}(b:l.length<=maxLen)(f:Queue->Bool)(g:Queue->ay)(c:∀x∈l,g x=some (f x)):l6 l g=some (l.any f):=by
 obtain⟨o,e,h⟩:=YU l f (body:=l4 l g) (λk a=>by
  simp only[l4];rw[cX,aZ a,lZ (MZ a b)];grind) (by simp[l4])
 grind[l6,xA,D3,D2]
def MI(k:Int):Prop:=k=1\/k=2\/k=3\/k=7
instance (k:Int):Decidable (MI k):=by unfold MI;infer_instance
def tT(o:mS):Prop:=(1<=o.Kind/\o.Kind<=7)/\(MI o.Kind\/o.Cell=0)/\(0<=o.Cell/\o.Cell<=1)/\if o.Kind=1 then(0<=o.jZ/\o.jZ<=100)/\0<=o.cT/\o.cT<=65535 else o.jZ=0/\o.cT=0
instance (o:mS):Decidable (tT o):=by unfold tT;infer_instance
def hb0(x:Int):(x == 0)=decide (x=0):=aj
def bMB:MI 1:=.inl rfl
def aWY(k:Int):A0 k=some (decide (MI k)):=by grind[A0,nO,MI]
def aZD(o:mS):aEM o=some (decide (tT o)):=by
 unfold aEM JH RB RC tT;rw[cJ,aWY,cJ,cJ,cJ];by_cases c:1<=o.Kind/\o.Kind<=7
 .by_cases b:MI o.Kind
  .by_cases e:0<=o.Cell/\o.Cell<=1
   .by_cases a:o.Kind=1
    .by_cases d:0<=o.jZ/\o.jZ<=100<;>simp[c,b,e,a,d,bMB]<;>exact hb0 _
    grind
   grind
  .by_cases f:o.Cell=0
   .by_cases a:o.Kind=1
    .exact absurd (.inl a) b
    grind
   grind
 .simp[c]
theorem aZE(o:mS):XY o=some (decide (tT o)):=by
 have d:∀x,sC o x=if 1<=o.Kind/\o.Kind<=7 then(if x then some (decide ((0<=o.Cell/\o.Cell<=1)/\if o.Kind=1 then(0<=o.jZ/\o.jZ<=100)/\0<=o.cT/\o.cT<=65535 else o.jZ=0/\o.cT=0):Bool) else some (decide (o.Cell=0/\if o.Kind=1 then(0<=o.jZ/\o.jZ<=100)/\0<=o.cT/\o.cT<=65535 else o.jZ=0/\o.cT=0))) else some false:=λx=>by
  unfold sC JX RJ RK;rw[eT,eT,eT,eT];by_cases a:1<=o.Kind/\o.Kind<=7
  .cases x
   .by_cases c:o.Cell=0
    .by_cases f:o.Kind=1
     .by_cases e:0<=o.jZ/\o.jZ<=100<;>simp[a,c,f,e,bMB]<;>exact hb0 _
     grind
    grind
   .by_cases h:0<=o.Cell/\o.Cell<=1
    .by_cases f:o.Kind=1
     .by_cases e:0<=o.jZ/\o.jZ<=100<;>simp[a,h,f,e,bMB]<;>exact hb0 _
     grind
    grind
  .simp[a]
 have b:XY o=sC o (decide (MI o.Kind)):=by unfold XY MI;grind
 rw[b,d];unfold tT;by_cases a:1<=o.Kind/\o.Kind<=7
 .by_cases g:MI o.Kind
  .simp only[a,g,and_self,decide_true,aS,true_or,true_and]
  .by_cases c:o.Cell=0
   .simp[a,g,c]
   .simp[a,g,c]
 .simp[a]
theorem aJX(h:Int):LH h=some (decide (fH h)):=by grind[LH,HA,fH,eB]
theorem aJY(h:Int):BV h=some (decide (fH h)):=by grind[BV,BU,fH,hO]
def a17(l:bm):Prop:=∀o∈l,tT o
instance (l:bm):Decidable (a17 l):=by unfold a17;infer_instance
def QOk(q:Queue):Prop:=q.mY.length<=12/\a17 q.mY
instance (q:Queue):Decidable (QOk q):=by unfold QOk;infer_instance
def Y0(l:av):Prop:=l.length=3/\∀q∈l,QOk q
instance (l:av):Decidable (Y0 l):=by unfold Y0;infer_instance
def aZF{l:av}(m:l.length<=maxLen):RD l=some (decide (Y0 l)):=by
 unfold RD;have d:∀k (c:k<l.length),l[k].mY.length<=12->loop (qY l (k:Int)) 0=some (if a17 l[k].mY then Out.brk () else Out.ret false):=by
  intro k c b;have n:∀j (e:j<l[k].mY.length),qY l (k:Int) (j:Int)=if tT l[k].mY[j] then some (.next ((j+1:Nat):Int)) else some (.stop (Out.ret false)):=by intro j e;simp only[qY];rw[aZ c,aE,cX,aE,aZ e,aE,aZD,aE,cY];simp
  have:=lA (f:=qY l (k:Int)) l[k].mY (λj=>(j:Int)) tT (Out.brk ()) (Out.ret false) (λj e h=>aj) (λj e h=>aj) (by
   simp_all[qY,aZ])
  refine Eq.trans this ?_;congr 1
 have i:∀k (c:k<l.length),qZ l (k:Int)=if QOk l[k] then some (.next ((k+1:Nat):Int)) else some (.stop (Out.ret false)):=by
  intro k c;simp only[qZ];rw[cX,aZ c,aE];by_cases b:l[k].mY.length<=12
  .rw[qH,d k c b];by_cases q:a17 l[k].mY
   .rw[aM q,aM ⟨b,q⟩];grind[aAV,aAU,lZ]
   .rw[aO q,aO (λa=>q a.2)];rfl
  .rw[cX,aO (λa=>b a.1)]
 have g:loop (qZ l) 0=_:=lA (f:=qZ l) l (λk=>(k:Int)) QOk (Out.brk ()) (Out.ret false) (λk c h=>aj) (λk c h=>aj) (by simp[qZ]);rw[g];by_cases q:∀x∈l,QOk x
 .rw[aM q];simp only[aE,aAW,aAT];congr 1;rw[XA];simp only[beq_iff_eq,decide_eq_true_eq];exact⟨λa=>⟨aa,q⟩,λa=>by have:=a.1;omega⟩
 .rw[aO q,dV (show ¬Y0 l from λa=>q a.2)];rfl
def aZG{l:av}(f:l.length<=maxLen)(c:∀q∈l,q.mY.length<=maxLen):U9 l=some (decide (Y0 l)):=by
 have g:∀q∈l,N2 q=some (!decide (QOk q)):=by
  intro q d;unfold N2 C6;have e:∀x∈q.mY,GH x=some (!decide (tT x)):=λx _=>by grind[GH,aZE]
  rw[a16 (c q d) (λx=>!decide (tT x)) _ e,V1];by_cases h:q.mY.length<=12
  .rw[qH];by_cases b:∀x∈q.mY,tT x
   .rw[cB b,cB (show QOk q from⟨h,b⟩)];rfl
   .rw[dV b,dV (show ¬QOk q from λa=>b a.2)];rfl
  .rw[cX,dV (show ¬QOk q from λa=>h a.1)];rfl
 unfold U9 JY;rw[aS7 f (λq=>!decide (QOk q)) _ g,V1];by_cases h:l.length=3
 .rw[cX];grind[Y0]
 .rw[qH,dV (show ¬Y0 l from λa=>h a.1)]
def aJZ:fE:=⟨false,⟨0,0,0,0⟩,0,0,⟨0,0,0,0,0,0,0,0,0,false⟩,0,0,0,0⟩
def JOk(j:fE):Prop:=if j.gW then tT j.Op/\fH j.H/\fH j.Old else j=aJZ
instance (j:fE):Decidable (JOk j):=by unfold JOk;infer_instance
def aD8{j:fE}(a:j.gW=true):JOk j↔tT j.Op/\fH j.H/\fH j.Old:=by simp_all[JOk]
def a18{j:fE}(a:j.gW=false):JOk j↔j=aJZ:=by simp_all[JOk]
def SOk(s:aJ):Prop:=lD s.aA/\s.Cells.length=2/\s.aH.length=3/\Y0 s.aY/\(0<=s.aG/\s.aG<=1000000)/\(∀h∈s.Cells,fH h)/\∀j∈s.aH,JOk j
instance (s:aJ):Decidable (SOk s):=by unfold SOk;infer_instance
def UB{l:List O}(b:0<=w)(a:w<l.length)(x:O):idx (l.set w.toNat x) w=some x:=by simp_all[idx]
def jD{a b:Int}(h:¬a=b):(a == b)=false:=aj
def aAJ{a b:Int}(h:¬a=b):(a != b)=true:=aj
def aJ0{c:aI}(a:COk c)(b:0<=w/\w<=2):∃r,BI c w=some r/\ZM c w=some r/\COk r.1/\r.1.aP=c.aP:=by
 obtain⟨p,e,d⟩:=aLN a b;unfold BI ZM;rw[mX a.small.1,FZ a.small.1,kO,zE a.small.2,jM,cJ,cB a,cB b];simp only[aE,eP,aU,aT,e,zO,FF];cases p.On with
 |true=>
  simp only[eP,aU,aT];have f:=a.1;exact⟨_,rfl,rfl,a.aY9 ⟨aj,ae,λ_=>rfl⟩,rfl⟩
 |false=>simp_all
def UP.set(a:UP z)(k:Nat){h:Int}(hh:fH h):UP (z.set k h):=⟨by simpa using a.1,λq b=>(nM b).elim (a.2 q) (λe=>e ▸ hh)⟩
def a5F(a:UP z)(b:0<=w/\w<=2)(h:Int):∃r,C4 z w h=some r/\RU z w h=some r/\UP r.1:=by
 have d:=a.1;have c:idx z w=some (z[w.toNat]' aa):=eQ b.1 aa;unfold C4 RU;rw[wF aa,sZ aa,FY (by grind[maxLen]),WZ (by grind[maxLen]),cB a,cJ,jM,cB b,eB,hO];simp only[aE,eP,aU,aT,rI,yQ,c];by_cases q:j3 h
 .simp only[cB q,eP,aU,aT];exact⟨_,rfl,rfl,a.set _ (.inr q)⟩
 simp_all
def bEX(a:UP z)(b:0<=w/\w<=2):∃r,M5 z w=some r/\ZN z w=some r/\UP r.1:=by
 have d:=a.1;have c:idx z w=some (z[w.toNat]' aa):=eQ b.1 aa;unfold M5 ZN;rw[wF aa,sZ aa,FY (by grind[maxLen]),WZ (by grind[maxLen]),cB a,cJ,jM,cB b];simp only[aE,eP,aU,aT,zP,FG,c];by_cases q:(z[w.toNat]' aa)=0
 .simp_all
 .simp only[jD q,aU,aT];exact⟨_,rfl,rfl,a.set _ (.inl rfl)⟩
def lD.clock{b:aA}(a:lD b){cl:aI}(h:COk cl)(e:b.aI.aP<=cl.aP):lD ⟨b.Mem,cl,b.aQ,b.iU⟩:=⟨⟨a.1.1,h,a.1.2.2⟩,λr c=>⟨(a.2 r c).1,Int.le_trans (a.2 r c).2 e⟩⟩
def lD.haz{b:aA}(a:lD b)(h:UP z):lD ⟨b.Mem,b.aI,b.aQ,z⟩:=⟨⟨a.1.1,a.1.2.1,a.1.2.2.1,h⟩,a.2⟩
def lD.mem{b:aA}(a:lD b)(h:zF b.Mem m (-1)):lD ⟨m,b.aI,b.aQ,b.iU⟩:=⟨⟨h.1,a.1.2⟩,λr c=>⟨h.live (a.2 r c).1 aa,(a.2 r c).2⟩⟩
theorem SOk.put{s:aJ}(a:SOk s){b:aA}(i:lD b){c:al}(d:c.length=2/\∀h∈c,fH h){j:fE}(g:JOk j)(l:bw):SOk ⟨b,c,s.aH.set w.toNat j,s.aY,l,s.aG⟩:=⟨i,d.1,by simpa using a.2.2.1,a.2.2.2.1,a.2.2.2.2.1,d.2,λq f=>(nM f).elim (a.2.2.2.2.2.2 q) (λe=>e ▸ g)⟩
theorem dZ{j:fE}(h:j.gW=true)(a:tT j.Op/\fH j.H/\fH j.Old):JOk j:=(aD8 h).2 a
section
variable {s:aJ} (hs:SOk s) (hl:s.Log.length<=1000000000) {w:Int} (hw:0<=w/\w<=2) {j:fE} (hj:idx s.aH w=some j) (hb:j.gW=true) (hjo:tT j.Op/\fH j.H/\fH j.Old)
include hs hl hw hj hb hjo
theorem bMC(D:j.Op.Kind=1):∃x,((IL s w j).bind λq=>dK w q.1 q.2)=some x/\KK s w=some x/\SOk x/\x.Log.length<=s.Log.length+1:=by
 have E:=hs.2.2.1;have g:∀x,idx (s.aH.set w.toNat x) w=some x:=UB hw.1 aa;have z:∀(e:Ev) {O:Type} (k:Option O),need (s.Log.length + [e].length<=1073741824) k=k:=λe _ k=>EP;have a:s.Cells.length=2/\∀h∈s.Cells,fH h:=⟨hs.2.1,hs.2.2.2.2.2.1⟩;have b:idx s.Cells j.Op.Cell=some (s.Cells[j.Op.Cell.toNat]'(by have:=hjo.1.2.2.1;omega)):=eQ hjo.1.2.2.1.1 (by have:=hjo.1.2.2.1;omega);have n:fH (s.Cells[j.Op.Cell.toNat]' aj):=a.2 _ (dO _);generalize (s.Cells[j.Op.Cell.toNat]' aj)=cell at b n;have f:0<=j.Op.cT/\j.Op.cT<=65535:=by have:=hjo.1.2.2.2;grind
 unfold IL KK;rw[hj];simp only[aE,bS,cG,eN,dK,eK,fJ];by_cases u:j.Pc=0
 .obtain⟨x,y,m,l,d⟩:=step_eq hs.1 hs.1.small hw j.Sub;simp only[u,beq_self_eq_true,aS,m,l,aE];cases A:y.eG with
  |false=>simp only[oH,aS,aE,hj];exact⟨_,rfl,rfl,hs.put d a (by grind[dZ]) _,j5 _⟩
  |true=>
   simp only[eP,aU,aT];by_cases c0:y.Code=0
   .simp only[c0,bne_self_eq_false,aU,aT,eB,hO,aE];by_cases o:j3 y.Out
    .simp only[cB o,eP,aU,aT,aE,hj];exact⟨_,rfl,rfl,hs.put d a (by exact dZ hb ⟨hjo.1,.inr o,hjo.2.2⟩) _,j5 _⟩
    .simp only[dV o,oH,aS,aE,hj];exact⟨_,rfl,rfl,hs.put d a (by grind[dZ]) _,j5 _⟩
   .simp only[aAJ c0,aS,aE,hj];exact⟨_,rfl,rfl,hs.put d a (by grind[dZ]) _,j5 _⟩
 simp only[jD u,aU,aT];by_cases t:j.Pc=1
 .obtain⟨x,c,m,l,C,B⟩:=a5D hs.1.1.1 (h:=j.H) f;simp only[t,beq_self_eq_true,aS,m,l,aE,KH,hj,cG,eN];by_cases c0:c=0
  .simp only[c0,bne_self_eq_false,aU,aT,aE,hj];exact⟨_,rfl,rfl,hs.put (hs.1.mem C) a (by grind[dZ]) _,j5 _⟩
  .have:=B c0;subst this;simp only[aAJ c0,aS,aE,hj];exact⟨_,rfl,rfl,hs.put hs.1 a (by grind[dZ]) _,j5 _⟩
 simp only[jD t,aU,aT];by_cases r:j.Pc=2
 .have i:(s.Cells.set j.Op.Cell.toNat j.H).length=2/\∀h∈s.Cells.set j.Op.Cell.toNat j.H,fH h:=⟨aj,λq v=>(nM v).elim (a.2 q) (λe=>e ▸ hjo.2.1)⟩;simp only[r,beq_self_eq_true,aS,b,aE,g,z,KJ,eE,eZ,KI,cG,eN,fJ];by_cases c0:cell=0
  .simp only[c0,beq_self_eq_true,aS,aE,hj,O2];exact⟨_,rfl,rfl,hs.put hs.1 i (by grind[dZ]) _,ae⟩
  .simp only[jD c0,aU,aT,aE,hj,O2];exact⟨_,rfl,rfl,hs.put hs.1 i (by grind[dZ]) _,ae⟩
 simp only[jD r,aU,aT];by_cases p:j.Pc=3
 .obtain⟨x,y,m,l,d⟩:=step_eq hs.1 hs.1.small hw j.Sub;simp only[p,beq_self_eq_true,aS,m,l,aE];cases A:y.eG with
  |false=>simp only[oH,aS,aU,aT,aE,hj];exact⟨_,rfl,rfl,hs.put d a (by grind[dZ]) _,j5 _⟩
  |true=>simp only[eP,aS,aU,aT,aE,hj];exact⟨_,rfl,rfl,hs.put d a (by grind[dZ]) _,j5 _⟩
 simp only[jD p,aU,aT,aE,hj];exact⟨_,rfl,rfl,hs.put hs.1 a (by grind[dZ]) _,j5 _⟩
theorem get_eq(A:j.Op.Kind=2):∃x,((IM s w j).bind λq=>dK w q.1 q.2)=some x/\KL s w=some x/\SOk x/\x.Log.length<=s.Log.length+1:=by
 have C:=hs.2.2.1;have c:∀x,idx (s.aH.set w.toNat x) w=some x:=UB hw.1 aa;have v:∀(e:Ev) {O:Type} (k:Option O),need (s.Log.length + [e].length<=1073741824) k=k:=λe _ k=>EP;have a:s.Cells.length=2/\∀h∈s.Cells,fH h:=⟨hs.2.1,hs.2.2.2.2.2.1⟩;have b:idx s.Cells j.Op.Cell=some (s.Cells[j.Op.Cell.toNat]'(by have:=hjo.1.2.2.1;omega)):=eQ hjo.1.2.2.1.1 (by have:=hjo.1.2.2.1;omega);have i:fH (s.Cells[j.Op.Cell.toNat]' aj):=a.2 _ (dO _);generalize (s.Cells[j.Op.Cell.toNat]' aj)=cell at b i;obtain⟨l,g,_⟩:=aLN hs.1.1.2.1 hw;unfold IM KL;rw[hj];simp only[aE,bS,cG,eN,dK];by_cases t:j.Pc=0
 .obtain⟨x,y,f,d,u⟩:=step_eq hs.1 hs.1.small hw j.Sub;simp only[t,beq_self_eq_true,aS,f,d,aE];cases B:y.eG with
  |false=>simp only[oH,aS,aU,aT,aE,hj];exact⟨_,rfl,rfl,hs.put u a (by grind[dZ]) _,j5 _⟩
  |true=>simp only[eP,aS,aU,aT,aE,hj];exact⟨_,rfl,rfl,hs.put u a (by grind[dZ]) _,j5 _⟩
 simp only[jD t,aU,aT];by_cases p:j.Pc=1
 .simp only[p,beq_self_eq_true,aS,b,aE,kH,v,BT,hj,eE,eZ,c];by_cases c0:cell=0
  .simp only[c0,beq_self_eq_true,aS,aE,hj,O2];exact⟨_,rfl,rfl,hs.put hs.1 a (by grind[dZ]) _,ae⟩
  .simp only[jD c0,aU,aT,aE,hj,O2];exact⟨_,rfl,rfl,hs.put hs.1 a (by grind[dZ]) _,ae⟩
 simp only[jD p,aU,aT];by_cases o:j.Pc=2
 .obtain⟨r,f,d⟩:=a5E hs.1.1.1 j.H;simp only[o,beq_self_eq_true,aS,oZ,oD,hj,f,d,aE,c,O2];exact⟨_,rfl,rfl,hs.put hs.1 a (by grind[dZ]) _,j5 _⟩
 simp only[jD o,aU,aT];by_cases n:j.Pc=3
 .simp only[n,beq_self_eq_true,aS,tF,oK,hj,g,aE,eN,mI,j9,mG,bS];cases l.On with
  |false=>simp only[aU,aT,aE,oH,aS,hj];exact⟨_,rfl,rfl,hs.put hs.1 a (by grind[dZ]) _,j5 _⟩
  |true=>
   simp only[aS,aE];cases l.gU with
   |false=>simp only[aU,aT,aE,oH,eP,aS,hj];exact⟨_,rfl,rfl,hs.put hs.1 a (by grind[dZ]) _,j5 _⟩
   |true=>simp only[aU,aT,aE,oH,eP,aS,hj];exact⟨_,rfl,rfl,hs.put hs.1 a (by grind[dZ]) _,j5 _⟩
 simp only[jD n,aU,aT];by_cases m:j.Pc=4
 .obtain⟨r,f,d,z,D⟩:=aJ0 hs.1.1.2.1 hw;simp only[m,beq_self_eq_true,aS,f,d,lV,aE,hj];exact⟨_,rfl,rfl,hs.put (hs.1.clock z aa) a (by grind[dZ]) _,j5 _⟩
 simp only[jD m,aU,aT,aE,hj];exact⟨_,rfl,rfl,hs.put hs.1 a (by grind[dZ]) _,j5 _⟩
theorem bMD(u:j.Op.Kind=3):∃x,((IN s w j).bind λq=>dK w q.1 q.2)=some x/\KO s w=some x/\SOk x/\x.Log.length<=s.Log.length+1:=by
 have v:=hs.2.2.1;have c:∀x,idx (s.aH.set w.toNat x) w=some x:=UB hw.1 aa;have i:∀(e:Ev) {O:Type} (k:Option O),need (s.Log.length + [e].length<=1073741824) k=k:=λe _ k=>EP;have a:s.Cells.length=2/\∀h∈s.Cells,fH h:=⟨hs.2.1,hs.2.2.2.2.2.1⟩;have b:idx s.Cells j.Op.Cell=some (s.Cells[j.Op.Cell.toNat]'(by have:=hjo.1.2.2.1;omega)):=eQ hjo.1.2.2.1.1 (by have:=hjo.1.2.2.1;omega);have g:fH (s.Cells[j.Op.Cell.toNat]' aj):=a.2 _ (dO _);generalize (s.Cells[j.Op.Cell.toNat]' aj)=cell at b g;unfold IN KO;rw[hj];simp only[aE,bS,cG,eN,dK,KM,KN];by_cases t:j.Pc=0
 .simp only[t,beq_self_eq_true,aS,b,aE,kH,i,hj,eE,eZ,c];by_cases c0:cell=0
  .simp only[c0,beq_self_eq_true,aS,aE,hj,O2,i];exact⟨_,rfl,rfl,hs.put hs.1 a (by grind[dZ]) _,ae⟩
  .simp only[jD c0,aU,aT,aE,hj,O2];exact⟨_,rfl,rfl,hs.put hs.1 a (by grind[dZ]) _,j5 _⟩
 simp only[jD t,aU,aT];by_cases p:j.Pc=1
 .obtain⟨r,f,d,l⟩:=a5F hs.1.1.2.2.2 hw j.H;simp only[p,beq_self_eq_true,aS,f,d,aE,hj];exact⟨_,rfl,rfl,hs.put (hs.1.haz l) a (by grind[dZ]) _,j5 _⟩
 simp only[jD p,aU,aT];by_cases o:j.Pc=2
 .simp only[o,beq_self_eq_true,aS,b,aE,kH,i,hj,eE,eZ];by_cases c0:cell=j.H
  .simp only[c0,bne_self_eq_false,aU,aT,aE,hj];exact⟨_,rfl,rfl,hs.put hs.1 a (by grind[dZ]) _,ae⟩
  .simp only[aAJ c0,aS,aE,hj];exact⟨_,rfl,rfl,hs.put hs.1 a (by grind[dZ]) _,j5 _⟩
 simp only[jD o,aU,aT];by_cases n:j.Pc=3
 .obtain⟨r,f,d⟩:=a5E hs.1.1.1 j.H;simp only[n,beq_self_eq_true,aS,oZ,oD,hj,f,d,aE,c,O2];exact⟨_,rfl,rfl,hs.put hs.1 a (by grind[dZ]) _,j5 _⟩
 simp only[jD n,aU,aT];by_cases m:j.Pc=4
 .obtain⟨r,f,d,l⟩:=bEX hs.1.1.2.2.2 hw;simp only[m,beq_self_eq_true,aS,f,d,aE,hj];exact⟨_,rfl,rfl,hs.put (hs.1.haz l) a (by grind[dZ]) _,j5 _⟩
 simp only[jD m,aU,aT,aE,hj];exact⟨_,rfl,rfl,hs.put hs.1 a (by grind[dZ]) _,j5 _⟩
theorem bIL(t:j.Op.Kind=7):∃x,((C5 s w j).bind λq=>dK w q.1 q.2)=some x/\GP s w=some x/\SOk x/\x.Log.length<=s.Log.length+1:=by
 have u:=hs.2.2.1;have c:∀x,idx (s.aH.set w.toNat x) w=some x:=UB hw.1 aa;have n:∀(e:Ev) {O:Type} (k:Option O),need (s.Log.length + [e].length<=1073741824) k=k:=λe _ k=>EP;have a:s.Cells.length=2/\∀h∈s.Cells,fH h:=⟨hs.2.1,hs.2.2.2.2.2.1⟩;have b:idx s.Cells j.Op.Cell=some (s.Cells[j.Op.Cell.toNat]'(by have:=hjo.1.2.2.1;omega)):=eQ hjo.1.2.2.1.1 (by have:=hjo.1.2.2.1;omega);have g:fH (s.Cells[j.Op.Cell.toNat]' aj):=a.2 _ (dO _);generalize (s.Cells[j.Op.Cell.toNat]' aj)=cell at b g;obtain⟨f,d,_⟩:=aLN hs.1.1.2.1 hw;unfold C5 GP;rw[hj,d];simp only[aE,bS,cG,eN,dK,HW,xI,xH,hj];by_cases m:j.Pc=0
 .simp only[m,beq_self_eq_true,aS];cases f.On with
  |false=>simp only[oH,aS,aE,hj];exact⟨_,rfl,rfl,hs.put hs.1 a (by grind[dZ]) _,j5 _⟩
  |true=>
   simp only[eP,aU,aT];cases f.gU with
   |true=>simp only[aS,aE,hj];exact⟨_,rfl,rfl,hs.put hs.1 a (by grind[dZ]) _,j5 _⟩
   |false=>
    simp only[aU,aT,b,aE,kH,n,BT,hj,eE,eZ,c];by_cases c0:cell=0
    .simp only[c0,beq_self_eq_true,aS,aE,hj,O2];exact⟨_,rfl,rfl,hs.put hs.1 a (by grind[dZ]) _,ae⟩
    .simp only[jD c0,aU,aT,aE,hj,O2];exact⟨_,rfl,rfl,hs.put hs.1 a (by grind[dZ]) _,ae⟩
 simp only[jD m,aU,aT,hj,aE];by_cases l:j.Pc=1
 .obtain⟨r,p,o⟩:=a5E hs.1.1.1 j.H;simp only[l,beq_self_eq_true,aS,oZ,oD,hj,p,o,aE,c,O2];exact⟨_,rfl,rfl,hs.put hs.1 a (by grind[dZ]) _,j5 _⟩
 simp only[jD l,aU,aT];by_cases i:j.Pc=2
 .simp only[i,beq_self_eq_true,aS,tF,oK,hj,d,aE,eN,mI,j9,mG,bS];cases f.On with
  |false=>simp only[aU,aT,aE,oH,aS,hj];exact⟨_,rfl,rfl,hs.put hs.1 a (by grind[dZ]) _,j5 _⟩
  |true=>
   simp only[aS,aE];cases f.gU with
   |false=>simp only[aU,aT,aE,oH,eP,aS,hj];exact⟨_,rfl,rfl,hs.put hs.1 a (by grind[dZ]) _,j5 _⟩
   |true=>simp only[aU,aT,aE,oH,eP,aS,hj];exact⟨_,rfl,rfl,hs.put hs.1 a (by grind[dZ]) _,j5 _⟩
 simp only[jD i,aU,aT,aE,hj];exact⟨_,rfl,rfl,hs.put hs.1 a (by grind[dZ]) _,j5 _⟩
theorem bEY(m:j.Op.Kind=4\/j.Op.Kind=5\/j.Op.Kind=6):∃x,((zQ s w j).bind λq=>dK w q.1 q.2)=some x/\DI s w=some x/\SOk x/\x.Log.length<=s.Log.length+1:=by
 have v:=hs.2.2.1;have e:∀x,idx (s.aH.set w.toNat x) w=some x:=UB hw.1 aa;have a:s.Cells.length=2/\∀h∈s.Cells,fH h:=⟨hs.2.1,hs.2.2.2.2.2.1⟩;obtain⟨x,y,t,p,d⟩:=step_eq hs.1 hs.1.small hw j.Sub;unfold zQ DI;rw[hj];simp only[aE,bS,cG,eN,dK,eK,fJ,uV,iZ,uD,tZ,uC,uB,uA,hj,t,p];obtain l|k|i:=m
 .simp only[l,show((4:Int) == 6)=false from rfl,show((4:Int) == 5)=false from rfl,show((4:Int) == 4)=true from rfl,aU,aT,aS];by_cases b:j.Pc=0
  .simp only[b,bne_self_eq_false,beq_self_eq_true,aU,aT,aS];cases f:y.eG with
   |false=>simp only[oH,aS,aU,aT,aE,hj];exact⟨_,rfl,rfl,hs.put d a (by grind[dZ]) _,j5 _⟩
   |true=>simp only[eP,aS,aU,aT,aE,hj];exact⟨_,rfl,rfl,hs.put d a (by grind[dZ]) _,j5 _⟩
  .simp only[aAJ b,jD b,aU,aT,aS];by_cases c:j.Pc=1
   .simp only[c,bne_self_eq_false,beq_self_eq_true,aU,aT,aS,show((1:Int) == 0)=false from rfl];cases f:y.eG with
    |false=>simp only[oH,aS,aU,aT,aE,hj];exact⟨_,rfl,rfl,hs.put d a (by grind[dZ]) _,j5 _⟩
    |true=>simp only[eP,aS,aU,aT,aE,hj];exact⟨_,rfl,rfl,hs.put d a (by grind[dZ]) _,j5 _⟩
   .simp only[aAJ c,jD c,aU,aT,aS,aE,hj];exact⟨_,rfl,rfl,hs.put hs.1 a (by grind[dZ]) _,j5 _⟩
 .simp only[k,show((5:Int) == 6)=false from rfl,show((5:Int) == 5)=true from rfl,show((5:Int) == 4)=false from rfl,aU,aT,aS];by_cases b:j.Pc=0
  .simp only[b,bne_self_eq_false,beq_self_eq_true,aU,aT,aS];cases f:y.eG with
   |false=>simp only[oH,aS,aU,aT,aE,hj];exact⟨_,rfl,rfl,hs.put d a (by grind[dZ]) _,j5 _⟩
   |true=>simp only[eP,aS,aU,aT,aE,hj];exact⟨_,rfl,rfl,hs.put d a (by grind[dZ]) _,j5 _⟩
  .simp only[aAJ b,jD b,aU,aT,aS];by_cases c:j.Pc=1
   .simp only[c,bne_self_eq_false,aU,aT,aS,aE,hj];exact⟨_,rfl,rfl,hs.put hs.1 a (by grind[dZ]) _,j5 _⟩
   .simp only[aAJ c,aS,aE,hj];exact⟨_,rfl,rfl,hs.put hs.1 a (by grind[dZ]) _,j5 _⟩
 .simp only[i,beq_self_eq_true,show((6:Int) == 5)=false from rfl,show((6:Int) == 4)=false from rfl,aU,aT,aS];by_cases b:j.Pc=0
  .obtain⟨r,o,n,g,z⟩:=aJ0 hs.1.1.2.1 hw;simp only[b,beq_self_eq_true,aS,o,n,lV,aE];cases u:r.2 with
   |false=>simp only[oH,aS,aE,hj];exact⟨_,rfl,rfl,hs.put (hs.1.clock g aa) a (by grind[dZ]) _,j5 _⟩
   |true=>simp only[eP,aU,aT,aE,hj];exact⟨_,rfl,rfl,hs.put (hs.1.clock g aa) a (by grind[dZ]) _,j5 _⟩
  .simp only[jD b,aU,aT,aE,hj];exact⟨_,rfl,rfl,hs.put hs.1 a (by grind[dZ]) _,j5 _⟩
end
def a5G{l:bm}(h:0<l.length)(a:l.length<=1000):C8 l 0 1=some (l.drop 1):=by
 have e:=del_eq (l:=l) (k:=0) h;unfold C8;rw[PH,fF,PH,PH,PH,b7]
 .simp only[Int.toNat_zero,Int.toNat_one] at e ⊢;rw[aAQ] at e;rw[aAQ,e,List.eraseIdx_zero,List.drop_one]
 .rw[gG aa];simp only[QL,XB,gG (show(0:Int).toNat<=l.length by simp)];omega
def aS8{o:mS}(a:tT o)(ser pc:Int)(sub:Sub)(code:Int):JOk ⟨true,o,ser,pc,sub,0,0,0,code⟩:=(aD8 rfl).2 ⟨a,.inl rfl,.inl rfl⟩
def bEZ{s:aJ}(d:SOk s)(N:s.Log.length<=1000000000)(A:0<=w/\w<=2){j:fE}(t:idx s.aH w=some j):∃x,zI s w=some x/\C9 s w=some x/\SOk x/\x.Log.length<=s.Log.length+1:=by
 have M:=d.2.2.1;have g:=d.2.2.2.1;have C:=d.2.2.2.2.1;have b:∀x,idx (s.aH.set w.toNat x) w=some x:=UB A.1 aa;have r:∀(e:Ev) {O:Type} (k:Option O),need (s.Log.length + [e].length<=1073741824) k=k:=λe _ k=>EP;have B:idx s.aY w=some (s.aY[w.toNat]'(by have:=g.1;omega)):=eQ A.1 (by have:=g.1;omega);have f:QOk (s.aY[w.toNat]'(by have:=g.1;omega)):=g.2 _ (dO _);generalize (s.aY[w.toNat]'(by have:=g.1;omega))=q at B f;obtain⟨J,u,_⟩:=aLN d.1.1.2.1 A;have i:bB (s.aG+1)=s.aG+1:=cY;unfold zI C9;rw[B];simp only[aE,uM,tW];by_cases K:q.mY.length=0
 .simp only[show((q.mY.length:Int) == 0)=true by rw[K];rfl,aS];exact⟨_,rfl,rfl,d,j5 _⟩
 .simp only[show((q.mY.length:Int) == 0)=false from jD aa,aU,aT];by_cases s0:s.aG=1000000
  .simp only[s0,beq_self_eq_true,aS];exact⟨_,rfl,rfl,d,j5 _⟩
  .simp only[jD s0,aU,aT,B,aE];have H:idx q.mY 0=some (q.mY[0]' aa):=by have:=aZ (l:=q.mY) (k:=0) aa;simpa using this
   have h:tT (q.mY[0]' aa):=f.2 _ (dO _);have I:=f.1;have m:=a5G (l:=q.mY) aa aa;generalize (q.mY[0]' aa)=o at H h;have c:(q.mY.take q.mY.length).drop (1:Int).toNat=q.mY.drop 1:=by rw[List.take_length];rfl
   have hT:Y0 (s.aY.set w.toNat ⟨q.mY.drop 1⟩):=⟨by simpa using g.1,λz p=>(nM p).elim (g.2 z) (λe=>by
    subst e;exact⟨by simp only[aHG];omega,λa L=>f.2 a (aHH L)⟩)⟩
   have fin:∀(y:fE) (l:bw),JOk y->SOk ⟨s.aA,s.Cells,s.aH.set w.toNat y,s.aY.set w.toNat ⟨q.mY.drop 1⟩,l,s.aG+1⟩:=λy l v=>
    ⟨d.1,d.2.1,by simpa using M,hT,by simp only;omega,d.2.2.2.2.2.1,λz p=>(nM p).elim (d.2.2.2.2.2.2 z) (λe=>e ▸ v)⟩
   simp only[H,m,aE,eK,fJ,i];rw[PH];by_cases G:o.Kind=1
   .simp only[G,beq_self_eq_true,aS,fV,fM,t,eE,eZ,aE,b,r,c,i];exact⟨_,rfl,rfl,fin _ _ (aS8 h _ _ _ _),ae⟩
   simp only[jD G,aU,aT];have n:∀z,z=true->∃x,jU s w q o z=some x/\lQ s w o (q.mY.drop 1) z=some x/\SOk x/\x.Log.length<=s.Log.length+1:=λz p=>by
    subst p;simp only[jU,lQ,aS,eK,fJ,u,aE,cG];cases J.On with
    |true=>
     simp only[aS,fV,fM,t,eE,eZ,aE,b,r,c,i];exact⟨_,rfl,rfl,fin _ _ (aS8 h _ _ _ _),ae⟩
    |false=>
     simp only[aU,aT,fV,fM,t,eE,eZ,aE,b,r,c,i];exact⟨_,rfl,rfl,fin _ _ (aS8 h _ _ _ _),ae⟩
   by_cases F:o.Kind=2
   .simp only[F,beq_self_eq_true,aS];exact n true rfl
   simp only[jD F,aU,aT];by_cases D:o.Kind=5
   .simp only[D,beq_self_eq_true];exact n true rfl
   simp only[jD D,jU,lQ,aU,aT,eK,fJ,aE];by_cases E:o.Kind=4
   .simp only[E,beq_self_eq_true,aS,fV,fM,t,eE,eZ,aE,b,r,c,i];exact⟨_,rfl,rfl,fin _ _ (aS8 h _ _ _ _),ae⟩
   .simp only[jD E,aU,aT,fV,fM,t,eE,eZ,aE,b,r,c,i];exact⟨_,rfl,rfl,fin _ _ (aS8 h _ _ _ _),ae⟩
theorem aZH{s:aJ}(a:SOk s)(y:s.Log.length<=1000000000)(h:0<=w/\w<=2):∃x,HT s w=some x/\yR s w=some x/\SOk x/\x.Log.length<=s.Log.length+1:=by
 have i:=a.2.2.1;have f:∀x,idx (s.aH.set w.toNat x) w=some x:=UB h.1 aa;have q:∀(e:Ev) {O:Type} (k:Option O),need (s.Log.length + [e].length<=1073741824) k=k:=λe _ k=>EP;have d:idx s.aH w=some (s.aH[w.toNat]' aa):=eQ h.1 aa;have b:JOk (s.aH[w.toNat]' aa):=a.2.2.2.2.2.2 _ (dO _);generalize (s.aH[w.toNat]' aa)=j at d b;unfold HT yR;rw[d];simp only[aE];cases r:j.gW with
 |false=>
  simp_all[bEZ]
 |true=>
  have c:=(aD8 r).1 b;simp only[eP,aU,aT];by_cases g:j.Pc=9
  .simp only[g,beq_self_eq_true,aS,q,eE,eZ,d,aE];exact⟨_,rfl,rfl,a.put a.1 ⟨a.2.1,a.2.2.2.2.2.1⟩ ((a18 rfl).2 rfl) _,ae⟩
  simp only[jD g,aU,aT];have close:∀{A B:Option aJ} {x:aJ},A=some x->B=some x->SOk x->x.Log.length<=s.Log.length+1->∃x,A=some x/\(B.bind λz=>some z)=some x/\SOk x/\x.Log.length<=s.Log.length+1:=λv u i t=>⟨_,v,by rw[u];rfl,i,t⟩;by_cases p:j.Op.Kind=1
  .simp_all[bMC]
  simp only[jD p,aU,aT];by_cases o:j.Op.Kind=2
  .simp_all[get_eq]
  simp only[jD o,aU,aT];by_cases n:j.Op.Kind=3
  .simp_all[bMD]
  simp only[jD n,aU,aT];by_cases m:j.Op.Kind=7
  .simp_all[bIL]
  simp only[jD m,aU,aT];have l:=c.1.1;grind[bEY]
def NM(m:Mem)(h n:Int):Mem×Int:=if lE m h then(⟨⟨MP m.Heap.Bytes ((fW (h % 32) (bH m.Heap (h % 32))).toNat+4) n,m.Heap.Class⟩,m.aD⟩,0) else(m,4)
def bE0(a:0<=bH h s):(fW s (bH h s)).toNat+8<=384/\8<=gQ (bH h s)/\gQ (bH h s)<=40:=by
 have b:0<=bH h s/\bH h s<=2:=by obtain⟨_,q,e⟩:=xV a;rw[e];exact lB.1 aa
 grind[gQ,bH,oT,dI,bL]
def a9S(l:lX m){h:Int}(hn:0<=n/\n<=65535):C3 m h 0 4 n=some (NM m h n):=by
 obtain⟨o,A,z,C,B,g,u,r,q,p⟩:=lX.facts l;have k:=l.1.1.1;have i:m.Heap.Bytes.length<=maxLen:=by grind[maxLen]
 have a:(fC m.aD).length<=1073741824:=aa
 have w:m.aD.Global.length<=maxLen:=aa
 have v:m.aD.Own.length<=maxLen:=aa
 unfold C3 U8 NM;rw[I0 g,z7 i a,cB l,cJ];simp only[aE,eP,aU,aT,BG,show(decide ((1:Int)<=4/\(4:Int)<=7))=true from rfl,lY k a w v];by_cases c:lE m h
 .have hh:=c.1;have b:=jB c.2.1;have s:=MB b;obtain⟨d,y⟩:=bE0 b;simp only[cB c,eP,aU,aT,aM c,cZ,aM hh,aE,iY k,qI,cJ];rw[cK (x:=gQ (bH m.Heap (h % 32))-1) aa aa,cB (show(0:Int)<=0/\(0:Int)<=gQ (bH m.Heap (h % 32))-1 by omega),cK (x:=gQ (bH m.Heap (h % 32))-0) aa aa,dV (show ¬gQ (bH m.Heap (h % 32))-0<4 by omega)];simp only[eP,aU,aT,BF,(start_eq k b).1,aE];rw[cK (x:=fW (h % 32) (bH m.Heap (h % 32))+4+0) aa aa,Int.add_zero];have j:fW (h % 32) (bH m.Heap (h % 32))+4=(((fW (h % 32) (bH m.Heap (h % 32))).toNat+4:Nat):Int):=aa
  obtain⟨t,f,e⟩:=aML hn;rw[j];simp only[aE,aU,aT,bne_self_eq_false,f,e];rw[aEU aa aa ⟨hn.1,aa⟩];rfl
 grind
def bE1(h:Heap)(x:Int):Int:=if j3 x/\0<=bH h (x % 32) then ld h.Bytes ((fW (x % 32) (bH h (x % 32))).toNat+4) 4 else 0
def aZI{s:aJ}(g:lX s.aA.Mem)(j:fE):oZ s j=some (bE1 s.aA.Mem.Heap j.H):=by
 have b:=g.1.1.1;have k:=b.1;unfold oZ O5 bE1;generalize j.H=h;rw[eB,cJ];simp only[aE,BH,show(decide ((1:Int)<=4/\(4:Int)<=7))=true from rfl,eP,aU,aT];by_cases hh:j3 h
 .simp only[cB hh,eP,aU,aT,cZ,aM hh,aE,iY b];by_cases d:bH s.aA.Mem.Heap (h % 32)<0
  .simp_all[m5,aO]
  .have a:0<=bH s.aA.Mem.Heap (h % 32):=aa
   have f:=MB a;obtain⟨c,i⟩:=bE0 a;simp only[dV d,aU,aT,qI,cJ,aE,aM (show j3 h/\0<=bH s.aA.Mem.Heap (h % 32) from⟨hh,a⟩)];rw[cK (x:=gQ (bH s.aA.Mem.Heap (h % 32))-1) aa aa,cB (show(0:Int)<=0/\(0:Int)<=gQ (bH s.aA.Mem.Heap (h % 32))-1 by omega),cK (x:=gQ (bH s.aA.Mem.Heap (h % 32))-0) aa aa,dV (show ¬gQ (bH s.aA.Mem.Heap (h % 32))-0<4 by omega)];simp only[eP,aU,aT,m5,cZ,aM hh,(start_eq b a).1,aE];rw[cK (x:=fW (h % 32) (bH s.aA.Mem.Heap (h % 32))+4+0) aa aa,Int.add_zero];have e:fW (h % 32) (bH s.aA.Mem.Heap (h % 32))+4=(((fW (h % 32) (bH s.aA.Mem.Heap (h % 32))).toNat+4:Nat):Int):=aa
   rw[e,show(4:Int)=((4:Nat):Int) from rfl,qJ b.2.2.1 aa aa aa];rfl
 grind
def aS9(z:al)(w h:Int):al:=if j3 h then z.set w.toNat h else z
def a19(a:UP z)(b:0<=w/\w<=2)(h:Int):∃t,C4 z w h=some (aS9 z w h,t):=by
 have c:=a.1;unfold C4 rI aS9;rw[wF aa,FY (by simp only[maxLen];omega),cB a,cJ,cB b,eB];by_cases q:j3 h
 .simp only[cB q,YZ a b,aE,eP,aU,aT,aM q];exact⟨_,rfl⟩
 .simp only[dV q,aE,eP,oH,aU,aT,aS,aO q];exact⟨_,rfl⟩
def a5H(z:al)(w:Int):al:=if aS5 z w=0 then z else z.set w.toNat 0
def a9T(a:UP z)(b:0<=w/\w<=2):∃t,M5 z w=some (a5H z w,t):=by
 have d:=a.1;unfold M5 zP a5H;rw[wF aa,FY (by simp only[maxLen];omega),cB a,cJ,cB b,YZ a b];by_cases q:aS5 z w=0
 .have c:(aS5 z w == 0)=true:=by simpa using q
  simp only[c,aE,eP,aU,aT,aS,aM q,YZ a b];exact⟨_,rfl⟩
 .have c:(aS5 z w == 0)=false:=by simpa using q
  simp only[c,aE,eP,aU,aT,aO q,YZ a b];exact⟨_,rfl⟩
structure JR where
 b:aA
 c:al
 j:fE
 l:bw
def tU(j:fE)(pc code:Int):fE:={j with Pc:=pc,Code:=code}
def UC(b a:Int):Sub:=⟨b,a,0,0,0,0,0,0,0,false⟩
def cellAt(c:al)(k:Int):Int:=c.getD k.toNat 0
def aTA(c:aI)(w:Int)(j:fE)(pc:Int):fE:=if(mD c w).On=true/\(mD c w).gU=false then tU j pc 0 else tU {j with cT:=0} pc 6
section
variable (s:aJ) (w:Int) (j:fE)
def aGC(h:Int):Ev:=⟨3,w,j.aG,j.Op.Cell,h,0,0⟩
def bIM:JR:=
 if j.Pc=0 then
  if(gZ s.aA w j.Sub).2.eG then
   if(gZ s.aA w j.Sub).2.Code≠0 then⟨(gZ s.aA w j.Sub).1,s.Cells,tU {j with Sub:=(gZ s.aA w j.Sub).2} 9 (gZ s.aA w j.Sub).2.Code,[]⟩
   else if j3 (gZ s.aA w j.Sub).2.Out then⟨(gZ s.aA w j.Sub).1,s.Cells,tU {j with Sub:=(gZ s.aA w j.Sub).2,H:=(gZ s.aA w j.Sub).2.Out} 1 0,[]⟩
   else⟨(gZ s.aA w j.Sub).1,s.Cells,tU {j with Sub:=(gZ s.aA w j.Sub).2} 9 1,[]⟩
  else⟨(gZ s.aA w j.Sub).1,s.Cells,{j with Sub:=(gZ s.aA w j.Sub).2},[]⟩
 else if j.Pc=1 then⟨{s.aA with Mem:=(NM s.aA.Mem j.H j.Op.cT).1},s.Cells,if(NM s.aA.Mem j.H j.Op.cT).2=0 then tU j 2 0 else tU j 9 (NM s.aA.Mem j.H j.Op.cT).2,[]⟩
 else if j.Pc=2 then⟨s.aA,s.Cells.set j.Op.Cell.toNat j.H,if cellAt s.Cells j.Op.Cell=0 then tU {j with Old:=0} 9 0 else tU {j with Sub:=UC 2 (cellAt s.Cells j.Op.Cell),Old:=cellAt s.Cells j.Op.Cell} 3 0,[⟨2,w,j.aG,j.Op.Cell,j.H,j.Op.cT,0⟩]⟩
 else if j.Pc=3 then⟨(gZ s.aA w j.Sub).1,s.Cells,if(gZ s.aA w j.Sub).2.eG then tU {j with Sub:=(gZ s.aA w j.Sub).2} 9 (gZ s.aA w j.Sub).2.Code else {j with Sub:=(gZ s.aA w j.Sub).2},[]⟩
 else⟨s.aA,s.Cells,tU j 9 1,[]⟩
def bIN:JR:=
 if j.Pc=0 then⟨(gZ s.aA w j.Sub).1,s.Cells,if(gZ s.aA w j.Sub).2.eG then tU {j with Sub:=(gZ s.aA w j.Sub).2} 1 0 else {j with Sub:=(gZ s.aA w j.Sub).2},[]⟩
 else if j.Pc=1 then⟨s.aA,s.Cells,if cellAt s.Cells j.Op.Cell=0 then tU {j with H:=0} 4 8 else tU {j with H:=cellAt s.Cells j.Op.Cell} 2 0,[aGC w j (cellAt s.Cells j.Op.Cell)]⟩
 else if j.Pc=2 then⟨s.aA,s.Cells,tU {j with cT:=bE1 s.aA.Mem.Heap j.H} 3 0,[]⟩
 else if j.Pc=3 then⟨s.aA,s.Cells,aTA s.aA.aI w j 4,[]⟩
 else if j.Pc=4 then⟨{s.aA with aI:=(aAH s.aA.aI w).1},s.Cells,tU j 9 j.Code,[]⟩
 else⟨s.aA,s.Cells,tU j 9 1,[]⟩
def bIO:JR:=
 if j.Pc=0 then if cellAt s.Cells j.Op.Cell=0 then⟨s.aA,s.Cells,tU {j with H:=0} 4 8,[aGC w j 0]⟩ else⟨s.aA,s.Cells,tU {j with H:=cellAt s.Cells j.Op.Cell} 1 0,[]⟩
 else if j.Pc=1 then⟨{s.aA with iU:=aS9 s.aA.iU w j.H},s.Cells,tU j 2 0,[]⟩
 else if j.Pc=2 then if cellAt s.Cells j.Op.Cell=j.H then⟨s.aA,s.Cells,tU j 3 0,[aGC w j j.H]⟩ else⟨s.aA,s.Cells,tU j 0 0,[]⟩
 else if j.Pc=3 then⟨s.aA,s.Cells,tU {j with cT:=bE1 s.aA.Mem.Heap j.H} 4 0,[]⟩
 else if j.Pc=4 then⟨{s.aA with iU:=a5H s.aA.iU w},s.Cells,tU j 9 j.Code,[]⟩
 else⟨s.aA,s.Cells,tU j 9 1,[]⟩
def a72:JR:=
 if j.Pc=0 then
  if(mD s.aA.aI w).On=false then⟨s.aA,s.Cells,tU j 9 5,[]⟩
  else if(mD s.aA.aI w).gU=true then⟨s.aA,s.Cells,tU j 9 6,[]⟩
  else⟨s.aA,s.Cells,if cellAt s.Cells j.Op.Cell=0 then tU {j with H:=0} 9 8 else tU {j with H:=cellAt s.Cells j.Op.Cell} 1 0,[aGC w j (cellAt s.Cells j.Op.Cell)]⟩
 else if j.Pc=1 then⟨s.aA,s.Cells,tU {j with cT:=bE1 s.aA.Mem.Heap j.H} 2 0,[]⟩
 else if j.Pc=2 then⟨s.aA,s.Cells,aTA s.aA.aI w j 9,[]⟩
 else⟨s.aA,s.Cells,tU j 9 1,[]⟩
def aZJ:JR:=
 if j.Op.Kind=6 then
  if j.Pc=0 then⟨{s.aA with aI:=(aAH s.aA.aI w).1},s.Cells,tU j 9 (if(aAH s.aA.aI w).2 then 0 else 5),[]⟩
  else⟨s.aA,s.Cells,tU j 9 1,[]⟩
 else if j.Pc=0\/j.Pc=1/\j.Op.Kind≠5 then
  ⟨(gZ s.aA w j.Sub).1,s.Cells,if(gZ s.aA w j.Sub).2.eG then
   if j.Op.Kind=5 then tU {j with Sub:=(gZ s.aA w j.Sub).2} 9 (gZ s.aA w j.Sub).2.Code
   else if j.Pc=0 then tU {j with Sub:=UC 4 0} 1 0
   else tU {j with Sub:=(gZ s.aA w j.Sub).2,cT:=(gZ s.aA w j.Sub).2.Out} 9 (gZ s.aA w j.Sub).2.Code
   else {j with Sub:=(gZ s.aA w j.Sub).2},[]⟩
 else⟨s.aA,s.Cells,tU j 9 1,[]⟩
def aZK:JR:=if j.Op.Kind=1 then bIM s w j else if j.Op.Kind=2 then bIN s w j else if j.Op.Kind=3 then bIO s w j else if j.Op.Kind=7 then a72 s w j else aZJ s w j
end
def pB(s:aJ)(w:Int)(r:JR):aJ:=⟨r.b,r.c,s.aH.set w.toNat r.j,s.aY,s.Log++r.l,s.aG⟩
def qO(t:av)(w:Int):bm:=(t.getD w.toNat ⟨[]⟩).mY
def mR(s:aJ)(w:Int):fE:=s.aH.getD w.toNat aJZ
def aTB(c:aI)(w:Int)(o:mS)(ser:Int):fE:=
 if o.Kind=1 then⟨true,o,ser,0,UC 1 o.jZ,0,0,0,0⟩
 else if o.Kind=2\/o.Kind=5 then if(mD c w).On then⟨true,o,ser,9,UC 5 0,0,0,0,1⟩ else⟨true,o,ser,0,UC 5 0,0,0,0,0⟩
 else if o.Kind=4 then⟨true,o,ser,0,UC 3 0,0,0,0,0⟩
 else⟨true,o,ser,0,⟨0,0,0,0,0,0,0,0,0,false⟩,0,0,0,0⟩
def aZL(s:aJ)(w:Int):aJ:=match qO s.aY w with
 |[]=>s
 |o::r=>if s.aG = 1000000 then s else
  ⟨s.aA,s.Cells,s.aH.set w.toNat (aTB s.aA.aI w o (s.aG+1)),s.aY.set w.toNat ⟨r⟩,s.Log++[⟨1,w,s.aG+1,o.Cell,0,0,0⟩],s.aG+1⟩
def bOG(w:Int)(j:fE):Ev:=⟨4,w,j.aG,j.Op.Cell,j.H,j.cT,j.Code⟩
def PK(s:aJ)(w:Int):aJ:=
 if(mR s w).gW=false then aZL s w
 else if(mR s w).Pc=9 then⟨s.aA,s.Cells,s.aH.set w.toNat aJZ,s.aY,s.Log++[bOG w (mR s w)],s.aG⟩
 else pB s w (aZK s w (mR s w))
section
variable {s:aJ} (hs:SOk s) (hl:s.Log.length<=1000000000) {w:Int} (hw:0<=w/\w<=2) {j:fE} (hjo:tT j.Op/\fH j.H/\fH j.Old)
include hs
theorem aEW(hw:0<=w/\w<=2):idx s.aH w=some (mR s w):=by have:=hs.2.2.1;grind[eQ,mR]
theorem aAK{k:Int}(a:0<=k/\k<=1):idx s.Cells k=some (cellAt s.Cells k):=by have:=hs.2.1;grind[eQ,cellAt]
include hw
theorem a2A(x:aJ)(a:x.aH=s.aH)(j:fE):dK w x j=some {x with aH:=x.aH.set w.toNat j}:=by grind[dK,aEW]
include hl hjo
theorem bIP(y:j.Op.Kind=1):((IL s w j).bind λq=>dK w q.1 q.2)=some (pB s w (bIM s w j)):=by
 have u:∀(e:Ev) {O:Type} (k:Option O),need (s.Log.length + [e].length<=1073741824) k=k:=λe _ k=>EP;have b:=aAK hs hjo.1.2.2.1;have i:0<=j.Op.cT/\j.Op.cT<=65535:=by have:=hjo.1.2.2.2;grind
 have g:=λx t j=>a2A hs hw x t j;unfold IL bIM;simp only[aEV hs.1 hw,a9S hs.1.1.1 i,b,aE,bS,eK,u];by_cases p:j.Pc=0
 .have f:(j.Pc == 0)=true:=aj
  simp only[f,aS,aM p];cases v:(gZ s.aA w j.Sub).2.eG with
  |false=>simp_all[pB]
  |true=>
   simp only[eP,aU,aT,aS];by_cases c0:(gZ s.aA w j.Sub).2.Code=0
   .have a:((gZ s.aA w j.Sub).2.Code != 0)=false:=by simpa using c0
    simp only[a,aU,aT,aO (show ¬(gZ s.aA w j.Sub).2.Code≠0 from λh=>h c0),eB,aE];by_cases m:j3 (gZ s.aA w j.Sub).2.Out
    .simp only[cB m,eP,aU,aT,aM m,aE];refine(g _ ?_ _).trans ?_;rfl;simp[pB,tU]
    .simp only[dV m,oH,aS,aO m,aE];refine(g _ ?_ _).trans ?_;rfl;simp[pB,tU]
   simp_all[pB,tU]
 have f:(j.Pc == 0)=false:=by simpa using p
 simp only[f,aU,aT,aO p];by_cases l:j.Pc=1
 .have d:(j.Pc == 1)=true:=by simpa using l
  simp only[d,aS,aM l];by_cases c0:(NM s.aA.Mem j.H j.Op.cT).2=0
  .have a:((NM s.aA.Mem j.H j.Op.cT).2 != 0)=false:=by simpa using c0
   simp only[a,aU,aT,aM c0,aE];refine(g _ ?_ _).trans ?_;rfl;simp[pB,tU]
  .have a:((NM s.aA.Mem j.H j.Op.cT).2 != 0)=true:=by simpa using c0
   simp only[a,aS,aO c0,aE];refine(g _ ?_ _).trans ?_;rfl;simp[pB,tU]
 have d:(j.Pc == 1)=false:=by simpa using l
 simp only[d,aU,aT,aO l];by_cases o:j.Pc=2
 .have c:(j.Pc == 2)=true:=by simpa using o
  simp only[c,aS,aM o];by_cases c0:cellAt s.Cells j.Op.Cell=0
  .have a:(cellAt s.Cells j.Op.Cell == 0)=true:=by simpa using c0
   simp only[a,aS,aM c0,aE];refine(g _ ?_ _).trans ?_;rfl;simp[pB,tU,c0]
  .have a:(cellAt s.Cells j.Op.Cell == 0)=false:=by simpa using c0
   simp only[a,aU,aT,aO c0,aE];refine(g _ ?_ _).trans ?_;rfl;simp[pB,tU,UC]
 have c:(j.Pc == 2)=false:=aj
 simp only[c,aU,aT,aO o];by_cases r:j.Pc=3
 .have n:(j.Pc == 3)=true:=aj
  simp only[n,aS,aM r];cases v:(gZ s.aA w j.Sub).2.eG with
  |false=>simp_all[pB]
  |true=>simp_all[pB,tU]
 simp_all[pB,tU]
theorem bIQ:((IM s w j).bind λq=>dK w q.1 q.2)=some (pB s w (bIN s w j)):=by
 have t:∀(e:Ev) {O:Type} (k:Option O),need (s.Log.length + [e].length<=1073741824) k=k:=λe _ k=>EP;have b:=aAK hs hjo.1.2.2.1;have a:=λx r j=>a2A hs hw x r j;unfold IM bIN;simp only[aEV hs.1 hw,b,aE,bS,kH,t,aZI hs.1.1.1,YY hs.1.1.2.1 hw,tF,DZ hs.1.1.2.1 hw];by_cases p:j.Pc=0
 .have h:(j.Pc == 0)=true:=by simpa using p
  simp only[h,aS,aM p];cases u:(gZ s.aA w j.Sub).2.eG with
  |false=>simp only[oH,aS,aU,aT,aE];refine(a _ ?_ _).trans ?_;rfl;simp[pB]
  |true=>simp only[eP,aU,aT,aS,aE];refine(a _ ?_ _).trans ?_;rfl;simp[pB,tU]
 have h:(j.Pc == 0)=false:=by simpa using p
 simp only[h,aU,aT,aO p];by_cases o:j.Pc=1
 .have g:(j.Pc == 1)=true:=by simpa using o
  simp only[g,aS,aM o];by_cases c0:cellAt s.Cells j.Op.Cell=0
  .have i:(cellAt s.Cells j.Op.Cell == 0)=true:=by simpa using c0
   simp only[i,aS,aM c0,aE];refine(a _ ?_ _).trans ?_;rfl;simp[pB,tU,aGC,c0]
  .have i:(cellAt s.Cells j.Op.Cell == 0)=false:=by simpa using c0
   simp only[i,aU,aT,aO c0,aE];refine(a _ ?_ _).trans ?_;rfl;simp[pB,tU,aGC]
 have g:(j.Pc == 1)=false:=by simpa using o
 simp only[g,aU,aT,aO o];by_cases n:j.Pc=2
 .have f:(j.Pc == 2)=true:=by simpa using n
  simp only[f,aS,aM n,aE];refine(a _ ?_ _).trans ?_;rfl;simp[pB,tU]
 have f:(j.Pc == 2)=false:=by simpa using n
 simp only[f,aU,aT,aO n];by_cases m:j.Pc=3
 .have d:(j.Pc == 3)=true:=by simpa using m
  simp only[d,aS,aM m,aE,mG,bS,aTA];cases y:(mD s.aA.aI w).On<;>cases v:(mD s.aA.aI w).gU<;>simp only[oH,eP,aU,aT,aS,aE,and_false,and_true,false_and,true_and,reduceCtorEq]<;>(refine(a _ ?_ _).trans ?_;rfl;simp[pB,tU])
 have d:(j.Pc == 3)=false:=by simpa using m
 simp only[d,aU,aT,aO m];by_cases l:j.Pc=4
 .have c:(j.Pc == 4)=true:=by simpa using l
  simp only[c,aS,aM l,aE];refine(a _ ?_ _).trans ?_;rfl;simp[pB,tU]
 have c:(j.Pc == 4)=false:=by simpa using l
 simp only[c,aU,aT,aO l,aE];refine(a _ ?_ _).trans ?_;rfl;simp[pB,tU]
theorem bIR:((IN s w j).bind λq=>dK w q.1 q.2)=some (pB s w (bIO s w j)):=by
 have t:∀(e:Ev) {O:Type} (k:Option O),need (s.Log.length + [e].length<=1073741824) k=k:=λe _ k=>EP;have c:=aAK hs hjo.1.2.2.1;have b:=λx r j=>a2A hs hw x r j;obtain⟨z,v⟩:=a19 hs.1.1.2.2.2 hw j.H;obtain⟨y,u⟩:=a9T hs.1.1.2.2.2 hw;unfold IN bIO;simp only[c,aE,bS,kH,t,aZI hs.1.1.1,v,u];by_cases p:j.Pc=0
 .have i:(j.Pc == 0)=true:=by simpa using p
  simp only[i,aS,aM p];by_cases c0:cellAt s.Cells j.Op.Cell=0
  .have a:(cellAt s.Cells j.Op.Cell == 0)=true:=by simpa using c0
   simp only[a,aS,aM c0,aE];refine(b _ ?_ _).trans ?_;rfl;simp[pB,tU,aGC,c0]
  .have a:(cellAt s.Cells j.Op.Cell == 0)=false:=by simpa using c0
   simp only[a,aU,aT,aO c0,aE];refine(b _ ?_ _).trans ?_;rfl;simp[pB,tU]
 have i:(j.Pc == 0)=false:=by simpa using p
 simp only[i,aU,aT,aO p];by_cases o:j.Pc=1
 .have h:(j.Pc == 1)=true:=by simpa using o
  simp only[h,aS,aM o,aE];refine(b _ ?_ _).trans ?_;rfl;simp[pB,tU]
 have h:(j.Pc == 1)=false:=by simpa using o
 simp only[h,aU,aT,aO o];by_cases n:j.Pc=2
 .have g:(j.Pc == 2)=true:=by simpa using n
  simp only[g,aS,aM n];by_cases c0:cellAt s.Cells j.Op.Cell=j.H
  .have a:(cellAt s.Cells j.Op.Cell != j.H)=false:=by simpa using c0
   simp only[a,aU,aT,aM c0,aE];refine(b _ ?_ _).trans ?_;rfl;simp[pB,tU,aGC]
  .have a:(cellAt s.Cells j.Op.Cell != j.H)=true:=by simpa using c0
   simp only[a,aS,aO c0,aE];refine(b _ ?_ _).trans ?_;rfl;simp[pB,tU]
 have g:(j.Pc == 2)=false:=by simpa using n
 simp only[g,aU,aT,aO n];by_cases m:j.Pc=3
 .have f:(j.Pc == 3)=true:=by simpa using m
  simp only[f,aS,aM m,aE];refine(b _ ?_ _).trans ?_;rfl;simp[pB,tU]
 have f:(j.Pc == 3)=false:=by simpa using m
 simp only[f,aU,aT,aO m];by_cases l:j.Pc=4
 .have d:(j.Pc == 4)=true:=by simpa using l
  simp only[d,aS,aM l,aE];refine(b _ ?_ _).trans ?_;rfl;simp[pB,tU]
 have d:(j.Pc == 4)=false:=by simpa using l
 simp only[d,aU,aT,aO l,aE];refine(b _ ?_ _).trans ?_;rfl;simp[pB,tU]
theorem bE2:((C5 s w j).bind λq=>dK w q.1 q.2)=some (pB s w (a72 s w j)):=by
 have n:∀(e:Ev) {O:Type} (k:Option O),need (s.Log.length + [e].length<=1073741824) k=k:=λe _ k=>EP;have a:=aAK hs hjo.1.2.2.1;have g:=λx m j=>a2A hs hw x m j;unfold C5 a72;simp only[a,aE,bS,kH,n,aZI hs.1.1.1,tF,DZ hs.1.1.2.1 hw];by_cases h:j.Pc=0
 .have b:(j.Pc == 0)=true:=aj
  simp only[b,aS,aM h];cases p:(mD s.aA.aI w).On with
  |false=>simp_all[pB,tU]
  |true=>
   cases o:(mD s.aA.aI w).gU with
   |true=>simp only[eP,aU,aT,aS,aE,reduceCtorEq];refine(g _ ?_ _).trans ?_;rfl;simp[pB,tU]
   |false=>
    simp only[eP,aU,aT,reduceCtorEq];by_cases c0:cellAt s.Cells j.Op.Cell=0
    .have c:(cellAt s.Cells j.Op.Cell == 0)=true:=by simpa using c0
     simp only[c,aS,aM c0,aE];refine(g _ ?_ _).trans ?_;rfl;simp[pB,tU,aGC,c0]
    .have c:(cellAt s.Cells j.Op.Cell == 0)=false:=by simpa using c0
     simp only[c,aU,aT,aO c0,aE];refine(g _ ?_ _).trans ?_;rfl;simp[pB,tU,aGC]
 have b:(j.Pc == 0)=false:=aj
 simp only[b,aU,aT,aO h];by_cases l:j.Pc=1
 .simp_all[pB,tU]
 have f:(j.Pc == 1)=false:=aj
 simp only[f,aU,aT,aO l];by_cases i:j.Pc=2
 .have d:(j.Pc == 2)=true:=aj
  simp only[d,aS,aM i,aE,mG,bS,aTA];cases p:(mD s.aA.aI w).On<;>cases o:(mD s.aA.aI w).gU<;>simp only[oH,eP,aU,aT,aS,aE,and_false,and_true,false_and,true_and,reduceCtorEq]<;>(grind[pB,tU])
 simp_all[pB,tU]
theorem a9U:((zQ s w j).bind λq=>dK w q.1 q.2)=some (pB s w (aZJ s w j)):=by
 have f:=λx h j=>a2A hs hw x h j;unfold zQ aZJ uV;simp only[YY hs.1.1.2.1 hw,aE,bS];have step:j.Op.Kind≠6->(j.Pc=0\/j.Pc=1/\j.Op.Kind≠5)->((iZ s w j false).bind λq=>dK w q.1 q.2)=some (pB s w ⟨(gZ s.aA w j.Sub).1,s.Cells,if(gZ s.aA w j.Sub).2.eG then if j.Op.Kind=5 then tU {j with Sub:=(gZ s.aA w j.Sub).2} 9 (gZ s.aA w j.Sub).2.Code else if j.Pc=0 then tU {j with Sub:=UC 4 0} 1 0 else tU {j with Sub:=(gZ s.aA w j.Sub).2,cT:=(gZ s.aA w j.Sub).2.Out} 9 (gZ s.aA w j.Sub).2.Code else {j with Sub:=(gZ s.aA w j.Sub).2},[]⟩):=λg kp=>by
  unfold iZ;simp only[aU,aT,aEV hs.1 hw,aE,bS,eK];cases i:(gZ s.aA w j.Sub).2.eG with
  |false=>simp_all[pB]
  |true=>
   simp only[eP,aU,aT,aS];by_cases d:j.Op.Kind=5
   .have b:(j.Op.Kind == 5)=true:=by simpa using d
    simp only[b,aS,aM d,aE];refine(f _ ?_ _).trans ?_;rfl;simp[pB,tU]
   .have b:(j.Op.Kind == 5)=false:=by simpa using d
    simp only[b,aU,aT,aO d];by_cases c:j.Pc=0
    .have a:(j.Pc == 0)=true:=by simpa using c
     simp only[a,aS,aM c,aE];refine(f _ ?_ _).trans ?_;rfl;simp[pB,tU,UC]
    .have a:(j.Pc == 0)=false:=by simpa using c
     simp only[a,aU,aT,aO c,aE];refine(f _ ?_ _).trans ?_;rfl;simp[pB,tU]
 have bad:((iZ s w j true).bind λq=>dK w q.1 q.2)=some (pB s w ⟨s.aA,s.Cells,tU j 9 1,[]⟩):=by simp_all[iZ,bS,pB,tU]
 by_cases g:j.Op.Kind=6
 .have e:(j.Op.Kind == 6)=true:=aj
  simp only[e,aS,aM g];by_cases c:j.Pc=0
  .have a:(j.Pc == 0)=true:=aj
   simp only[a,aS,aM c];cases k:(aAH s.aA.aI w).2 with
   |true=>simp_all[pB,tU]
   |false=>simp_all[pB,tU]
  grind
 grind
omit hjo
theorem a9V:zI s w=some (aZL s w):=by
 have m:=hs.2.2.2.1;have p:=hs.2.2.2.2.1;have E:∀(e:Ev) {O:Type} (k:Option O),need (s.Log.length + [e].length<=1073741824) k=k:=λe _ k=>EP;have c:idx s.aY w=some ⟨qO s.aY w⟩:=by have:=m.1;rw[eQ hw.1 aa];simp[qO,MQ,mA (show w.toNat<s.aY.length by omega)]
 have n:bB (s.aG+1)=s.aG+1:=cY;have b:(qO s.aY w).length<=12:=by
  have F:=m.1;rw[eQ hw.1 aa] at c;injection c with c
  have:=(m.2 _ (dO (show w.toNat<s.aY.length by omega))).1;grind
 unfold zI aZL;rw[c,aE];simp only[uM,c,aE];cases D:qO s.aY w with
 |nil=>simp
 |cons o r=>
  rw[D] at b;simp only[UQ] at b;have v:(((o::r).length:Int) == 0)=false:=ah
  simp only[v,aU,aT];by_cases s0:s.aG=1000000
  .grind
  have d:(s.aG == 1000000)=false:=aj
  have C:idx (o::r) 0=some o:=rfl;have u:((o::r).take (o::r).length).drop (1:Int).toNat=r:=ae
  simp only[d,aU,aT,aO s0,C,aE,eK,n];rw[b7 aj];have fin:∀l:fE,fV s w ⟨o::r⟩ o l=some ⟨s.aA,s.Cells,s.aH.set w.toNat l,s.aY.set w.toNat ⟨r⟩,s.Log++[⟨1,w,s.aG+1,o.Cell,0,0,0⟩],s.aG+1⟩:=λl=>by grind[fV,aEW]
  unfold aTB;by_cases q:o.Kind=1
  .have a:(o.Kind == 1)=true:=aj
   simp only[a,aS,aM q,fin];rfl
  have a:(o.Kind == 1)=false:=aj
  simp only[a,aU,aT,aO q];have t:∀z,z=true->jU s w ⟨o::r⟩ o z=some ⟨s.aA,s.Cells,s.aH.set w.toNat (if(mD s.aA.aI w).On then⟨true,o,s.aG+1,9,UC 5 0,0,0,0,1⟩ else⟨true,o,s.aG+1,0,UC 5 0,0,0,0,0⟩),s.aY.set w.toNat ⟨r⟩,s.Log++[⟨1,w,s.aG+1,o.Cell,0,0,0⟩],s.aG+1⟩:=λz B=>by subst B;simp only[jU,aS,eK,DZ hs.1.1.2.1 hw,aE,n,fin];cases (mD s.aA.aI w).On<;>rfl
  by_cases A:o.Kind=2
  .grind
  have i:(o.Kind == 2)=false:=aj
  simp only[i,aU,aT];by_cases x:o.Kind=5
  .grind
  have f:(o.Kind == 5)=false:=aj
  simp only[f,jU,aU,aT,aO (show ¬(o.Kind=2\/o.Kind=5) from λh=>h.elim A x),eK,aE,n,fin];by_cases y:o.Kind=4
  .have g:(o.Kind == 4)=true:=aj
   simp only[g,aS,aM y];rfl
  grind
theorem a2B:HT s w=some (PK s w):=by
 have p:∀(e:Ev) {O:Type} (k:Option O),need (s.Log.length + [e].length<=1073741824) k=k:=λe _ k=>EP;have o:JOk (mR s w):=by
  have h:=aEW hs hw;have r:=hs.2.2.1;rw[eQ hw.1 aa] at h;injection h with h
  rw[<-h];exact hs.2.2.2.2.2.2 _ (dO _)
 unfold HT PK;rw[aEW hs hw,aE];cases q:(mR s w).gW with
 |false=>simp only[oH,aS,a9V hs hl hw,aE]
 |true=>
  have hjo:=(aD8 q).1 o;simp only[eP,aU,aT,reduceCtorEq];by_cases i:(mR s w).Pc=9
  .have a:((mR s w).Pc == 9)=true:=by simpa using i
   simp only[a,aS,aM i,p];rfl
  have a:((mR s w).Pc == 9)=false:=by simpa using i
  simp only[a,aU,aT,aO i];unfold aZK;by_cases g:(mR s w).Op.Kind=1
  .have f:((mR s w).Op.Kind == 1)=true:=by simpa using g
   simp only[f,aS,aM g];exact bIP hs hl hw hjo g
  have f:((mR s w).Op.Kind == 1)=false:=by simpa using g
  simp only[f,aU,aT,aO g];by_cases n:(mR s w).Op.Kind=2
  .have d:((mR s w).Op.Kind == 2)=true:=by simpa using n
   simp only[d,aS,aM n];exact bIQ hs hl hw hjo
  have d:((mR s w).Op.Kind == 2)=false:=by simpa using n
  simp only[d,aU,aT,aO n];by_cases m:(mR s w).Op.Kind=3
  .have c:((mR s w).Op.Kind == 3)=true:=by simpa using m
   simp only[c,aS,aM m];exact bIR hs hl hw hjo
  have c:((mR s w).Op.Kind == 3)=false:=by simpa using m
  simp only[c,aU,aT,aO m];by_cases l:(mR s w).Op.Kind=7
  .have b:((mR s w).Op.Kind == 7)=true:=by simpa using l
   simp only[b,aS,aM l];exact bE2 hs hl hw hjo
  have b:((mR s w).Op.Kind == 7)=false:=by simpa using l
  simp only[b,aU,aT,aO l];exact a9U hs hl hw hjo
theorem a2C:yR s w=some (PK s w)/\SOk (PK s w)/\(PK s w).Log.length<=s.Log.length+1:=by grind[aZH,a2B]
end
def nL:al->Nat->aF->al
 |b,_,[]=>b
 |b,a,c::t=>nL (b.set a (c.toNat:Int)) (a+1) t
theorem CP:∀(t:aF) (b:al) (a:Nat),(nL b a t).length=b.length
 |[],b,a=>rfl
 |c::t,b,a=>by rw[nL,CP];simp
def aWZ:∀(t:aF) {b:al} (a:Nat),wD b->wD (nL b a t)
 |[],b,a,h=>h
 |c::t,b,a,h=>aWZ t (a+1) (a1X a h ⟨aa,by have:=c.toNat_lt;omega⟩)
def aJ1:∀(t:aF) {b:al} {a:Nat},a+t.length<=b.length->∀{j:Nat},(j<a\/a+t.length<=j)->bt (nL b a t) j=bt b j
 |[],b,a,h,j,d=>rfl
 |c::t,b,a,h,j,d=>by simp only[UQ] at h d;rw[nL,aJ1 t ah aa,T8 aa,qU]
def aMM(b:al)(a:Nat)(t:aF)(j:b.length<=100000)(h:a+t.length<=b.length):∀(r:aF) (k:Nat) (c:al),c.length=b.length->t.drop k=r->k+r.length=t.length->loop (m9 b (a:Int) t) (c,(k:Int))=some (nL c (a+k) r)
 |[],k,c,f,g,i=>by refine bR ?_;simp only[m9];rw[b7 f,aO aj];rfl
 |x::r,k,c,f,g,i=>by
  simp only[UQ] at i;have d:k<t.length:=aa
  have e:=EU d;rw[g] at e;injection e with m l
  have st:m9 b (a:Int) t (c,(k:Int))=some (.next (c.set (a+k) (x.toNat:Int),((k+1:Nat):Int))):=by simp only[m9];rw[b7 f,cX,aZ d,aE,cY (x:=(a:Int)+k),show(a:Int)+k=((a+k:Nat):Int) by omega,UO,aE,cY,<-m];rfl
  rw[bO st,aMM b a t j h r (k+1) _ aj l.symm aa,nL];rfl
def aW0{b:al}{a:Nat}(c:b.length<=100000)(h:a+t.length<=b.length):nA b (a:Int) t=some (nL b a t):=by unfold nA;rw[show(0:Int)=((0:Nat):Int) from rfl,aMM b a t c h t 0 b rfl rfl aa,aE];grind[S8,S7,b7,CP]
def HOk.nL(hh:HOk h)(H:0<=bH h s){o:Nat}(E:((o+t.length:Nat):Int)<=gQ (bH h s)) :
  HOk ⟨Gv.nL h.Bytes ((fW s (bH h s)).toNat+4+o) t,h.Class⟩/\∀u,0<=bH h u->kN ⟨Gv.nL h.Bytes ((fW s (bH h s)).toNat+4+o) t,h.Class⟩ u=kN h u:=by
 obtain⟨c,F⟩:=hh;have n:=c.1;have g:gX ⟨Gv.nL h.Bytes ((fW s (bH h s)).toNat+4+o) t,h.Class⟩:=⟨by grind[CP],c.2.1,aWZ _ _ c.2.2.1,c.2.2.2⟩;obtain⟨p,i,J,P,Q,ec,S,R⟩:=oT H;have y:0<=cV h p/\cV h p<=2:=lB.1 aa;rw[ec] at E;have b:8+i*(bL (cV h p)).toNat+4+(gQ (cV h p)).toNat<=64/\∀j,j<(dI (cV h p)).toNat->j*(bL (cV h p)).toNat+4<=i*(bL (cV h p)).toNat+4\/i*(bL (cV h p)).toNat+4+(gQ (cV h p)).toNat<=j*(bL (cV h p)).toNat:=by grind[dI,bL,gQ]
 have w:o+t.length<=(gQ (cV h p)).toNat:=aa
 have m:∀q j,q<6->j<(dI (cV h q)).toNat->ld (Gv.nL h.Bytes ((fW s (bH h s)).toNat+4+o) t) (q*64+8+j*(bL (cV h q)).toNat) 4=ld h.Bytes (q*64+8+j*(bL (cV h q)).toNat) 4:=λq j d r=>by
  have O:=wE c d rfl r;refine SP aa (by grind[CP]) λk M L=>?_;by_cases e:q=p
  .subst e;have:=b.2 j r;exact aJ1 _ aa aa
  .exact aJ1 _ aa aa
 refine⟨⟨g,λq d=>?_⟩,λu D=>?_⟩
 .rw[MF g d];have a:=(MF c d).1 (F q d);by_cases e:q=p
  .subst e;have f:¬cV h q<0:=aa
   unfold aG8 at a ⊢;have l:cV ⟨Gv.nL h.Bytes ((fW s (bH h s)).toNat+4+o) t,h.Class⟩ q=cV h q:=rfl;rw[l];rw[aO f] at a ⊢;obtain⟨⟨Z,Y,X⟩,W,V⟩:=a;have I:∀k,k<8->bt (Gv.nL h.Bytes ((fW s (bH h s)).toNat+4+o) t) (q*64+k)=bt h.Bytes (q*64+k):=λk G=>aJ1 _ aa aa;have U:=I 0 aa;grind
  .refine aG8.same d c (by grind[CP]) rfl (λk G=>aJ1 _ aa aa) a
 .obtain⟨K,N,v,x,z,C,B,A⟩:=oT D;have T:bH ⟨Gv.nL h.Bytes ((fW s (bH h s)).toNat+4+o) t,h.Class⟩ u=bH h u:=rfl;grind[kN]
def lX.nL(f:lX m)(h:0<=bH m.Heap s){o:Nat}(d:((o+t.length:Nat):Int)<=gQ (bH m.Heap s)):zF m ⟨⟨Gv.nL m.Heap.Bytes ((fW s (bH m.Heap s)).toNat+4+o) t,m.Heap.Class⟩,m.aD⟩ (-1):=by obtain⟨a,b⟩:=HOk.nL f.1.1 h d;refine⟨lX.heap f a λx g=>⟨rfl,b x (lX.qW f g).1⟩,λt d _=>?_⟩;have c:=jN.1 d;have e:=b t c.1;exact⟨jN.2 ⟨c.1,c.2.1,aj⟩,e,rfl⟩
def a2D:fS:=⟨0,0,0⟩
def NN(h:Heap)(s:Int):Nat:=(fW s (bH h s)).toNat+4
def bIS(h:Heap)(s:Int):fS:=⟨ld h.Bytes (NN h s) 2,ld h.Bytes (NN h s+2) 4,ld h.Bytes (NN h s+6) 4⟩
def W6(h:Heap)(x:Int):fS:=if j3 x/\0<=bH h (x % 32)/\10<=gQ (bH h (x % 32)) then bIS h (x % 32) else a2D
def aAL(a:0<=bH h s)(b:10<=gQ (bH h s)):NN h s+10<=384/\16<=gQ (bH h s):=by grind[bH,NN,oT,gQ,dI,bL]
def aTC(a:gX h)(s:Int):K3 h s=some (decide (10<=gQ (bH h s))):=by grind[K3,jQ,T2]
def aG9(b:gX h)(a:0<=bH h s):DM h s=some (NN h s:Int):=by have:=MB a;grind[DM,NN,jQ,start_eq]
def a9W(a:gX h)(c:0<=bH h s)(b:10<=gQ (bH h s)):VQ h s=some (bIS h s):=by
 have d:=(aAL c b).1;have e:=a.1;unfold VQ bIS;rw[aG9 a c,aE,show(2:Int)=((2:Nat):Int) from rfl,show(4:Int)=((4:Nat):Int) from rfl,oG a.2.2.1 aa aa aa,aE,
  cY,show(NN h s:Int)+((2:Nat):Int)=((NN h s+2:Nat):Int) by omega,oG a.2.2.1 aa aa aa,aE,
  cY,show(NN h s:Int)+6=((NN h s+6:Nat):Int) by omega,oG a.2.2.1 aa aa aa];rfl
def aW1(e:lX m)(x:Int):∃c,PE m x=some (W6 m.Heap x,c):=by
 have b:=e.1.1.1;unfold PE W6;rw[hO,aE];by_cases hh:j3 x
 .rw[cB hh,fF,(j3.mod hh).1,jQ b,aE];unfold K4;by_cases d:bH m.Heap (x % 32)<0
  .rw[cB d,aM rfl,qU];exact⟨_,rfl⟩
  .rw[dV d,fF,(j3.mod hh).1,aTC b,aE];by_cases a:10<=gQ (bH m.Heap (x % 32))
   .simp_all[a9W]
   .rw[dV a,aM ak,qU];exact⟨_,rfl⟩
 .rw[dV hh,aM ak,aO (λq=>hh q.1)];exact⟨_,rfl⟩
def W7(n:fS):Int:=if j3 n.Next then n.Next else 0
def aZM(n:fS):i7 n=some (W7 n):=by unfold i7 W7;rw[hO,aE];grind
def aLR(n:fS):fH (W7 n):=by
 unfold W7;split
 .exact .inr (by assumption)
 .exact .inl rfl
def a2E(m:Mem)(x:Int):Prop:=lE m x/\10<=gQ (bH m.Heap (x % 32))
instance (m:Mem) (x:Int):Decidable (a2E m x):=by unfold a2E;infer_instance
def aMN(f:lX m)(x:Int):∃c,FM m x=some c/\(c=0↔a2E m x):=by
 obtain⟨d,n,l,p,o,g,k,j,i,h⟩:=lX.facts f;have e:=f.1.1.1;unfold FM a2E;rw[CN e aa (by rw[n];simp[maxLen]) (by rw[l];simp[maxLen]),aE];by_cases b:lE m x
 .rw[cB b,fF,(j3.mod b.1).1,aTC e,aE];by_cases a:10<=gQ (bH m.Heap (x % 32))
  .rw[cB a,fF];exact⟨_,rfl,by simp[b,a]⟩
  .rw[dV a,aM ak];exact⟨_,rfl,by simp[b,a]⟩
 simp_all
def aGD(n:Int):aF:=[u8 (n/256),u8 n]
def a5I(hn:0<=n/\n<=65535):mH n 2=some (aGD n):=by
 have a:kI 2=some true:=by grind[kI,eT]
 unfold mH;rw[a];have f:IntKind.u64.wrap (bB (8*2))=16:=ai
 have e:aP0 .i64 1 16=65536:=ai
 simp only[aE,eP,aU,aT,f,e];rw[qH,PH,dV aa];simp only[zT,aU,aT];rw[PH,show bB (2-1)=((1:Nat):Int) from by grind[cK]];have st:∀(m:Int) (c:aF) (i:Nat),i<c.length->i<4->0<=m->tG (m,c,(i:Int))=some (.next (m/256,c.set i (u8 m),(i:Int)-1)):=λm c i b g d=>by simp only[tG];rw[aM ae,aZ b,aE,show(8:Int)=((8:Nat):Int) from rfl,a7U d aa,cY,MK];rfl
 rw[bO (st n _ 1 ae aa hn.1),show((1:Nat):Int)-1=((0:Nat):Int) by rfl,
  bO (st _ _ 0 ae aa aa),bR (r:=aGD n)]
 .rfl
 .simp only[tG];rw[fF];rfl
def bME(n:fS):aF:=aGD n.Key++F5 n.cT++F5 n.Next
def aZN(n:fS):Prop:=(0<=n.Key/\n.Key<=99)/\(0<=n.cT/\n.cT<=65535)/\fH n.Next
instance (n:fS):Decidable (aZN n):=by unfold aZN;infer_instance
def a9X(n:fS):VT n=some (decide (aZN n)):=by grind[VT,aZN,eT,aJY,B5]
def aJ2(h:fH x):0<=x/\x<=223:=by
 obtain h|h:=h
 .omega
 .have:=h.1;omega
def aTD(m:Mem)(x:Int)(n:fS):Mem:=if aZN n/\a2E m x then⟨⟨nL m.Heap.Bytes (NN m.Heap (x % 32)) (bME n),m.Heap.Class⟩,m.aD⟩ else m
def a5J(d:lX m)(x:Int)(n:fS):∃c,R3 m x n=some (aTD m x n,c):=by
 obtain⟨i,w,v,z,y,f,r,o,l,k⟩:=lX.facts d;have s:=d.1.1.1;have h:m.Heap.Bytes.length<=maxLen:=by grind[maxLen]
 unfold R3 aTD;rw[PJ f,aE,FX h aa,cB d,aE,fF,a9X,aE];unfold G0;by_cases a:aZN n
 .rw[cB a,fF];obtain⟨c,e,t⟩:=aMN d x;rw[e,aE];by_cases hw:a2E m x
  .have b:=jB hw.1.2.1;have u:=(aAL b hw.2).1;have g:=aJ2 a.2.2;have p:=a.1.2;have j:=a.2.1.2;obtain rfl:=t.2 hw;rw[aM ak,(j3.mod hw.1.1).1,aG9 s b,aE,a5I ⟨a.1.1,aa⟩,aE,T6 ⟨a.2.1.1,aa⟩,aE,b7 (by simp[aGD,F5]),
    T6 ⟨g.1,aa⟩,aE,b7 (by simp[aGD,F5]),aW0 aa (by grind[aGD,F5]),aE,aM ⟨a,hw⟩]
   exact⟨_,rfl⟩
  .rw[aO aj,aO (λq=>hw q.2)];exact⟨_,rfl⟩
 simp_all
def aTE(m:Mem)(x y:Int):Mem:=if fH y/\a2E m x then⟨⟨nL m.Heap.Bytes (NN m.Heap (x % 32)+6) (F5 y),m.Heap.Class⟩,m.aD⟩ else m
def a9Y(b:lX m)(x y:Int):∃c,VR m x y=some (Gv.aTE m x y,c):=by
 obtain⟨i,t,s,v,u,d,n,l,k,j⟩:=lX.facts b;have o:=b.1.1.1;have g:m.Heap.Bytes.length<=maxLen:=by grind[maxLen]
 unfold VR Gv.aTE;rw[PJ d,aE,FX g aa,cB b,aE,fF,aJY,aE];unfold K8;by_cases h:fH y
 .rw[cB h,fF];obtain⟨c,e,p⟩:=aMN b x;rw[e,aE];by_cases hw:a2E m x
  .have a:=jB hw.1.2.1;have r:=(aAL a hw.2).1;have f:=aJ2 h;obtain rfl:=p.2 hw;rw[aM ak,(j3.mod hw.1.1).1,aG9 o a,aE,T6 ⟨f.1,aa⟩,aE,cY,show(NN m.Heap (x % 32):Int)+6=((NN m.Heap (x % 32)+6:Nat):Int) by omega,
    aW0 aa (by grind[F5]),aE,aM ⟨h,hw⟩]
   exact⟨_,rfl⟩
  .rw[aO aj,aO (λq=>hw q.2)];exact⟨_,rfl⟩
 simp_all
def bE3(a:lX m)(x:Int)(n:fS):zF m (aTD m x n) (-1):=by
 unfold aTD;split
 .rename_i h;have:=aAL (jB h.2.1.2.1) h.2.2;exact lX.nL a (jB h.2.1.2.1) (o:=0) (by grind[bME,aGD,F5])
 .exact⟨a,λs h _=>⟨h,rfl,rfl⟩⟩
def bE4(a:lX m)(x y:Int):zF m (Gv.aTE m x y) (-1):=by
 unfold Gv.aTE;split
 .rename_i h;have:=aAL (jB h.2.1.2.1) h.2.2;exact lX.nL a (jB h.2.1.2.1) (o:=6) (by grind[F5])
 .exact⟨a,λs h _=>⟨h,rfl,rfl⟩⟩
def bE5:Heap:=⟨List.replicate 384 0,[-1,-1,-1,-1,-1,-1]⟩
def bMF:aD:=⟨List.replicate 3 ⟨[]⟩,List.replicate 9 ⟨[]⟩⟩
def aW2:aA:=⟨⟨bE5,bMF⟩,⟨0,List.replicate 3 ⟨false,0,false,0⟩⟩,List.replicate 3 ⟨[]⟩,List.replicate 3 0⟩
def aOZ:Q0=some bE5:=by
 unfold Q0;have a:loop yA (0,[])=some (List.replicate 6 (-1)):=kL (f:=yA) 6 (λk=>((k:Int),List.replicate k (-1))) _ (λk b=>by
  simp only[yA];rw[cX,EP,cY,List.replicate_succ'];rfl) (by simp[yA])
 rw[PH,a];rfl
def bMG:AI [-1] 6=some [-1,-1,-1,-1,-1,-1]:=by
 unfold AI;rw[fF,show WA (IntKind.u64.wrap (([-1]:al).length:Int)) (IntKind.u64.wrap 6)=some (0,6) by kernel_rfl];simp only[aE];rw[fF,dV aa];simp only[sB,aU,aT];rw[show IntKind.i64.wrap 6=6 from wrap_i64 aa aa,PH,
  show(dM (List.replicate (Int.toNat 6) 0) 0 [-1],((min ([-1]:al).length ((List.replicate (Int.toNat 6) (0:Int)).length-0):Nat):Int))=([-1,0,0,0,0,0],1) by kernel_rfl,
  bO (body:=m6) (s':=([-1,-1,0,0,0,0],2)) (by kernel_rfl),bO (body:=m6) (s':=([-1,-1,-1,-1,0,0],4)) (by kernel_rfl),
  bO (body:=m6) (s':=([-1,-1,-1,-1,-1,-1],6)) (by kernel_rfl),bR (body:=m6) (r:=[-1,-1,-1,-1,-1,-1]) (by kernel_rfl)]
 rfl
def aO0:RI=some bE5:=by unfold RI;rw[PH,bMG];rfl
def aAM:JG=some aW2/\JU=some aW2:=by unfold JG JU aCV aC1 V7 WB V8 WC V9 WD aCW aC2;rw[aOZ,aO0,PH,PH,PH,PH,PH];exact⟨rfl,rfl⟩
def a2F:lD aW2:=of_decide_eq_true (by kernel_rfl)
def a73:aJ:=⟨⟨⟨⟨[],[]⟩,⟨[],[]⟩⟩,⟨0,[]⟩,[],[]⟩,[],[],[],[],0⟩
def wG(t:av):aJ:=⟨aW2,List.replicate 2 0,List.replicate 3 aJZ,t,[],0⟩
def aLS{t:av}(h:Y0 t):SOk (wG t):=⟨a2F,rfl,rfl,h,by simp[wG],λq b=>by simp[wG] at b;exact .inl b,λj a=>by simp[wG] at a;exact(a18 (by rw[a];rfl)).2 a⟩
def aEX{l:av}(c:l.length<=1048576)(b:∀q∈l,q.mY.length<=1048576):A2 l=some l/\E8 l=some l:=by
 constructor
 .unfold A2;rw[T5 l]
  .rfl
  .intro k a;have:=b _ (dO a);simp only[JI];rw[cX,aZ a];simp only[aE];rw[EP,EP,cY];rfl
  grind[JI]
 .unfold E8;rw[T5 l]
  .rfl
  .intro k a;have:=b _ (dO a);simp only[M6];rw[cX,aZ a];simp only[aE,PT];rw[EP,aE,EP,cY];rfl
  grind[M6]
def aMO{t:av}(c:t.length<=1048576)(a:∀q∈t,q.mY.length<=1048576):zH t=some (if Y0 t then wG t else a73)/\N3 t=some (if Y0 t then wG t else a73):=by
 have b:t.length<=maxLen:=by grind[maxLen]
 unfold zH N3;rw[aZF b,aZG b (λq h=>by grind[maxLen])];simp only[aE];by_cases h:Y0 t
 .simp only[cB h,eP,aU,aT,aM h,aAM.1,aAM.2,aE,(aEX c a).1,(aEX c a).2];rw[PH,PH,PH,PH];exact⟨rfl,rfl⟩
 .simp only[dV h,oH,aS,aO h];exact⟨rfl,rfl⟩
def aEY(s:aJ):Prop:=W0 s.aA/\s.Cells.length<=1048576/\s.aH.length<=1048576/\s.aY.length<=1048576/\(∀q∈s.aY,q.mY.length<=1048576)/\s.Log.length<=1048576
def aEY.fits{s:aJ}(h:aEY s):s.aA.Mem.Heap.Bytes.length<=maxLen/\(fC s.aA.Mem.aD).length<=1073741824/\s.aA.aI.bV.length<=maxLen/\s.aA.aQ.length<=maxLen/\(cN s.aA.aQ).length<=1073741824/\s.aA.iU.length<=maxLen:=by obtain⟨⟨⟨j,i,g,f,e⟩,d,c,b,a⟩,_⟩:=h;grind[maxLen]
def aGE{s:aJ}(h:aEY s):LP s=some s:=by obtain⟨c,c1,g,e,d,f⟩:=h;have b:∀{β:Type} (k:Option β),need (([]:br).length+s.aH.length<=1073741824) k=k:=λk=>b7 aj k;have a:∀{β:Type} (k:Option β),need (([]:bw).length+s.Log.length<=1073741824) k=k:=λk=>b7 aj k;unfold LP P8;simp only[aY7 c,wF (show s.Cells.length<=1073741824 by omega),(aEX e d).1,aE,b,a,aHI]
def aGF{s:aJ}(h:aEY s):BJ s=some s:=by obtain⟨c,c1,g,e,d,f⟩:=h;have b:∀{β:Type} (k:Option β),need (([]:br).length+s.aH.length<=1073741824) k=k:=λk=>b7 aj k;have a:∀{β:Type} (k:Option β),need (([]:bw).length+s.Log.length<=1073741824) k=k:=λk=>b7 aj k;unfold BJ M7 PU;simp only[aY8 c,sZ (show s.Cells.length<=1073741824 by omega),(aEX e d).2,aE,b,a,aHI]
def aMP{s:aJ}(h:SOk s)(c:s.Log.length<=1000000):aEY s:=by have a:=h.2.2.2.1;exact⟨h.1.small,by have:=h.2.1;omega,by have:=h.2.2.1;omega,by have:=a.1;omega,λq b=>by have:=(a.2 q b).1;omega,aa⟩
end Go.Gv
end
