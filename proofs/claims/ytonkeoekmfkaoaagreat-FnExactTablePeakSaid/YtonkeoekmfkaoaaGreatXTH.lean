import Derived.Test.YtonkeoekmfkaoaaGreatXTG
set_option linter.unusedVariables false
set_option linter.unusedSimpArgs false
set_option linter.unusedSectionVars false
set_option linter.constructorNameAsVariable false
set_option linter.unnecessarySimpa false
noncomputable section
namespace Go.Gv
variable{n:Int}{l:List aQ}{m:Mem}{O:Type}{j:aE}
theorem aSM(c:jJ):QF c=some (decide (WJ c)):=by
 unfold QF GC GB;simp only[cW,aG];by_cases h1:1<=c.Kind/\c.Kind<=4
 ·by_cases h2:0<=c.Key/\c.Key<=99
  ·simp only[cD h1,cD h2,g8,bO,bM];have dv:(c.Kind=2\/c.Kind=4)->decide (0<=c.fE/\c.fE<=65535)=decide (WJ c):=λk=>by rw[P4,decide_eq_true_eq,decide_eq_true_eq];exact⟨λh=>⟨h1,h2,h,aa⟩,λh=>h.2.2.1⟩
   by_cases k2:c.Kind=2
   ·grind
   ·have e:(c.Kind == 2)=false:=aj
    by_cases k4:c.Kind=4
    ·grind
    ·have e4:(c.Kind == 4)=false:=aj
     simp only[e,e4,bO,bM];congr 1;rw[P4,beq_iff_eq,decide_eq_true_eq];constructor
     ·intro h;exact⟨h1,h2,aa,.inr (.inr h)⟩
     ·rintro⟨_,_,_,h|h|h⟩<;>omega
  simp_all[dR,WJ]
 ·simp only[dR h1,HX,bP];grind[WJ]
theorem aSN(c:jJ):QJ c=some (decide (WJ c)):=by
 have key:∀B:Bool,tY c B=some (decide ((1<=c.Kind/\c.Kind<=4)/\(0<=c.Key/\c.Key<=99)/\((B=true/\(0<=c.fE/\c.fE<=65535))\/c.fE=0))):=λB=>by unfold tY oZ;simp only[eT,aG];grind
 unfold QJ;have fin:∀B:Bool,(B=true↔c.Kind=2\/c.Kind=4)->tY c B=some (decide (WJ c)):=λB hB=>by rw[key];congr 1;rw[P4,decide_eq_true_eq,decide_eq_true_eq];grind[WJ]
 grind
theorem aSO{b:Batch}(hl:b.bI.length<=1048576):I9 b=some (decide (VJ b)):=by
 unfold I9;cases hc:b.Collect
 ·rw[dY];have hs:∀k (hk:k<b.bI.length),nB b (k:Int)=if WJ b.bI[k] then some (.next ((k+1:Nat):Int)) else some (.stop (Out.ret false)):=λk hk=>by simp only[nB];rw[cH,aU hk,aG,aSM,aG,cN];simp
  have key:loop (nB b) 0=_:=l7 (f:=nB b) b.bI (λk=>(k:Int)) WJ (Out.brk ()) (Out.ret false) (λk hk hp=>aj) (λk hk hp=>aj) (by simp[nB]);rw[key];by_cases q:∀x∈b.bI,WJ x
  ·rw[aL q];simp only[aG,RV,RU,cW];congr 1;rw[P4,decide_eq_true_eq,decide_eq_true_eq];exact⟨λa=>⟨λh=>aj,aa,q,λ_=>aa⟩,λa=>by have:=a.2.2.2 hc;have:=a.2.1;omega⟩
  ·rw[aN q,dR (show ¬VJ b from λa=>q a.2.2.1)];rfl
 ·rw[aL rfl];congr 1;rw[P4,beq_iff_eq,decide_eq_true_eq];constructor
  ·intro h;have h0:b.bI=[]:=vD aa;exact⟨λ_=>h0,aa,aj,λh=>aj⟩
  ·intro h;rw[h.1 hc];rfl
def BsV(l:List Batch):Prop:=∀b∈l,VJ b
instance (l:List Batch):Decidable (BsV l):=by unfold BsV;infer_instance
theorem aSP{l:List aP}(hl:l.length<=1048576)(hb:∀q∈l,∀b∈q.List,b.bI.length<=1048576):JA l=some (decide (aEK l)):=by
 unfold JA;have inner:∀k (hk:k<l.length),l[k].List.length<=12->loop (nC l (k:Int)) 0=some (if BsV l[k].List then Out.brk () else Out.ret false):=by
  intro k hk h12;have hs:∀j (hj:j<l[k].List.length),nC l (k:Int) (j:Int)=if VJ l[k].List[j] then some (.next ((j+1:Nat):Int)) else some (.stop (Out.ret false)):=by intro j hj;simp only[nC];rw[aU hk,aG,cH,aG,aU hj,aG,aSO (hb _ (cZ hk) _ (cZ hj)),aG,cN];simp
  have:=l7 (f:=nC l (k:Int)) l[k].List (λj=>(j:Int)) VJ (Out.brk ()) (Out.ret false) (λj hj hp=>aj) (λj hj hp=>aj) (by
   simp_all[nC,aU])
  refine Eq.trans this ?_;congr 1
 have hs:∀k (hk:k<l.length),nD l (k:Int)=if QuV l[k] then some (.next ((k+1:Nat):Int)) else some (.stop (Out.ret false)):=by
  intro k hk;simp only[nD];rw[cH,aU hk,aG];by_cases h12:l[k].List.length<=12
  ·rw[pH,inner k hk h12];by_cases q:BsV l[k].List
   ·rw[aL q,aL (show QuV l[k] from⟨h12,q⟩)];simp only[aG,RY,RX];grind[dA]
   ·rw[aN q,aN (show ¬QuV l[k] from λa=>q a.2)];rfl
  ·rw[cH,aN (show ¬QuV l[k] from λa=>h12 a.1)]
 have key:loop (nD l) 0=_:=l7 (f:=nD l) l (λk=>(k:Int)) QuV (Out.brk ()) (Out.ret false) (λk hk hp=>aj) (λk hk hp=>aj) (by simp[nD]);rw[key];by_cases q:∀x∈l,QuV x
 ·rw[aL q];simp only[aG,RZ,RW];congr 1;rw[P4];simp only[beq_iff_eq,decide_eq_true_eq];exact⟨λa=>⟨aa,q⟩,λa=>by have:=a.1;omega⟩
 ·rw[aN q,dR (show ¬aEK l from λa=>q a.2)];rfl
theorem aBT{l:List O}{f:Int->Option (Step Int (Out Unit Int))}{p:O->Bool}{m:(Out Unit Int)->Option Int}(hl:l.length<=4611686018427387904)
  (hf:∀k:Nat,f (k:Int)=if h:k<l.length then(if p l[k] then some (.stop (Out.ret (k:Int))) else some (.next ((k+1:Nat):Int))) else some (.stop (Out.brk ()))) (m1:∀r,m (.ret r)=some r) (m2:m (.brk ())=some (-1)) :
  ((loop f 0).bind m).bind (λx1=>some (decide (0<=x1)))=some (l.any p):=by
 rcases Z0 (f:=f) (p:=p) hl hf l.length 0 aa with ⟨j,h,_,h2,h3,h4⟩|⟨h1,h2⟩
 ·rw[show(0:Int)=((0:Nat):Int) from rfl,h4,aG,m1,aG,cD aa];grind
 ·rw[show(0:Int)=((0:Nat):Int) from rfl,h2,aG,m2,aG,dR aa];congr 1;refine(List.any_eq_false.2 λx hx=>?_).symm;obtain⟨i,hi,rfl⟩:=aBY hx;grind
theorem aNW{l:List jJ}(hl:l.length<=1048576){f:jJ->Bool}{g:jJ->Option Bool}(hg:∀x∈l,g x=some (f x)):qE l g=some (l.any f):=
 aBT (f:=qD l g) (m:=CA) aa (λk=>by
  simp only[qD];by_cases h:k<l.length
  ·rw[dif_pos h,cH,aU h,aG,hg _ (cZ h),aG,cN];rfl
  grind) (λ_=>rfl) rfl
theorem aIU{l:List Batch}(hl:l.length<=1048576){f:Batch->Bool}{g:Batch->Option Bool}(hg:∀x∈l,g x=some (f x)):m5 l g=some (l.any f):=
 aBT (f:=m4 l g) (m:=yI) aa (λk=>by
  simp only[m4];by_cases h:k<l.length
  ·rw[dif_pos h,cH,aU h,aG,hg _ (cZ h),aG,cN];rfl
  grind) (λ_=>rfl) rfl
theorem aEM{l:List aP}(hl:l.length<=1048576){f:aP->Bool}{g:aP->Option Bool}(hg:∀x∈l,g x=some (f x)):mI l g=some (l.any f):=
 aBT (f:=mH l g) (m:=vV) aa (λk=>by
  simp only[mH];by_cases h:k<l.length
  ·rw[dif_pos h,cH,aU h,aG,hg _ (cZ h),aG,cN];rfl
  grind) (λ_=>rfl) rfl
theorem aNX{l:List O}{P:O->Prop}[DecidablePred P]:(!(l.any λx=>!decide (P x)))=decide (∀x∈l,P x):=aj
theorem aSQ{b:Batch}(hl:b.bI.length<=1048576):JU b=some (decide (VJ b)):=by
 unfold JU;cases hc:b.Collect
 ·rw[dY,eT,aG];by_cases h:1<=(b.bI.length:Int)/\(b.bI.length:Int)<=6
  ·rw[cD h,aL rfl,aNW hl (f:=λx=>!decide (WJ x)) (λx _=>by grind[KX,aSN]),aG,aNX];unfold tD;congr 1;rw[P4,decide_eq_true_eq,decide_eq_true_eq];exact⟨λa=>⟨λh=>aj,aa,a,λ_=>aa⟩,λa=>a.2.2.1⟩
  ·rw[dR h,dY];grind[tD,VJ]
 ·rw[aL rfl];congr 1;rw[P4,beq_iff_eq,decide_eq_true_eq];constructor
  ·intro h;have h0:b.bI=[]:=vD aa;exact⟨λ_=>h0,aa,aj,λh=>aj⟩
  ·intro h;rw[h.1 hc];rfl
theorem aSR{l:List aP}(hl:l.length<=1048576)(hq:∀q∈l,q.List.length<=1048576)(hb:∀q∈l,∀b∈q.List,b.bI.length<=1048576):JV l=some (decide (aEK l)):=by
 have e1:∀q∈l,DR q=some (!decide (QuV q)):=λq hm=>by
  unfold DR uP;by_cases h:q.List.length<=12
  ·rw[pH,aIU (hq q hm) (f:=λx=>!decide (VJ x)) (λx hx=>by grind[FU,aSQ]),aG];congr 1;rw[<-Bool.not_not ((q.List.any λx=>!decide (VJ x))),aNX];congr 1;rw[P4,decide_eq_true_eq,decide_eq_true_eq];exact⟨λa=>⟨h,a⟩,λa=>a.2⟩
  ·rw[cH,dR (show ¬QuV q from λa=>h a.1)];rfl
 unfold JV AP;by_cases h:l.length=3
 ·rw[cH,aEM hl e1,aG,aNX];congr 1;rw[P4,decide_eq_true_eq,decide_eq_true_eq];exact⟨λa=>⟨h,a⟩,λa=>a.2⟩
 ·rw[pH,dR (show ¬aEK l from λa=>h a.1)]
theorem aUT{b:Batch}(h:b.bI.length<=1048576):tR b=some b/\DS b=some b:=by unfold tR DS xA qF;rw[LJ];simp
theorem aP3{l:List aP}(hl:l.length<=1048576)(hq:∀q∈l,q.List.length<=1048576)(hb:∀q∈l,∀b∈q.List,b.bI.length<=1048576):C5 l=some l/\DW l=some l:=by
 constructor
 ·unfold C5;rw[Z4 l]
  ·rfl
  ·intro k hk;have h1:=hq _ (cZ hk);simp only[C4];rw[cH,V3 l[k].List]
   ·simp only[aG,MN,MM];rw[LJ,cN];rfl
   ·intro i hi;simp only[C3,C2];rw[aU hk,aG,cH,aG,aU hi,aG,(aUT (hb _ (cZ hk) _ (cZ hi))).1,aG,LJ,cN];rfl
   simp_all[C3,aU]
  grind[C4]
 ·unfold DW;rw[Z4 l]
  ·rfl
  ·intro k hk;have h1:=hq _ (cZ hk);simp only[DV];rw[cH,aU hk,aG,V3 l[k].List]
   ·simp only[aG,M4,M3];rw[LJ,cN];rfl
   ·intro i hi;simp only[DU,DT];rw[cH,aU hi,aG,(aUT (hb _ (cZ hk) _ (cZ hi))).2,aG,LJ,cN];rfl
   grind[DU]
  grind[DV]
def aUU:Table:=⟨⟨⟨⟨[],[]⟩,⟨[],[]⟩⟩,⟨0,[]⟩,[],[]⟩,[],[],[],[],0⟩
def RO(t:List aP):Table:=⟨aUR,List.replicate 2 ⟨0,0,0⟩,List.replicate 3 OS,t,[],0⟩
theorem aP4{t:List aP}(hl:t.length<=1048576)(hq:∀q∈t,q.List.length<=1048576)(hb:∀q∈t,∀b∈q.List,b.bI.length<=1048576):GD t=some (if aEK t then RO t else aUU)/\GQ t=some (if aEK t then RO t else aUU):=by
 unfold GD GQ;rw[aSP hl hb,aSR hl hq hb];simp only[aG];by_cases h:aEK t
 ·simp only[cD h,g8,bO,bM,aL h,aIK.1,aIK.2,aG,(aP3 hl hq hb).1,(aP3 hl hq hb).2];rw[LU,LU];exact⟨rfl,rfl⟩
 ·simp only[dR h,HX,bP,aN h];exact⟨rfl,rfl⟩
theorem aWJ{t:List aP}(h:aEK t):TV (RO t):=
 ⟨a0Y,⟨rfl,λx hx=>by simp[RO] at hx;subst hx;exact⟨.inl rfl,ae,ae⟩⟩,⟨rfl,λj hj=>by grind[RO]⟩,h,by show(0:Int)<=0/\(0:Int)<=1000000;omega⟩
def a1C(t:Table)(p:Int):Table:=if 0<=p/\p<=2 then wS t p else t
theorem S1{P:TR->Prop}{c:Prop}[Decidable c]{a b:TR}(h1:c->P a)(h2:¬c->P b):P (if c then a else b):=aj
theorem a39(b:aA)(k:List cM)(w:Int)(j:aE):(doF b k w j).l.length<=1:=by unfold doF;refine S1 (P:=λr=>r.l.length<=1) (λ_=>jT _) λ_=>S1 (P:=λr=>r.l.length<=1) (λ_=>jT _) λ_=>S1 (P:=λr=>r.l.length<=1) (λ_=>jT _) λ_=>S1 (P:=λr=>r.l.length<=1) (λ_=>jT _) λ_=>S1 (P:=λr=>r.l.length<=1) (λ_=>?_) λ_=>S1 (P:=λr=>r.l.length<=1) (λ_=>jT _) λ_=>S1 (P:=λr=>r.l.length<=1) (λ_=>jT _) λ_=>S1 (P:=λr=>r.l.length<=1) (λ_=>jT _) λ_=>S1 (P:=λr=>r.l.length<=1) (λ_=>jT _) λ_=>S1 (P:=λr=>r.l.length<=1) (λ_=>jT _) λ_=>S1 (P:=λr=>r.l.length<=1) (λ_=>jT _) λ_=>S1 (P:=λr=>r.l.length<=1) (λ_=>kH _) λ_=>jT _;grind
theorem aWK(t:Table)(p:Int):(a1C t p).Log.length<=t.Log.length+1:=by
 unfold a1C wS;split
 ·split
  ·have:=a39 t.aA t.aT p (fH t p);show(t.Log++_).length<=_;grind
  ·split
   ·omega
   ·show(t.Log++_).length<=_;simp
 ·omega
def aIV:List Int->Int->List Int
 |[],x=>[x]
 |a::t,x=>if a=x then a::t else if x<a then x::a::t else a::aIV t x
theorem aP5{x:Int}:∀{l:List Int},l.Pairwise (· < ·)->x∈l->aIV l x=l
 |[],_,h=>by cases h
 |a::t,hp,h=>by
  have h':=aS2.1 hp;unfold aIV;split
  ·rfl
  ·rename_i ne;have ht:x∈t:=aj
   have:=h'.1 x ht;rw[m9,aP5 h'.2 ht]
section
variable {l:List Int} (hl:l.length<=1000) {x:Int}
include hl
theorem aP6:∀d k:Nat,k+d=l.length->(∀y∈l.drop k,y≠x)->∀out:List Int,out.length<=100000+k->loop (iZ l x) (out,true,(k:Int))=some (Out.brk (out++l.drop k,true))
 |0,k,hk,_,out,_=>by simp_all[bH,iZ]
 |d + 1,k,hk,hy,out,ho=>by
  have hkl:k<l.length:=aa
  have hd:l.drop k=l[k]::l.drop (k+1):=BW hkl;have ne:(l[k] == x)=false:=aj
  rw[bK (s':=(out++[l[k]],true,((k+1:Nat):Int))) (by
   simp only[iZ,pZ,pY];rw[cH,aU hkl,aG,ne];simp only[bO,bM,g8,aG];grind[bZ,dA]),aP6 d (k+1) aa (λy h=>hy y aj) (out++[l[k]]) ah,hd,I3]
  rfl
theorem aP7:∀d k:Nat,k+d=l.length->(l.drop k).Pairwise (· < ·)->∀out:List Int,out.length<=50000+k->((loop (iZ l x) (out,false,(k:Int))).bind λo=>vR x o)=some (if x∈l.drop k then l else out++aIV (l.drop k) x)
 |0,k,hk,_,out,ho=>by rw[bH (r:=Out.brk (out,false)) (by simp_all[iZ]),aG];simp only[vR,KR,vQ];rw[List.drop_of_length_le aa,aL ae,LJ,dY];rfl
 |d + 1,k,hk,hp,out,ho=>by
  have hkl:k<l.length:=aa
  have hd:l.drop k=l[k]::l.drop (k+1):=BW hkl;have hp':=hp;rw[hd] at hp';obtain⟨h1,h2⟩:=aS2.1 hp';by_cases e:l[k]=x
  ·simp_all[bH,iZ,aU,vR]
  have ne:(l[k] == x)=false:=aj
  by_cases g:x<l[k]
  ·have hx:∀y∈l.drop (k+1),y≠x:=λy hy=>aj
   rw[bK (s':=(out++[x]++[l[k]],true,((k+1:Nat):Int))) (by
    simp only[iZ,pZ,pY];rw[cH,aU hkl,aG,ne,cD g];simp only[bO,bM,HX,bP,aG];grind[bZ,dA]),aP6 hl d (k+1) aa hx _ ah,aG]
   simp only[vR,KR,vQ,g8,bO,bM];rw[aN aj,hd];unfold aIV;grind
  ·rw[bK (s':=(out++[l[k]],false,((k+1:Nat):Int))) (by
    simp only[iZ,pZ,pY];rw[cH,aU hkl,aG,ne,dR g];simp only[bO,bM,HX,bP,aG];grind[bZ,dA]),aP7 d (k+1) aa h2 (out++[l[k]]) ah,hd]
   have eI:aIV (l[k]::l.drop (k+1)) x=l[k]::aIV (l.drop (k+1)) x:=by
    conv=>lhs;unfold aIV
    grind
   grind
theorem put_eq(hp:l.Pairwise (· < ·)):MR l x=some (aIV l x):=by have:=aP7 hl (x:=x) l.length 0 aa aj [] ae;simp_all[MR,aP5]
end
theorem aLY{ρ:Type}{f:Int->Option (Step Int ρ)}(l:List O)(p:O->Bool)(g:O->ρ)(no:ρ)(h1:∀k (h:k<l.length),p l[k]=false->f (k:Int)=some (.next ((k+1:Nat):Int)))(h2:∀k (h:k<l.length),p l[k]=true->f (k:Int)=some (.stop (g l[k])))(h3:f (l.length:Int)=some (.stop no)) :
    loop f 0=some (match l.find? p with|some x=>g x|none=>no):=by
  have key:∀d k:Nat,k+d=l.length->loop f (k:Int)=some (match (l.drop k).find? p with|some x=>g x|none=>no):=by
    intro d;induction d with
    | zero => intro k hk; obtain rfl : k = l.length := by omega
              rw[bH h3,List.drop_length];rfl
    |succ d ih=>
      intro k hk;have hkl:k<l.length:=aa
      rw[BW hkl];cases hp:p l[k]
      · rw[bK (h1 k hkl hp),ih (k+1) aa,List.find?_cons_of_neg (by simp[hp])]
      · rw[bH (h2 k hkl hp),List.find?_cons_of_pos hp]
  exact key l.length 0 aa
theorem aP8(hl:l.length<=1000)(k:Int):JG l k=some (WH l k):=by
 have key:=aLY (f:=sS l k) l (λy=>y.Key == k) (λx=>(Out.ret (x,true):Out Unit (aQ×Bool))) (Out.brk ()) (λi h hp=>by
  simp only[sS];rw[cH,aU h,aG,hp,dY,cN];rfl) (λi h hp=>by
  simp only[sS];rw[cH,aU h,aG,aL hp,aG]) (by simp[sS])
 unfold JG WH;rw[key];cases l.find? (λy=>y.Key == k)<;>rfl
theorem aP9{l:List Seen}(hl:l.length<=1000)(b v:Int):JI l b v=some (CJ l b v):=by
 have key:=aLY (f:=sU l b v) l (λy=>y.cM == b) (λx=>(Out.ret (l,x.fF == v):Out Unit (List Seen×Bool))) (Out.brk ()) (λi h hp=>by
  simp only[sU];rw[cH,aU h,aG,hp,dY,cN];rfl) (λi h hp=>by
  simp only[sU];rw[cH,aU h,aG,aL hp,aG];rfl) (by simp[sU])
 unfold JI CJ;rw[LJ,key];cases l.find? (λy=>y.cM == b)
 ·simp only[aG,R3,R1,aKU];rw[LJ]
 ·rfl
theorem aWL(hl:l.length<=1000)(x:aQ):∀d k:Nat,k+d=l.length->∀(out:List aQ) (b:Bool),out.length+(if b then 0 else 1)<=k+1 ->
  (loop (lX l x) (out,b,(k:Int))).bind (xK x)=some (out++if b then(l.drop k).filter (λy=>!(y.Key == x.Key)) else((l.drop k).filter λy=>!(y.Key == x.Key)).takeWhile (λy=>!decide (x.Key<y.Key))++[x]++((l.drop k).filter λy=>!(y.Key == x.Key)).dropWhile (λy=>!decide (x.Key<y.Key))):=by
 intro d;induction d with
 |zero=>
  intro k hk out b ho;obtain rfl:k=l.length:=aa
  rw[bH (show lX l x (out,b,(l.length:Int))=some (.stop (out,b)) by simp[lX]),List.drop_length];cases b
  ·simp only[aG,xK,FP,pX,HX,bP];rw[LJ];simp
  ·simp[xK,FP,pX]
 |succ d ih=>
  intro k hk out b ho;have hkl:k<l.length:=aa
  have ho':out.length<=k+1:=aa
  have hn:bC ((k:Int)+1)=((k+1:Nat):Int):=cN;rw[BW hkl];generalize hy:l[k]=y;have step:lX l x (out,b,(k:Int))=some (.next (if y.Key=x.Key then(out,b,((k+1:Nat):Int)) else if b then(out++[y],true,((k+1:Nat):Int)) else if x.Key<y.Key then(out++[x]++[y],true,((k+1:Nat):Int)) else(out++[y],false,((k+1:Nat):Int)))):=by
   simp only[lX,xH,xI,xJ];rw[cH,aU hkl];simp only[aG,hy,hn];by_cases e:y.Key=x.Key
   ·simp[e]
   ·rw[aN (by simpa using e),aN e];cases b
    ·simp only[HX,bP,bO,bM];by_cases lt:x.Key<y.Key
     ·rw[aL (by simpa using lt),LJ,LJ,aL lt]
     ·rw[aN (by simpa using lt),LJ,aN lt]
    ·simp only[g8,bO,bM,bP];rw[LJ]
  rw[bK step];by_cases e:y.Key=x.Key
  ·rw[aL e,ih (k+1) aa _ _ aj,List.filter_cons_of_neg (by simp[e])]
  ·rw[aN e,List.filter_cons_of_pos (by simpa using e)];cases b
   ·by_cases lt:x.Key<y.Key
    ·rw[dY,aL lt,ih (k+1) aa _ _ aj];simp[List.takeWhile_cons,List.dropWhile_cons,lt]
    ·rw[dY,aN lt,ih (k+1) aa _ _ aj];simp[List.takeWhile_cons,List.dropWhile_cons,lt]
   ·rw[aL rfl,ih (k+1) aa _ _ aj];simp
theorem aNY(hl:l.length<=1000)(x:aQ):GK l x=some (XE l x):=by unfold GK XE;rw[show(([]:List aQ),false,(0:Int))=(([]:List aQ),false,((0:Nat):Int)) from rfl,aWL hl x l.length 0 aa [] false ae];simp
theorem V5(k:Int):BE k=some (y9 k):=by unfold BE y9;rw[cW,aG];grind
theorem a7P(a b:Bool)(c:Int)(hc:c=0\/c=1):aIV ((if a then [0] else [])++(if b then [1] else [])) c=(if a || c == 0 then [0] else [])++(if b || c == 1 then [1] else []):=by rcases hc with rfl|rfl<;>cases a<;>cases b<;>rfl
theorem aQA(hl:l.length<=12)(hk:∀x∈l,0<=x.Key/\x.Key<=99):JL l=some (pE l):=by
 have key:loop (sW l) (([]:List Int),0)=some (pE l):=by
  have:=iG (f:=sW l) l.length (λk=>(pE (l.take k),(k:Int))) (pE l) (λk hkl=>by
   have ky:=hk l[k] (cZ hkl);have hs:(pE (l.take k)).Pairwise (· < ·):=by unfold pE;split<;>split<;>simp
   have hln:=aNJ (l.take k);have e:pE (l.take (k+1))=aIV (pE (l.take k)) (l[k].Key % 2):=by unfold pE;rw[a7P _ _ _ aa,TS hkl,List.any_append,List.any_append];simp only[List.any_cons,List.any_nil,Bool.or_false]
   simp only[sW,AI];rw[cH,aU hkl,aG,V5,aG,show y9 l[k].Key=l[k].Key % 2 by grind[y9],cH,aG,V5,aG,show y9 l[k].Key=l[k].Key % 2 by grind[y9],put_eq aa hs,aG,e,cN];rfl) (by
   simp[sW])
  exact this
 unfold JL;rw[key];rfl
theorem aIW(hm:nQ m)(x:Int):∃a c,xL m x=some (a,c)/\(if lH x/\0<=bW m.Heap (x % 32)/\10<=jU (bW m.Heap (x % 32)) then a=(FZ m.Heap (x % 32):Int)/\c=0 else c≠0):=by
 have hs:=hm.1.1.1;unfold xL;rw[fY,aG];by_cases hh:lH x
 ·rw[cD hh,dY,eE,aL hh,aG,kX hs,aG];unfold AF;by_cases hc:bW m.Heap (x % 32)<0
  ·rw[cD hc,aL rfl];exact⟨_,_,rfl,by rw[m9];decide⟩
  ·rw[dR hc,dY,eE,aL hh,aG,kX hs,aG,LK,aG];by_cases h10:10<=jU (bW m.Heap (x % 32))
   ·rw[pH,aG,(start_eq hs aa).1,aG];refine⟨_,_,rfl,?_⟩;rw[aL ⟨hh,aa,h10⟩];have:=(E5 (h:=m.Heap) (s:=x % 32) aa);grind[FZ]
   ·rw[cH];exact⟨_,_,rfl,by rw[m9];decide⟩
 ·rw[dR hh,aL ak];exact⟨_,_,rfl,by rw[aN (λq=>hh q.1)];decide⟩
theorem aUV(hm:nQ m)(x:Int):HE m x=some (OQ m.Heap x):=by
 have hs:=hm.1.1.1;obtain⟨a,c,e,h⟩:=aIW hm x;unfold HE OQ;rw[e,aG];by_cases q:lH x/\0<=bW m.Heap (x % 32)/\10<=jU (bW m.Heap (x % 32))
 ·rw[aL q] at h;obtain⟨rfl,rfl⟩:=h;have hr:=(RL q.2.1 q.2.2).1;have h1:=hs.1;rw[dY,aL q];unfold QG a32;rw[show(2:Int)=((2:Nat):Int) from rfl,show(4:Int)=((4:Nat):Int) from rfl,wO hs.2.2.1 aa aa aa,aG,
   cN,show(FZ m.Heap (x % 32):Int)+((2:Nat):Int)=((FZ m.Heap (x % 32)+2:Nat):Int) by omega,wO hs.2.2.1 aa aa aa,aG,
   cN,show(FZ m.Heap (x % 32):Int)+6=((FZ m.Heap (x % 32)+6:Nat):Int) by omega,wO hs.2.2.1 aa aa aa];rfl
 ·rw[aN q] at h;rw[aL (by simpa using h),aN q];rfl
theorem a4A{b:List Int}{a:Nat}(h:a+2<=b.length)(hl:b.length<=100000)(hn:0<=n/\n<=65535):gW b (a:Int) 2 n=some (kD b a (XI n)):=by
 have st:∀(c:List Int) (m:Int) (i:Nat),c.length=b.length->0<=m->m<=4294967295->i<2->kP (a:Int) (c,m,(i:Int))=some (.next (c.set (a+i) (m % 256),m/256,(i:Int)-1)):=λc m i hc h0 h1 hi=>by simp only[kP];rw[aL ae,cN (x:=(a:Int)+i),show(a:Int)+i=((a+i:Nat):Int) by omega,IL,aG,E3 h0,aHS h0,cN (x:=m/256),cN (x:=(i:Int)-1),BC]
 unfold gW;rw[show bC (2-1)=((1:Nat):Int) from by grind[dA],bK (st b n 1 rfl hn.1 aa aa),show((1:Nat):Int)-1=((0:Nat):Int) by rfl,
  bK (st _ _ 0 ae aa aa aa),bH (r:=kD b a (XI n))]
 ·rfl
 ·simp only[kP];rw[dY];simp only[XI,kD,OL (show 0<=n/256 by omega),OL hn.1];rw[List.set_comm _ _ aa];rfl
theorem aNZ{b:List Int}{a:Nat}(h:a+4<=b.length)(hl:b.length<=100000)(hn:0<=n/\n<=4294967295):gW b (a:Int) 4 n=some (kD b a (CK n)):=by
 rw[aLN h hl hn];have e:n/16777216 % 256=n/16777216:=aa
 simp only[MA,CK,kD,OL (show 0<=n/16777216 by omega),OL (show 0<=n/65536 by omega),OL (show 0<=n/256 by omega),OL hn.1,e]
theorem aBU:∀(s t:List UInt8) (b:List Int) (a:Nat),kD b a (s++t)=kD (kD b a s) (a+s.length) t
 |[],t,b,a=>rfl
 |c::s,t,b,a=>by show kD _ (a+1) (s++t)=kD (kD _ (a+1) s) _ t;rw[aBU s t];congr 1;simp;omega
theorem aSS(n:dW):MX n=some (decide (aNT n)):=by grind[MX,aNT,cW,aAD,vT]
theorem aQB(hm:nQ m)(x:Int)(n:dW):∃c,JR m x n=some (aII m x n,c):=by
 obtain⟨hcnt,h3,h9,h1,h2,hsm,hcp,hlo,hsG,hsO⟩:=nQ.facts hm;have hs:=hm.1.1.1;have hbl:m.Heap.Bytes.length<=maxLen:=by grind[maxLen]
 unfold JR aII;rw[VC hsm,aG,OH hbl aa,cD hm,aG,dY,aSS,aG];unfold AM;by_cases hn:aNT n
 ·rw[cD hn,dY,tP hs aa aa aa,aG];by_cases hl:mY m x
  ·obtain⟨a,c,e,h⟩:=aIW hm x;have hcl:=jI hl.2.1;rw[cD hl,dY,e,aG];by_cases h10:10<=jU (bW m.Heap (x % 32))
   ·rw[aL ⟨hl.1,hcl,h10⟩] at h;obtain⟨rfl,rfl⟩:=h;have hr:=(RL hcl h10).1;have hnx:=aAG hn.2.2;have hk1:=hn.1.2;have hv1:=hn.2.1.2;rw[dY,aL ⟨hn,hl,h10⟩];unfold T7;rw[a4A aa aa ⟨hn.1.1,aa⟩,aG,cN,show(FZ m.Heap (x % 32):Int)+2=((FZ m.Heap (x % 32)+2:Nat):Int) by omega,aNZ (by rw[wR];omega) (by rw[wR];omega) ⟨hn.2.1.1,aa⟩,aG,
     cN,show(FZ m.Heap (x % 32):Int)+6=((FZ m.Heap (x % 32)+6:Nat):Int) by omega,aNZ (by rw[wR,wR];omega) (by rw[wR,wR];omega) ⟨hnx.1,aa⟩,aG,aG]
    exact⟨0,by rw[a7J,aBU,aBU];rfl⟩
   ·rw[aN (λq=>h10 q.2.2)] at h;rw[aL (by simpa using h),aN (λq=>h10 q.2.2)];exact⟨_,rfl⟩
  ·rw[dR hl,aL ak,aN (λq=>hl q.2.1)];exact⟨_,rfl⟩
 ·rw[dR hn,aL ak,aN (λq=>hn q.1)];exact⟨_,rfl⟩
theorem aST(hm:nQ m)(x y:Int):∃c,MW m x y=some (Gv.aIJ m x y,c):=by
 obtain⟨hcnt,h3,h9,h1,h2,hsm,hcp,hlo,hsG,hsO⟩:=nQ.facts hm;have hs:=hm.1.1.1;have hbl:m.Heap.Bytes.length<=maxLen:=by grind[maxLen]
 unfold MW Gv.aIJ;rw[VC hsm,aG,OH hbl aa,cD hm,aG,dY,aAD,aG];unfold DF;by_cases hn:qW y
 ·rw[cD hn,dY,tP hs aa aa aa,aG];by_cases hl:mY m x
  ·obtain⟨a,c,e,h⟩:=aIW hm x;have hcl:=jI hl.2.1;rw[cD hl,dY,e,aG];by_cases h10:10<=jU (bW m.Heap (x % 32))
   ·rw[aL ⟨hl.1,hcl,h10⟩] at h;obtain⟨rfl,rfl⟩:=h;have hr:=(RL hcl h10).1;have hnx:=aAG hn;rw[dY,aL ⟨hn,hl,h10⟩,cN,show(FZ m.Heap (x % 32):Int)+6=((FZ m.Heap (x % 32)+6:Nat):Int) by omega,aNZ aa aa ⟨hnx.1,aa⟩];exact⟨_,rfl⟩
   ·rw[aN (λq=>h10 q.2.2)] at h;rw[aL (by simpa using h),aN (λq=>h10 q.2.2)];exact⟨_,rfl⟩
  ·rw[dR hl,aL ak,aN (λq=>hl q.2.1)];exact⟨_,rfl⟩
 ·rw[dR hn,aL ak,aN (λq=>hn q.1)];exact⟨_,rfl⟩
theorem aQC(hm:nQ m){w:Int}(hw:0<=w/\w<=2)(x:Int):∃c,JS m w x=some (aPV m w x,c):=by
 obtain⟨hcnt,h3,h9,h1,h2,hsm,hcp,hlo,hsG,hsO⟩:=nQ.facts hm;have hbl:m.Heap.Bytes.length<=maxLen:=by grind[maxLen]
 unfold JS aPV;rw[VC hsm,aG,OH hbl aa,cD hm,aG,dY,cW,cD hw,aG];unfold AO;rw[dY,tP hm.1.1.1 aa aa aa,aG];by_cases hl:mY m x
 ·rw[cD hl,dY,eE,aL hl.1,aG,aAB hm hw hl,aL hl];exact⟨_,rfl⟩
 ·rw[dR hl,aL ak,aN hl];exact⟨_,rfl⟩
theorem aAH(n:dW):oA n=some (OR n):=by unfold oA OR;rw[fY,aG];grind
theorem aQD(hl:l.length<=1000)(hn:0<=n):O7 l n=some (jV l n):=by
 have le:∀k:Nat,0<=jV l k/\jV l k<=k:=λk=>by have:=List.length_filter_le (λx:aQ=>!x.F8) (l.take k);have:=List.length_take_le k l;unfold jV;rw[BC];omega
 have key:loop (DD l n) (0,0)=some (jV l n):=by
  have:=iG (f:=DD l n) (min l.length n.toNat) (λk=>(jV l k,(k:Int))) (jV l n) (λk hk=>by
   have hle:=le k;have hkl:k<l.length:=aa
   have e:jV l ((k+1:Nat):Int)=jV l k+if l[k].F8 then 0 else 1:=by unfold jV;rw[BC,BC,TS hkl,List.filter_append];cases h:l[k].F8<;>simp[h]
   simp only[DD,DC,JK];rw[cH,cD aa,aL rfl,aU hkl,aG,e,cN (x:=(k:Int)+1),cN (x:=jV l k+1)];grind) (by
   simp only[DD,DC];by_cases g:l.length<=n.toNat
   ·rw[Nat.min_eq_left g,dY,dY];unfold jV;rw[BC,YD (kH _),YD g]
   ·rw[Nat.min_eq_right aa,cH,dR aa,dY];unfold jV;rw[BC])
  exact this
 unfold O7;rw[key];rfl
theorem a4B{a b:Int}(ha:0<=a/\a<=4294967295)(hb:0<=b/\b<=65535):MQ a b=some (X7 a b):=by unfold MQ X7;rw[E3 ha.1,E3 hb.1,cN (x:=a+b),cN (x:=a % 65536+b % 65536),cN,E3 aa,E3 aa];congr 1;omega
theorem aLZ(hw:j.aH.length<=1000)(x:aQ):zI j x=some (CQ j x).2:=by
 unfold zI CQ;rw[aNY hw,aG];by_cases h:6<(XE j.aH x).length
 ·rw[cH,aL h];rfl
 ·rw[pH,aN h]
theorem aUW(hp:j.Pc≠16)(x:aQ):((CQ j x).2.Pc == 16)=!(CQ j x).1:=by
 unfold CQ;split
 ·rfl
 ·simpa using hp
def a1D(j:aE):Prop:=j.aH.length<=1000/\j.cV.length<=1000/\(0<=j.At/\j.At<=1000)/\j.Batch.bI.length<=1000/\(∀c∈j.Batch.bI,0<=c.fE/\c.fE<=65535)/\j.Pc≠16
theorem aN0(h:a1D j)(hc:IS j):idx j.Batch.bI j.At=some (dU j)/\0<=(dU j).fE/\(dU j).fE<=65535:=by
 have h1:j.At<j.Batch.bI.length:=hc;have h2:=h.2.2.1;have e:dU j=j.Batch.bI[j.At.toNat]' aa:=by grind[dU]
 rw[fQ h2.1 h1,e];exact⟨rfl,h.2.2.2.2.1 _ (cZ _)⟩
theorem aIX(h:a1D j)(hc:IS j){v:Int}(hv:0<=v/\v<=4294967295)(is:Bool):vP j is v=some (aKO j (dU j) v is):=by
 obtain⟨e,hcv⟩:=aN0 h hc;obtain⟨s1,s2,s3,s4,s5,s6⟩:=h;have key:∀u,(0<=u/\u<=4294967295)->nZ j is (dU j) u=some (if(dU j).Kind=4 then aWD j (dU j) u else aEJ j is u):=λu hu=>by
  unfold nZ;by_cases hk:(dU j).Kind=4
  ·rw[aL (by simpa using hk),aL hk,a4B hu hcv,aG,aLZ s1,aG,aUW s6];obtain⟨e1,e2⟩:=P1 j ⟨(dU j).Key,false,X7 u (dU j).fE⟩;unfold aWD;cases h:(CQ j ⟨(dU j).Key,false,X7 u (dU j).fE⟩).1
   ·simp
   ·rw[dY,aL rfl];unfold nY aEJ;rw[bZ (by rw[e1];simp;omega),cN]
  ·rw[aN (by simpa using hk),aN hk];unfold nY aEJ;rw[LJ,cN]
 unfold vP aKO;rw[e,aG];cases is
 ·rw[aL ak,key 0 aa];rfl
 ·rw[dY,key v hv];rfl
theorem a4C(h:∀x∈l,0<=x.fE/\x.fE<=65535)(k:Int):0<=(WH l k).1.fE/\(WH l k).1.fE<=65535:=by
 unfold WH;cases e:l.find? (λy=>y.Key == k)
 ·exact⟨Int.le_refl _,ai⟩
 ·exact h _ (List.mem_of_find?_eq_some e)
theorem aQE(h:a1D j)(hwv:∀x∈j.aH,0<=x.fE/\x.fE<=65535):AE j=some (aSD j):=by
 have hh:=h;obtain⟨s1,s2,s3,s4,s5,s6⟩:=h;unfold AE aSD;by_cases hc:IS j
 ·have hc':j.At<j.Batch.bI.length:=hc;obtain⟨e,hcv⟩:=aN0 hh hc;rw[pH,aL hc,e,aG];have put:(dU j).Kind=2\/(dU j).Kind=3->jP j (dU j) true=some (if(CQ j ⟨(dU j).Key,(dU j).Kind == 3,(dU j).fE⟩).1 then {(CQ j ⟨(dU j).Key,(dU j).Kind == 3,(dU j).fE⟩).2 with At:=j.At+1,cV:=j.cV++[⟨false,0⟩]} else(CQ j ⟨(dU j).Key,(dU j).Kind == 3,(dU j).fE⟩).2):=λ_=>by
   unfold jP;rw[aL rfl,aLZ s1,aG,aUW s6];obtain⟨e1,e2⟩:=P1 j ⟨(dU j).Key,(dU j).Kind == 3,(dU j).fE⟩;cases (CQ j ⟨(dU j).Key,(dU j).Kind == 3,(dU j).fE⟩).1
   ·simp
   ·rw[dY,aL rfl,bZ (by rw[e1];simp;omega)];simp only[e1,e2];rw[cN]
  by_cases k2:(dU j).Kind=2
  ·have kk:(dU j).Kind=2\/(dU j).Kind=3:=.inl k2;rw[aL (by simpa using k2),put kk,aL kk]
  ·rw[aN (by simpa using k2)];by_cases k3:(dU j).Kind=3
   ·have kk:(dU j).Kind=2\/(dU j).Kind=3:=.inr k3;have e3:((dU j).Kind == 3)=true:=by simpa using k3
    rw[e3] at put ⊢;rw[put kk,aL kk]
   ·rw[show((dU j).Kind == 3)=false by simpa using k3,m9];unfold jP;rw[dY,aP8 s1,aG];have hv:=a4C hwv (dU j).Key;cases (WH j.aH (dU j).Key).2
    ·rw[dY,dY,V5];rfl
    ·rw[aL rfl,aL rfl,aIX hh hc aa];rfl
 ·have hc':¬j.At<j.Batch.bI.length:=hc;rw[cH,aN hc];rfl
section
variable {t:Table} {w:Int} {j:aE} (h2:t.aT.length=2) (hb:wP t.aA) (hw:0<=w/\w<=2) (hj:JB j)
include h2 hb hw hj
theorem P3:j.Batch.bI.length<=1000/\j.aH.length<=1000/\j.cV.length<=1000/\(0<=j.At/\j.At<=1000)/\j.Reads.length<=2:=
 P2 (t:={t with aM:=[j,j,j]}) (w:=0) rfl h2 hb aa hj
theorem a1E(hp:j.Pc≠16):a1D j:=by obtain⟨s1,s2,s3,s4,s5⟩:=P3 h2 hb hw hj;exact⟨s2,s3,s4,s1,λc hc=>(hj.bat.2.2.1 c hc).2.2.1,hp⟩
theorem a1F(hp:2<=j.Pc/\j.Pc<=5):JJ t w j=some (aIL t.aA t.aT w j):=by
 obtain⟨s1,s2,s3,s4,s5⟩:=P3 h2 hb hw hj;have hcs:=a1E h2 hb hw hj aa;have hcr:∀l,a1D {j with Reads:=l}:=λl=>hcs;unfold JJ aIL;rw[E6 h2 hj.bkt,aG,KL hb.1.2.1 hw,aG];by_cases p2:j.Pc=2
 ·rw[aL (by simpa using p2),aL p2];by_cases hl:(mX t.aT j.cM).gG=0
  ·rw[aN (by simpa using hl),aN (not_not_intro hl)];by_cases hh:(mX t.aT j.cM).Head=0
   ·rw[aL (by simpa using hh),aL hh];rfl
   ·rw[aN (by simpa using hh),aN hh];rfl
  ·rw[aL (by simpa using hl),aL hl];rfl
 ·rw[aN (by simpa using p2),aN p2];by_cases p3:j.Pc=3
  ·rw[aL (by simpa using p3),aL p3,aUV hb.1.1];rfl
  ·rw[aN (by simpa using p3),aN p3];by_cases p4:j.Pc=4
   ·rw[aL (by simpa using p4),aL p4];have off:nI j true=some (RM j 6):=rfl;have on:nI j false=some (if IS j then {j with Found:=j.Node.Key == (dU j).Key,H:=OR j.Node,Pc:=if j.Node.Key=(dU j).Key\/OR j.Node=0 then 5 else 3} else RM j 1):=by
     unfold nI;rw[dY];by_cases hc:IS j
     ·have hc':j.At<j.Batch.bI.length:=hc;rw[pH,(aN0 hcs hc).1,aG,aL hc];unfold H6 AG kR;rw[aAH,aG];by_cases hk:j.Node.Key=(dU j).Key
      ·simp[hk]
      ·have e:(j.Node.Key == (dU j).Key)=false:=by simpa using hk
       rw[e];by_cases hs:OR j.Node=0
       ·simp[hs]
       ·simp[hs,hk]
     ·have hc':¬j.At<j.Batch.bI.length:=hc;rw[cH,aN hc];rfl
    cases ho:(uY t.aA.aI w).On
    ·rw[aL ak,off];simp
    ·rw[dY];cases hm:(uY t.aA.aI w).g9
     ·rw[on];simp
     ·rw[off];simp
   ·rw[aN (by simpa using p4),aN p4];have bad:sV j true=some (RM j 7):=rfl;by_cases hl:(mX t.aT j.cM).gG=0
    ·rw[aN (by simpa using hl)];by_cases hv:(mX t.aT j.cM).fF=j.fF
     ·rw[show((mX t.aT j.cM).fF != j.fF)=false by simpa using hv,aN (by simp[hl,hv])];unfold sV;rw[dY,aP9 aa,aG];cases hs:(CJ j.Reads j.cM j.fF).2
      ·rw[aL ak,aL rfl];rfl
      ·rw[dY];by_cases hc:IS j
       ·have hc':j.At<j.Batch.bI.length:=hc;rw[pH,dY,aL hc,aIX (hcr (CJ j.Reads j.cM j.fF).1) hc hj.node];rfl
       ·have hc':¬j.At<j.Batch.bI.length:=hc;rw[cH,dY,aN hc];rfl
     ·rw[show((mX t.aT j.cM).fF != j.fF)=true by simpa using hv,bad,aL (.inr hv)]
    ·rw[aL (by simpa using hl),bad,aL (.inl hl)]
end
section
variable {t:Table} {w:Int} {j:aE} (h2:t.aT.length=2) (hb:wP t.aA) (hw:0<=w/\w<=2) (hj:JB j)
include h2 hb hw hj
def bT(t:Table)(p:aA×aE):Table×aE:=({t with aA:=p.1},p.2)
theorem aN1:B7 t w j=some ({t with aA:=(yP t.aA w j.Sub).1},{j with Sub:=(yP t.aA w j.Sub).2},(yP t.aA w j.Sub).2.jC):=by unfold B7;rw[aNR hb hw];rfl
theorem aWM:GJ t w j=some (bT t (aKQ t.aA w j)):=by
 unfold GJ aKQ bT;rw[aN1 h2 hb hw hj,aG];generalize yP t.aA w j.Sub=r;cases hd:r.2.jC
 ·simp[hd]
 ·simp only[hd,g8,bO,Bool.true_eq_false,bM];by_cases p0:j.Pc=0
  ·rw[aL (by simpa using p0),aL p0];rfl
  ·rw[aN (by simpa using p0),aN p0];by_cases p20:j.Pc=20
   ·rw[aL (by simpa using p20),aL p20];rfl
   ·rw[aN (by simpa using p20),aN p20];rfl
theorem aWN:GL t w j=some (bT t (aSE t.aA w j)):=by
 obtain⟨s1,s2,s3,s4,s5⟩:=P3 h2 hb hw hj;have hk:=hj.k;have hn:=hj.new.1;unfold GL aSE bT;rw[aQD s2 aa,aG];by_cases hp:jV j.aH j.aH.length<=j.K
 ·rw[aL (by simpa using hp),aL hp]
 ·rw[aN (by simpa using hp),aN hp,aN1 h2 hb hw hj,aG];generalize yP t.aA w j.Sub=r;cases hd:r.2.jC
  ·simp[hd]
  ·simp only[hd,g8,bO,Bool.true_eq_false,bM];have bad:∀x:Table,lY t true ⟨r.1,t.aT,t.aM,t.bL,t.Log,t.aK⟩ {j with Sub:=r.2}=some ({t with aA:=r.1},RM {j with Sub:=r.2} r.2.Code):=λ_=>rfl;by_cases hc:r.2.Code=0
   ·rw[aN (by simpa using hc),fY,aG];by_cases hh:lH r.2.Out
    ·rw[cD hh,dY];by_cases h6:6<=j.cT.length
     ·rw[show decide (6<=(j.cT.length:Int))=true by simp;omega,bad t,aL (.inr (.inr aa))]
     ·rw[show decide (6<=(j.cT.length:Int))=false by simp;omega,aN (by rintro(h|h|h);exact h hc;exact h hh;omega)];unfold lY;rw[dY,LJ,cN (x:=j.K+1)];rfl
    ·rw[dR hh,aL ak,bad t,aL (.inr (.inl hh))]
   ·rw[aL (by simpa using hc),bad t,aL (.inl hc)]
theorem aL0(hl:t.Log.length<=1000000)(k:List cM)(y:aE):zJ {t with aT:=k} w y=some ({t with aT:=k,Log:=t.Log++[⟨2,w,y.aK,0,[],[]⟩]},{y with Pc:=8,K:=0}):=by unfold zJ;rw[LJ]
def kT(t:Table)(w:Int)(s:Int)(p:List cM×aE×Bool):Table×aE:=({t with aT:=p.1,Log:=t.Log++if p.2.2 then [⟨2,w,s,0,[],[]⟩] else []},p.2.1)
theorem a1G(hl:t.Log.length<=1000000):JM t w j=some (kT t w j.aK (aNU t.aT w j)):=by
 obtain⟨s1,s2,s3,s4,s5⟩:=P3 h2 hb hw hj;have hk:=hj.k;have hwr:=hj.wr;have hln:=aNJ j.aH;unfold JM aNU kT;have hw6:=hwr.1;rw[aQA aa (λx hx=>(hwr.2.1 x hx).1),aG];by_cases hp:j.K<(pE j.aH).length
 ·have hki:j.K.toNat<(pE j.aH).length:=aa
  have e:fZ j=(pE j.aH)[j.K.toNat]:=by grind[fZ]
  have hb01:=aH5 (cZ hki);rw[<-e] at hb01;rw[pH,aL hp,fQ hk.1 hp,aG,<-e,E6 h2 aa,aG];by_cases hlk:(mX t.aT (fZ j)).gG=0
  ·rw[aN (by simpa using hlk)];have key:loop (nJ t j (fZ j)) 0=some (if ∀s∈j.Reads,¬((s.cM == fZ j && s.fF != (mX t.aT (fZ j)).fF)=true) then Out.brk () else Out.ret (t,RM j 7)):=by
    refine l7 (f:=nJ t j (fZ j)) j.Reads (λk=>(k:Int)) (λs=>¬((s.cM == fZ j && s.fF != (mX t.aT (fZ j)).fF)=true)) _ _ (λk h hp=>?_) (λk h hp=>?_) ?_
    ·simp only[nJ,sZ];rw[cH,aU h,aG,E6 h2 aa,aG,cN];cases hx:j.Reads[k].cM == fZ j
     ·simp
     ·have hv:(j.Reads[k].fF != (mX t.aT (fZ j)).fF)=false:=by
       cases q:(j.Reads[k].fF != (mX t.aT (fZ j)).fF)
       ·rfl
       ·exact absurd (by simp[hx,q]) hp
      simp[hv]
    ·simp only[nJ,sZ];have hp:=Classical.not_not.1 hp;rw[CL] at hp;rw[cH,aU h,aG,aL hp.1,E6 h2 aa,aG,aL hp.2];rfl
    ·simp[nJ]
   rw[key];by_cases ha:(j.Reads.any λs=>s.cM == fZ j && s.fF != (mX t.aT (fZ j)).fF)=true
   ·rw[aN (λq=>by obtain⟨s,hs,h⟩:=List.any_eq_true.1 ha;exact q s hs h),aL (.inr ha)];simp[H7]
   ·rw[aL (λs hs h=>ha (List.any_eq_true.2 ⟨s,hs,h⟩)),aN (by rintro(h|h);exact h hlk;exact ha h)];simp only[aG,H7];unfold R4;rw[E6 h2 aa,aG];by_cases hv:(mX t.aT (fZ j)).fF=1000000
    ·rw[aL (by simpa using hv),aL hv];simp[eU,RM]
    ·have hhl:j.bA.length<=2:=by
      have hd:=hj.held
      match h:j.bA,hd with
      |[],_=>simp
      |[_],_=>simp
      |[_,_],_=>simp
      |x::y::z::r,⟨hm,hn⟩=>(simp_all;omega)
     rw[aN (by simpa using hv),aN hv,OF (pG hhl ai),aG];have fin:∀hd:List Int,sY t w j (pE j.aH) (fZ j) (mX t.aT (fZ j)) hd=some (if(pE j.aH).length<=j.K+1 then({t with aT:=t.aT.set (fZ j).toNat {mX t.aT (fZ j) with gG:=w+1},Log:=t.Log++[⟨2,w,j.aK,0,[],[]⟩]},{j with bA:=hd,Pc:=8,K:=0}) else({t with aT:=t.aT.set (fZ j).toNat {mX t.aT (fZ j) with gG:=w+1}},{j with bA:=hd,K:=j.K+1})):=λhd=>by
      unfold sY;rw[cN (x:=j.K+1),cN (x:=w+1)];by_cases hq:(pE j.aH).length<=j.K+1
      ·rw[cH,aL0 h2 hb hw hj hl,aL hq];rfl
      ·rw[pH,aN hq]
     by_cases hm:fZ j∈j.bA
     ·rw[cD hm,dY,fin];by_cases hq:(pE j.aH).length<=j.K+1
      ·rw[aL hq,aL hq];simp[aBS,hm]
      ·rw[aN hq,aN hq];simp[aBS,hm]
     ·rw[dR hm,aL ak,LJ,fin];by_cases hq:(pE j.aH).length<=j.K+1
      ·rw[aL hq,aL hq];simp[aBS,hm]
      ·rw[aN hq,aN hq];simp[aBS,hm]
  ·rw[aL (by simpa using hlk),aL (.inl hlk)];simp[eU,RM]
 ·rw[cH,aN hp,aL0 h2 hb hw hj hl t.aT j];rfl
theorem aWO:GM t w j=some (aWE t.aT w j):=by
 have hk:=hj.k;unfold GM aWE;by_cases hp:(j.Reads.length:Int)<=j.K
 ·rw[aL (by simpa using hp),aL hp]
 ·have hki:j.K.toNat<j.Reads.length:=aa
  have e:rdN j=j.Reads[j.K.toNat]:=by grind[rdN]
  have hbk:=hj.reads.1 _ (cZ hki);rw[<-e] at hbk;rw[aN (by simpa using hp),aN hp,fQ hk.1 aa,aG,<-e,E6 h2 hbk,aG,cN (x:=w+1)];have bad:jQ j true=some (RM j 7):=rfl;have good:∀v u:Int,jQ j (v != u)=some (if v≠u then RM j 7 else {j with K:=j.K+1}):=λv u=>by
   by_cases q:v=u
   ·rw[show(v != u)=false by simpa using q,aN (by simpa using q)];unfold jQ;rw[dY,cN]
   ·rw[show(v != u)=true by simpa using q,aL q];rfl
  generalize mX t.aT (rdN j).cM=b;by_cases hl:b.gG=0
  ·rw[aN (by simpa using hl),good];by_cases q:b.fF=(rdN j).fF<;>simp[q,hl]
  ·rw[aL (by simpa using hl)];by_cases hl2:b.gG=w+1
   ·rw[aN (by simpa using hl2),good];by_cases q:b.fF=(rdN j).fF<;>simp[q,hl2]
   ·rw[aL (by simpa using hl2),bad,aL (.inl ⟨hl,hl2⟩)]
end
section
variable {t:Table} {w:Int} {j:aE} (h2:t.aT.length=2) (hb:wP t.aA) (hw:0<=w/\w<=2) (hj:JB j)
include h2 hb hw hj
def wT(t:Table)(p:aA×List cM×aE):Table×aE:=({t with aA:=p.1,aT:=p.2.1},p.2.2)
def uT(t:Table)(p:List cM×aE):Table×aE:=({t with aT:=p.1},p.2)
omit h2 hb hw hj in
theorem aWP{y:aE}{x:aQ}(e:idx y.aH y.K=some x)(hk:0<=y.K/\y.K<=100):oX y=some (plF y x):=by
 unfold oX plF;rw[e,aG];cases x.F8
 ·rfl
 ·rw[aL rfl,aL rfl,cN]
theorem aQF(hp:9<=j.Pc/\j.Pc<=13):AN t j=some (wT t (aIO t.aA t.aT j)):=by
 obtain⟨s1,s2,s3,s4,s5⟩:=P3 h2 hb hw hj;have hk:=hj.k;have ho:=hj.old.1;have hn:=hj.new.1;unfold AN aIO wT;by_cases hq:(j.aH.length:Int)<=j.K
 ·rw[aL (by simpa using hq),aL hq]
 ·have hki:j.K.toNat<j.aH.length:=aa
  have e:X9 j=j.aH[j.K.toNat]:=by grind[X9]
  have hx:=hj.wr.2.1 _ (cZ hki);rw[<-e] at hx;have ei:idx j.aH j.K=some (X9 j):=by rw[fQ hk.1 aa,e]
  have hbi:y9 (X9 j).Key=0\/y9 (X9 j).Key=1:=by grind[y9]
  rw[aN (by simpa using hq),aN hq,ei,aG,V5,aG];generalize hxx:X9 j=x at *;generalize hbb:y9 x.Key=bi at *;have ib:idx t.aT bi=some (mX t.aT bi):=E6 h2 aa;have pl:∀y:aE,y.aH=j.aH->y.K=j.K->oX y=some (plF y x):=λy h1 h2=>aWP (by rw[h1,h2];exact ei) aa;by_cases p9:j.Pc=9
  ·rw[aL (by simpa using p9),aL p9,ib,aG];by_cases hh:(mX t.aT bi).Head=0
   ·rw[aL (by simpa using hh),pl {j with H:=(mX t.aT bi).Head,gO:=0} rfl rfl,aL hh];rfl
   ·rw[aN (by simpa using hh),aN hh];rfl
  ·rw[aN (by simpa using p9),aN p9];by_cases p10:j.Pc=10
   ·rw[aL (by simpa using p10),aL p10,aUV hb.1.1,aG];by_cases hky:(OQ t.aA.Mem.Heap j.H).Key=x.Key
    ·rw[aL (by simpa using hky),aL hky];rfl
    ·rw[aN (by simpa using hky),aN hky,aAH,aG];by_cases hs:OR (OQ t.aA.Mem.Heap j.H)=0
     ·rw[aL (by simpa using hs),aL hs,pl {j with Node:=OQ t.aA.Mem.Heap j.H} rfl rfl];rfl
     ·rw[aN (by simpa using hs),aN hs];rfl
   ·rw[aN (by simpa using p10),aN p10];by_cases p11:j.Pc=11
    ·rw[aL (by simpa using p11),aL p11];have last:∀v:Table,v.aM=t.aM->v.bL=t.bL->mG t j v=some (v,plF (aIN j) x):=λv h1 h2=>by
      obtain⟨b,k,js,td,l,s⟩:=v;simp only at h1 h2;subst h1 h2;have l3:∀l1:List Int,mF t j ⟨b,k,t.aM,t.bL,l,s⟩ l1=some (⟨b,k,t.aM,t.bL,l,s⟩,plF {j with bG:=l1} x):=λl1=>by unfold mF;rw[pl {j with bG:=l1} rfl rfl];rfl
      unfold mG rT aIN;by_cases h6:j.bG.length<6
      ·rw[cH,fY,aG];by_cases hh:lH j.H
       ·rw[cD hh,aL rfl,LJ,aL ⟨hh,h6⟩];exact l3 _
       ·rw[dR hh,dY,aN (λq=>hh q.1)];exact l3 _
      ·rw[pH,dY,aN (λq=>h6 q.2)];exact l3 _
     by_cases hpv:j.gO=0
     ·rw[aL (by simpa using hpv),aL hpv,aAH,aG,ib,aG];exact last {t with aT:=t.aT.set bi.toNat {mX t.aT bi with Head:=OR j.Node}} rfl rfl
     ·rw[aN (by simpa using hpv),aN hpv,aAH,aG];obtain⟨c,e⟩:=aST hb.1.1 j.gO (OR j.Node);rw[e,aG];unfold BF;exact last {t with aA:=⟨_,t.aA.aI,t.aA.a8,t.aA.kZ⟩} rfl rfl
    ·rw[aN (by simpa using p11),aN p11,aQD s2 hk.1,aG];have hpn:0<=jV j.aH j.K:=by grind[jV]
     by_cases hnl:(j.cT.length:Int)<=jV j.aH j.K
     ·rw[aL (by simpa using hnl),aL hnl];rfl
     ·have hi2:(jV j.aH j.K).toNat<j.cT.length:=aa
      have en:aIM j=j.cT[(jV j.aH j.K).toNat]:=by grind[aIM]
      rw[aN (by simpa using hnl),aN hnl,fQ hpn aa,<-en];by_cases p12:j.Pc=12
      ·rw[aL (by simpa using p12),aL p12,aG,ib,aG];obtain⟨c,e⟩:=aQB hb.1.1 (aIM j) ⟨x.Key,x.fE,(mX t.aT bi).Head⟩;rw[e];rfl
      ·rw[aN (by simpa using p12),aN p12,aG,ib,aG,cN];rfl
theorem a7Q:j.bA.length<=2:=by
 have hd:=hj.held
 match h:j.bA,hd with
 |[],_=>simp
 |[_],_=>simp
 |[_,_],_=>simp
 |x::y::z::r,⟨hm,hn⟩=>(simp_all;omega)
theorem aSU(hk1:∀x∈t.aT,BkV x):DH t j=some (uT t (aKP t.aT j)):=by
 have hd:=hj.held;have hhl:=a7Q h2 hb hw hj;unfold DH aKP uT;by_cases hp:0<j.bA.length
 ·have er:I2 j=j.bA[0]:=by grind[I2]
  have hbk:=hd.1 j.bA[0] (cZ hp);rw[<-er] at hbk;have hbv:BkV (mX t.aT (I2 j)):=by grind[mX]
  have hver:=hbv.2.1;have i0:idx j.bA 0=some (I2 j):=by rw[er];exact aU hp
  have is:∀y,idx (t.aT.set (I2 j).toNat y) (I2 j)=some y:=λy=>VK aa;have e1:(j.bA.take j.bA.length).drop (1:Int).toNat=j.bA.drop 1:=ae
  rw[aN (λq=>by have:=eq_of_beq q;omega),aL hp,i0,aG,LU,e1,PY ah,aG,E6 h2 hbk,aG];by_cases p14:j.Pc=14
  ·rw[aL (by simpa using p14),aL p14,is,aG];unfold uN;simp only[aKW];rw[cN]
  ·rw[aN (by simpa using p14),aN p14];rfl
 ·have h0:j.bA.length=0:=aa
  rw[aL (by simp[h0]),aN hp];by_cases p16:j.Pc=16
  ·rw[aL (by simpa using p16),aL p16]
  ·rw[aN (by simpa using p16),aN p16];unfold aPU;by_cases hl:0<j.bG.length
   ·have i0:idx j.bG 0=some (j.bG.getD 0 0):=by grind[aU]
    rw[cH,i0,aG,cH];rfl
   ·rw[aN (λq=>by have:=of_decide_eq_true q;omega),aN (show ¬(0:Int)<(j.bG.length:Int) by omega)];rfl
theorem aSV:DI t w j=some (bT t (aSG t.aA w j)):=by
 have hk:=hj.k;unfold DI aSG bT;by_cases hp:(j.bG.length:Int)<=j.K
 ·rw[aL (by simpa using hp),aL hp]
 ·rw[aN (by simpa using hp),aN hp,aN1 h2 hb hw hj,aG];generalize yP t.aA w j.Sub=r;cases hd:r.2.jC
  ·simp only[hd,bO,bM];rfl
  ·simp only[hd,bP];rw[cN (x:=j.K+1)];unfold aPU;by_cases hl:j.K+1<j.bG.length
   ·have i0:idx j.bG (j.K+1)=some (j.bG.getD (j.K+1).toNat 0):=by rw[fQ aa hl,RP,kG aa];rfl
    rw[cH,i0,aG,cH];rfl
   ·rw[pH,pH];rfl
theorem a1H(hp:j.Pc=17):rG t w j=some (bT t (aSH t.aA w j)):=by
 have hn:=hj.new;unfold rG aSH bT;rw[aL (by simpa using hp)];by_cases h0:j.cT.length=0
 ·rw[aL (by simp[h0]),aL h0]
 ·have hp0:0<j.cT.length:=aa
  have er:j.cT.getD 0 0=j.cT[0]:=aj
  have hh:=hn.2 j.cT[0] (cZ hp0);rw[<-er] at hh;have i0:idx j.cT 0=some (j.cT.getD 0 0):=by rw[er];exact aU hp0
  have e1:(j.cT.take j.cT.length).drop (1:Int).toNat=j.cT.drop 1:=ae
  rw[aN (λq=>by have:=eq_of_beq q;omega),aN h0,i0,aG];have fin:∀v:Table,v.aM=t.aM->v.bL=t.bL->DK t j v=some (v,{j with cT:=j.cT.drop 1}):=λv h1 h2=>by obtain⟨b,k,js,td,l,s⟩:=v;simp only at h1 h2;subst h1 h2;unfold DK DJ;rw[LU,e1,PY ah];rfl
  unfold QH;rw[eE,aL hh,aG,IN hb.1.2.2.1,aG];by_cases hl:bA t.aA.a8 (j.cT.getD 0 0 % 32)
  ·rw[cD hl,aL rfl,aL hl,aG];exact fin {t with aA:=⟨t.aA.Mem,t.aA.aI,t.aA.a8,t.aA.kZ⟩} rfl rfl
  ·rw[dR hl,dY,aN hl];obtain⟨c,e⟩:=aQC hb.1.1 hw (j.cT.getD 0 0);rw[e,aG,aG];exact fin {t with aA:=⟨aPV t.aA.Mem w (j.cT.getD 0 0),t.aA.aI,t.aA.a8,t.aA.kZ⟩} rfl rfl
theorem aWQ(hp:j.Pc=18):rG t w j=some ({t with aA:={t.aA with aI:=(aID t.aA.aI w).1}},{j with Pc:=19}):=by unfold rG;rw[pH,aL (by simpa using hp),aBP hb.1.2.1 hw];rfl
theorem a1I(hp:j.Pc=19)(hl:t.Log.length<=1000000):rG t w j=some ({t with Log:=t.Log++[tlE w j]},OS):=by
 obtain⟨s1,s2,s3,s4,s5⟩:=P3 h2 hb hw hj;unfold rG tlE;rw[pH,pH];have fin:∀r,vU t w j r=some ({t with Log:=t.Log++[⟨3,w,j.aK,j.Code,[],r⟩]},OS):=λr=>by unfold vU;rw[LJ];rfl
 by_cases hc:j.Code=0
 ·rw[aL (by simpa using hc)];unfold T8;rw[LJ,aG,fin,aL hc];rfl
 ·rw[aN (by simpa using hc),fin,aN hc]
end
section
variable {t:Table} {w:Int} (h3:t.aM.length=3) (h2:t.aT.length=2) (hb:wP t.aA) (hw:0<=w/\w<=2)
include h3 h2 hb hw
theorem aWR(hq3:t.bL.length=3)(hqv:∀q∈t.bL,q.List.length<=12/\∀b∈q.List,VJ b)(hs:0<=t.aK/\t.aK<=1000000)(hl:t.Log.length<=1000000) :
  GF t w=some (if(LQ t w).length=0\/t.aK=1000000 then t else aWF t w ((LQ t w).getD 0 ⟨false,[]⟩)):=by
 have hqi:w.toNat<t.bL.length:=aa
 have hq:idx t.bL w=some ⟨LQ t w⟩:=by simp_all[fQ,LQ]
 have hqm:(⟨LQ t w⟩:aP)∈t.bL:=by unfold LQ;rw[RP,kG hqi];exact cZ _
 have hqq:=hqv _ hqm;simp only at hqq;have stop:pS t w true=some t:=rfl;unfold GF;rw[hq,aG];simp only;by_cases h0:(LQ t w).length=0
 ·rw[aL (by simp[h0]),stop,aL (.inl h0)]
 ·rw[aN (λq=>by have:=eq_of_beq q;omega)];by_cases hm:t.aK=1000000
  ·rw[show(t.aK == 1000000)=true by simpa using hm,stop,aL (.inr hm)]
  ·have hp0:0<(LQ t w).length:=aa
   have er:(LQ t w).getD 0 ⟨false,[]⟩=(LQ t w)[0]:=aj
   have hbv:=hqq.2 (LQ t w)[0] (cZ hp0);rw[<-er] at hbv;have i0:idx (LQ t w) 0=some ((LQ t w).getD 0 ⟨false,[]⟩):=by rw[er];exact aU hp0
   have e1:((LQ t w).take (LQ t w).length).drop (1:Int).toNat=(LQ t w).drop 1:=ae
   have es:bC (t.aK+1)=t.aK+1:=cN;rw[show(t.aK == 1000000)=false by simpa using hm,aN (λq=>q.elim h0 hm)];unfold pS;rw[dY,hq,aG];simp only;rw[i0,aG,LU];generalize (LQ t w).getD 0 ⟨false,[]⟩=b at *;have hb6:=hbv.2.1;have cm:xA b.bI=some b.bI:=by unfold xA;rw[LJ];rfl
   have fin:∀x:aE,pR t w ⟨LQ t w⟩ b x=some ⟨t.aA,t.aT,t.aM.set w.toNat {x with Reads:=[],aH:=[],cV:=[],cT:=[],bA:=[],bG:=[]},t.bL.set w.toNat ⟨(LQ t w).drop 1⟩,t.Log++[⟨1,w,t.aK+1,0,b.bI,[]⟩],t.aK+1⟩:=λx=>by unfold pR FJ;rw[uZ h3 hw,aG,cm,aG,LJ,es,e1]
   unfold tR;rw[cm,aG,aG];simp only[lQ,aG];unfold FK aWF LR;simp only[lQ,aG];have eb:(⟨b.Collect,b.bI⟩:Batch)=b:=rfl;cases hc:b.Collect
   ·rw[dY,fin,es,dY,dY];rw[hc] at eb;rw[eb];rfl
   ·rw[aL rfl,fin,es,aL rfl,aL rfl];rw[hc] at eb;rw[eb];rfl
end
theorem a7R{t:Table}(hv:TV t)(hl:t.Log.length<=1000000){w:Int}(hw:0<=w/\w<=2):QI t w=some (wS t w):=by
 have h3:=hv.aP2.1;have h2:=hv.bk.1;have hb:=hv.base;have hjob:=uZ h3 hw;have hjv:=hv.aP2.2 _ (aNV h3 hw);unfold QI wS;rw[hjob,aG];cases hbusy:(fH t w).m0
 ·rw[aL ak,aWR h3 h2 hb hw hv.todo.1 hv.todo.2 hv.ser hl,aG];rfl
 ·have hj:JB (fH t w):=hjv.resolve_left λe=>by rw[e] at hbusy;cases hbusy
  rw[dY,aL rfl];generalize fH t w=j at *;have eta:({j with Batch:=⟨j.Batch.Collect,j.Batch.bI⟩,Reads:=j.Reads,aH:=j.aH,cV:=j.cV,cT:=j.cT,bA:=j.bA,bG:=j.bG}:aE)=j:=rfl;have p1:∀(v:Table) (y:aE),v.aM=t.aM->v.bL=t.bL->v.aK=t.aK->∀l,v.Log=t.Log++l->fN t w v y=some (WI t w ⟨v.aA,v.aT,y,l⟩):=λv y e1 e2 e3 l e4=>by obtain⟨b,k,js,td,lg,s⟩:=v;simp only at e1 e2 e3 e4;subst e1 e2 e3 e4;rfl
  have p1n:∀(v:Table) (y:aE),v.aM=t.aM->v.bL=t.bL->v.aK=t.aK->v.Log=t.Log->fN t w v y=some (WI t w ⟨v.aA,v.aT,y,[]⟩):=λv y e1 e2 e3 e4=>p1 v y e1 e2 e3 [] (by rw[e4,rA]);unfold doF;have go0:oY t w j true j=some (WI t w ⟨(aKQ t.aA w j).1,t.aT,(aKQ t.aA w j).2,[]⟩):=by unfold oY;rw[aL rfl,eta,aWM h2 hb hw hj,aG];exact p1n _ _ rfl rfl rfl rfl
  by_cases q0:j.Pc=0\/j.Pc=20\/j.Pc=21
  ·rw[aL q0];rcases q0 with q|q|q
   ·rw[aL (by simpa using q),go0]
   ·rw[aN (by simp[q]),aL (by simpa using q),go0]
   ·rw[aN (by simp[q]),aN (by simp[q]),show(j.Pc == 21)=true by simpa using q,go0]
  rw[pH,pH,show(j.Pc == 21)=false by simp;omega,aN q0];unfold oY;rw[dY];by_cases q1:j.Pc=1
  ·rw[aL (by simpa using q1),aL q1,eta,aQE (a1E h2 hb hw hj aa) (λx hx=>(hj.wr.2.1 x hx).2),aG];exact p1n t _ rfl rfl rfl rfl
  rw[aN (by simpa using q1),aN q1,eta];have go3:2<=j.Pc/\j.Pc<=5->lS t w j true j=some (WI t w ⟨t.aA,t.aT,aIL t.aA t.aT w j,[]⟩):=λh=>by unfold lS;rw[aL rfl,eta,a1F h2 hb hw hj h,aG];exact p1n t _ rfl rfl rfl rfl
  by_cases q2:2<=j.Pc/\j.Pc<=5
  ·rw[aL q2];have:j.Pc=2\/j.Pc=3\/j.Pc=4\/j.Pc=5:=aa
   rcases this with q|q|q|q
   ·rw[aL (by simpa using q),go3 q2]
   ·rw[aN (by simp[q]),aL (by simpa using q),go3 q2]
   ·rw[aN (by simp[q]),aN (by simp[q]),aL (by simpa using q),go3 q2]
   ·rw[aN (by simp[q]),aN (by simp[q]),aN (by simp[q]),show(j.Pc == 5)=true by simpa using q,go3 q2]
  rw[pH,pH,pH,show(j.Pc == 5)=false by simp;omega,aN q2];unfold lS;rw[dY];by_cases q6:j.Pc=6
  ·rw[aL (by simpa using q6),aL q6,eta,aWN h2 hb hw hj,aG];exact p1n _ _ rfl rfl rfl rfl
  rw[aN (by simpa using q6),aN q6];by_cases q7:j.Pc=7
  ·rw[aL (by simpa using q7),aL q7,eta,a1G h2 hb hw hj hl,aG];exact p1 (kT t w j.aK (aNU t.aT w j)).1 _ rfl rfl rfl _ rfl
  rw[aN (by simpa using q7),aN q7];by_cases q8:j.Pc=8
  ·rw[aL (by simpa using q8),aL q8,eta,aWO h2 hb hw hj,aG];exact p1n t _ rfl rfl rfl rfl
  rw[aN (by simpa using q8),aN q8,eta];have go4:9<=j.Pc/\j.Pc<=13->jW t w j true j=some (WI t w ⟨(aIO t.aA t.aT j).1,(aIO t.aA t.aT j).2.1,(aIO t.aA t.aT j).2.2,[]⟩):=λh=>by unfold jW;rw[aL rfl,eta,aQF h2 hb hw hj h,aG];exact p1n _ _ rfl rfl rfl rfl
  by_cases q9:9<=j.Pc/\j.Pc<=13
  ·rw[aL q9];have:j.Pc=9\/j.Pc=10\/j.Pc=11\/j.Pc=12\/j.Pc=13:=aa
   rcases this with q|q|q|q|q
   ·rw[aL (by simpa using q),go4 q9]
   ·rw[aN (by simp[q]),aL (by simpa using q),go4 q9]
   ·rw[aN (by simp[q]),aN (by simp[q]),aL (by simpa using q),go4 q9]
   ·rw[aN (by simp[q]),aN (by simp[q]),aN (by simp[q]),aL (by simpa using q),go4 q9]
   ·rw[aN (by simp[q]),aN (by simp[q]),aN (by simp[q]),aN (by simp[q]),show(j.Pc == 13)=true by simpa using q,go4 q9]
  rw[pH,pH,pH,pH,show(j.Pc == 13)=false by simp;omega,aN q9];unfold jW;rw[dY,eta];have go5:tX t w j true j=some (WI t w ⟨t.aA,(aKP t.aT j).1,(aKP t.aT j).2,[]⟩):=by unfold tX;rw[aL rfl,eta,aSU h2 hb hw hj hv.bk.2,aG];exact p1n _ _ rfl rfl rfl rfl
  by_cases q14:j.Pc=14\/j.Pc=16
  ·rw[aL q14];rcases q14 with q|q
   ·rw[aL (by simpa using q),go5]
   ·rw[aN (by simp[q]),show(j.Pc == 16)=true by simpa using q,go5]
  rw[pH,show(j.Pc == 16)=false by simp;omega,aN q14];unfold tX;rw[dY];by_cases q15:j.Pc=15
  ·rw[aL (by simpa using q15),aL q15,eta,aSV h2 hb hw hj,aG];exact p1n _ _ rfl rfl rfl rfl
  rw[aN (by simpa using q15),aN q15,eta];by_cases q17:j.Pc=17
  ·rw[aL (by simpa using q17),aL q17];unfold lR;rw[aL rfl,eta,a1H h2 hb hw hj q17,aG];exact p1n _ _ rfl rfl rfl rfl
  rw[aN (by simpa using q17),aN q17];by_cases q18:j.Pc=18
  ·rw[aL (by simpa using q18),aL q18];unfold lR;rw[aL rfl,eta,aWQ h2 hb hw hj q18,aG];exact p1n _ _ rfl rfl rfl rfl
  rw[aN (by simpa using q18),aN q18];by_cases q19:j.Pc=19
  ·rw[show(j.Pc == 19)=true by simpa using q19,aL q19];unfold lR;rw[aL rfl,eta,a1I h2 hb hw hj q19 hl,aG];exact p1 {t with Log:=t.Log++[tlE w j]} _ rfl rfl rfl _ rfl
  rw[show(j.Pc == 19)=false by simpa using q19,aN q19];unfold lR;rw[dY,eta];exact p1n t _ rfl rfl rfl rfl
end Go.Gv
end
noncomputable section
set_option maxRecDepth 20000
namespace Go.Gv
variable{n:Int}{l:List Batch}
def a9J(l:List aP):Prop:=l.length<=1048576/\(∀q∈l,q.List.length<=1048576)/\∀q∈l,∀b∈q.List,b.bI.length<=1048576
def XJ:Int->Table->List Int->Int
 |p,_,[]=>p
 |p,t,a::l=>if 0<=a/\a<=2 then XJ (if p<((dP (wS t a).aA.a8).length:Int) then((dP (wS t a).aA.a8).length:Int) else p) (wS t a) l else XJ p t l
section
variable {x:gH}
theorem aWS{t:Table}(hv:TV t):DL t.aA.a8=some ((dP t.aA.a8).length:Int)/\qK t.aA.a8=some ((dP t.aA.a8).length:Int):=by
 have h:=hv.base.1.2.2.1;have hr:=h.2.1;have hn:=h.1;constructor
 ·unfold DL;rw[U9 aa (by simp only[maxLen];omega)];rfl
 ·exact NL aa aa
theorem aIY:∀(d k:Nat) (p:Int) (t:Table),k+d=min x.dK.length 400->TV t->t.Log.length<=k->loop (oC x) (p,(k:Int),t)=some (XJ p t ((x.dK.take 400).drop k))/\loop (oR x) (p,(k:Int),t)=some (XJ p t ((x.dK.take 400).drop k))
 |0,k,p,t,hk,hv,hl=>by
  have hn:((x.dK.take ((if 400<(x.dK.length:Int) then 400 else(x.dK.length:Int)).toNat)).drop 0)=x.dK.take 400:=by
   (simp_all;omega)
  rw[List.drop_of_length_le aj];refine⟨bH ?_,bH ?_⟩
  ·simp only[oC,kJ];by_cases q:(k:Int)<x.dK.length
   ·rw[aL (by simpa using q),dR aa];rfl
   ·rw[aN (by simpa using q)];rfl
  ·simp only[oR,hn];rw[pH];rfl
 |d + 1,k,p,t,hk,hv,hl=>by
  have hn:((x.dK.take ((if 400<(x.dK.length:Int) then 400 else(x.dK.length:Int)).toNat)).drop 0)=x.dK.take 400:=by
   (simp_all;omega)
  have hkl:k<x.dK.length:=aa
  have hkt:k<(x.dK.take 400).length:=aj
  have hx:(x.dK.take 400)[k]=x.dK[k]:=List.getElem_take;have ih:=λq=>aIY d (k+1) q;by_cases hp:0<=x.dK[k]/\x.dK[k]<=2
  ·have hv2:=hv.step hp;obtain⟨z1,z2⟩:=aWS hv2;obtain⟨i1,i2⟩:=ih (if p<((dP (wS t x.dK[k]).aA.a8).length:Int) then((dP (wS t x.dK[k]).aA.a8).length:Int) else p) (wS t x.dK[k]) aa hv2 (by have:=aWK t x.dK[k];rw[a1C,aL hp] at this;omega);have fin:XJ p t ((x.dK.take 400).drop k)=XJ (if p<((dP (wS t x.dK[k]).aA.a8).length:Int) then((dP (wS t x.dK[k]).aA.a8).length:Int) else p) (wS t x.dK[k]) ((x.dK.take 400).drop (k+1)):=by rw[BW hkt,XJ,hx,aL hp]
   rw[fin];constructor
   ·rw[bK ?_,i1];simp only[oC,kJ,oB];rw[cH,cD aa,aL rfl,aU hkl,aG,cW,aG,cD hp,aL rfl,aG,a7R hv aa hp,aG,z1,aG,cN];rfl
   ·rw[bK ?_,i2];simp only[oR,oQ,hn];rw[cH,aU hkt,aG,kC,aG,hx,cD hp,aL rfl,a07 hv aa hp,aG,z2,aG,cN];rfl
  ·obtain⟨i1,i2⟩:=ih p t aa hv aa;have fin:XJ p t ((x.dK.take 400).drop k)=XJ p t ((x.dK.take 400).drop (k+1)):=by rw[BW hkt,XJ,hx,aN hp]
   rw[fin];constructor
   ·rw[bK ?_,i1];simp only[oC,kJ,oB];rw[cH,cD aa,aL rfl,aU hkl,aG,cW,aG,dR hp,dY,cN];rfl
   ·rw[bK ?_,i2];simp only[oR,oQ,hn];rw[cH,aU hkt,aG,kC,aG,hx,dR hp,dY,cN];rfl
end
theorem a1J{x:gH}(hf:a9J x.bL):∃n,DM x=some n/\EO x=some n:=by
 obtain⟨e1,e2⟩:=aP4 hf.1 hf.2.1 hf.2.2;unfold DM EO;rw[e1,e2,aG,aG];by_cases ht:aEK x.bL
 ·obtain⟨p1,p2⟩:=aIY (x:=x) (min x.dK.length 400) 0 0 (RO x.bL) aa (aWJ ht) (by simp[RO]);rw[aL ht,aN (by simp[RO]),aN (by simp[RO]),LU];rw[show((0:Nat):Int)=0 from rfl] at p1 p2;rw[p1,p2];exact⟨_,rfl,rfl⟩
 ·rw[aN ht];exact⟨0,rfl,rfl⟩
theorem aN2{O:Type}{f:O->Nat}:∀{l:List O} {x:O},x∈l->f x<=(l.map f).sum
 |y::r,x,h=>by
  rcases uI.1 h with rfl|h
  ·simp
  ·have:=aN2 (f:=f) h;simp;omega
theorem aUX{O:Type}{sz:O->Nat}{f:Int×Int->Option (Step (Int×Int) (Out Int Int))}(l:List O)(hl:l.length<=maxLen)
  (hf:∀(k:Nat) (hk:k<l.length) (n:Int),0<=n->n<=1048576->f (n,(k:Int))=if(sz l[k]:Int)<=n then some (.next (n-sz l[k],((k+1:Nat):Int))) else some (.stop (.ret (-1)))) (he:∀n:Int,f (n,(l.length:Int))=some (.stop (.brk n)))
   (h0:0<=n) (h1:n<=1048576):loop f (n,0)=some (if((l.map sz).sum:Int)<=n then .brk (n-(l.map sz).sum) else .ret (-1)):=by
 have key:∀(d k:Nat) (n:Int),k+d=l.length->0<=n->n<=1048576->loop f (n,(k:Int))=some (if(((l.drop k).map sz).sum:Int)<=n then .brk (n-((l.drop k).map sz).sum) else .ret (-1)):=by
  intro d;induction d with
  |zero=>
   intro k n hk h0 h1;obtain rfl:k=l.length:=aa
   rw[bH (he n),List.drop_length,aL (by simpa using h0)];simp
  |succ d ih=>
   intro k n hk h0 h1;have hk':k<l.length:=aa
   have hd:l.drop k=l[k]::l.drop (k+1):=BW hk';have e:((l.drop k).map sz).sum=sz l[k]+((l.drop (k+1)).map sz).sum:=by rw[hd,TQ,List.sum_cons]
   rw[e];by_cases q:(sz l[k]:Int)<=n
   ·rw[bK (by rw[hf k hk' n h0 h1,aL q]),ih (k+1) _ aa aa aa];by_cases q2:(((l.drop (k+1)).map sz).sum:Int)<=n-sz l[k]
    ·rw[aL q2,aL aa];congr 2;omega
    ·rw[aN q2,m9]
   ·rw[bH (by rw[hf k hk' n h0 h1,aN q]),m9]
 have:=key l.length 0 n aa h0 h1;simpa using this
def qY(l:List Int):Nat:=l.length
theorem XL(l:List Int):l.length<=qY l:=by unfold qY;omega
theorem a4D{l:List Int}(hf:fit l)(h0:0<=n)(h1:n<=1048576):ML l n=some (if(qY l:Int)<=n then n-qY l else -1):=by
 have hm:l.length<=9223372036854775807:=hf.1;unfold ML qY;rw[cN];by_cases h:(l.length:Int)<=n
 ·rw[aL h,pH]
 ·rw[aN h,cH]
theorem a4E{l:List Int}(h:qY l<=4194304):M1 l=some l:=by
 have hl:=XL l;unfold M1;rw[LU,BC,VO l id]
 ·simp[UC,UB]
 ·intro acc k hk he;simp only[KV];rw[cH,aU hk];simp only[aG];rw[IL];simp only[aG];rw[cN];simp
 ·intro acc;simp[KV]
theorem a4F{l:List Int}(h:qY l<=4194304):NH l l=some true:=by
 have hl:=XL l;unfold NH;have key:loop (wG l l) 0=some (Out.brk ()):=by
  refine iG (f:=wG l l) l.length (λk=>(k:Int)) _ (λk hk=>?_) ?_
  ·simp only[wG];rw[cH,aU hk,cN];simp
  ·simp[wG]
 simp[key,UO,UN]
theorem a7S(a:jJ):XU a=some a:=rfl
theorem a7T(a:jJ):QP a a=some true:=by simp[QP]
def nR(l:List jJ):Nat:=l.length
theorem XM(l:List jJ):l.length<=nR l:=by unfold nR;omega
theorem a4G{l:List jJ}(hf:fit l)(h0:0<=n)(h1:n<=1048576):MI l n=some (if(nR l:Int)<=n then n-nR l else -1):=by
 have hm:l.length<=9223372036854775807:=hf.1;unfold MI nR;rw[cN];by_cases h:(l.length:Int)<=n
 ·rw[aL h,pH]
 ·rw[aN h,cH]
theorem a4H{l:List jJ}(h:nR l<=4194304):MY l=some l:=by
 have hl:=XM l;unfold MY;rw[LU,BC,VO l id]
 ·simp[UA,T9]
 ·intro acc k hk he;simp only[KU];rw[cH,aU hk];simp only[aG,a7S];rw[IL];simp only[aG];rw[cN];simp
 ·intro acc;simp[KU]
theorem a4I{l:List jJ}(h:nR l<=4194304):ND l l=some true:=by
 have hl:=XM l;unfold ND;have key:loop (wF l l) 0=some (Out.brk ()):=by
  refine iG (f:=wF l l) l.length (λk=>(k:Int)) _ (λk hk=>?_) ?_
  ·simp only[wF];rw[cH,aU hk,cN];simp[a7T]
  ·simp[wF]
 simp[key,UM,UL]
def jA(v:Batch):Nat:=nR v.bI
theorem a1K{v:Batch}(hf:fit v)(h0:0<=n)(h1:n<=1048576):I7 v n=some (if(jA v:Int)<=n then n-jA v else -1):=by
 unfold I7 jA;rw[a4G (hf.2) aa aa];by_cases q0:(nR v.bI:Int)<=n
 ·rw[aL q0];simp only[aG];rw[aN (by simp only[decide_eq_true_eq];omega)]
 ·rw[aN q0];rfl
theorem a1L{v:Batch}(h:jA v<=4194304):JT v=some v:=by
 have h0:nR v.bI<=4194304:=by unfold jA at h;omega
 unfold JT;simp only[a4H h0,aG]
theorem a1M{v:Batch}(h:jA v<=4194304):KB v v=some true:=by
 have h0:nR v.bI<=4194304:=by unfold jA at h;omega
 unfold KB;simp[a4I h0]
def hU(l:List Batch):Nat:=l.length+(l.map jA).sum
theorem IT{x:Batch}(h:x∈l):jA x<=hU l:=by have:=aN2 (f:=jA) h;unfold hU;omega
theorem IU(l:List Batch):l.length<=hU l:=by unfold hU;omega
theorem aWT(hf:fit l)(h0:0<=n)(h1:n<=1048576):F9 l n=some (if(hU l:Int)<=n then n-hU l else -1):=by
 have hm:l.length<=9223372036854775807:=hf.1;unfold F9 hU;rw[cN];by_cases h:(l.length:Int)<=n
 ·rw[pH,aUX (sz:=jA) (f:=wZ l) l hf.1 (λk hk q q0 q1=>?_) (λq=>by simp[wZ]) aa aa]
  ·by_cases h2:((l.map jA).sum:Int)<=n-l.length
   ·rw[aL h2,aL aa];simp only[aG,O4,O3];congr 1;omega
   ·rw[aN h2,m9];rfl
  ·simp only[wZ];rw[cH,aU hk];simp only[aG];rw[a1K (hf.2 _ (cZ hk)) q0 q1];simp only[aG];by_cases h2:(jA l[k]:Int)<=q
   ·rw[aL h2,aL h2,aN (by simp only[decide_eq_true_eq];omega),lJ (H0 hk hf.1)]
   ·rw[aN h2,aN h2];rfl
 ·rw[cH,m9]
theorem aWU(h:hU l<=4194304):GO l=some l:=by
 have hl:=IU l;unfold GO;rw[LU,BC,VO l id]
 ·simp[O9,O8]
 ·intro acc k hk he;simp only[FT];rw[cH,aU hk];simp only[aG,a1L (pG (IT (cZ hk)) h)];rw[IL];simp only[aG];rw[cN];simp
 ·intro acc;simp[FT]
theorem aWV(h:hU l<=4194304):G0 l l=some true:=by
 have hl:=IU l;unfold G0;have key:loop (qR l l) 0=some (Out.brk ()):=by
  refine iG (f:=qR l l) l.length (λk=>(k:Int)) _ (λk hk=>?_) ?_
  ·simp only[qR];rw[cH,aU hk,cN];simp[a1M (pG (IT (cZ hk)) h)]
  ·simp[qR]
 simp[key,PG,PF]
def hY(v:aP):Nat:=hU v.List
theorem aWW{v:aP}(hf:fit v)(h0:0<=n)(h1:n<=1048576):GA v n=some (if(hY v:Int)<=n then n-hY v else -1):=by
 unfold GA hY;rw[aWT (l:=v.List) hf aa aa];by_cases q0:(hU v.List:Int)<=n
 ·rw[aL q0];simp only[aG];rw[aN (by simp only[decide_eq_true_eq];omega)]
 ·rw[aN q0];rfl
theorem aWX{v:aP}(h:hY v<=4194304):GP v=some v:=by
 have h0:hU v.List<=4194304:=by unfold hY at h;omega
 unfold GP;simp only[aWU h0,aG]
theorem aWY{v:aP}(h:hY v<=4194304):G3 v v=some true:=by
 have h0:hU v.List<=4194304:=by unfold hY at h;omega
 unfold G3;simp[aWV h0]
def fW(l:List aP):Nat:=l.length+(l.map hY).sum
theorem F5{l:List aP}{x:aP}(h:x∈l):hY x<=fW l:=by have:=aN2 (f:=hY) h;unfold fW;omega
theorem F6(l:List aP):l.length<=fW l:=by unfold fW;omega
theorem aSW{l:List aP}(hf:fit l)(h0:0<=n)(h1:n<=1048576):C0 l n=some (if(fW l:Int)<=n then n-fW l else -1):=by
 have hm:l.length<=9223372036854775807:=hf.1;unfold C0 fW;rw[cN];by_cases h:(l.length:Int)<=n
 ·rw[pH,aUX (sz:=hY) (f:=uL l) l hf.1 (λk hk q q0 q1=>?_) (λq=>by simp[uL]) aa aa]
  ·by_cases h2:((l.map hY).sum:Int)<=n-l.length
   ·rw[aL h2,aL aa];simp only[aG,MK,MJ];congr 1;omega
   ·rw[aN h2,m9];rfl
  ·simp only[uL];rw[cH,aU hk];simp only[aG];rw[aWW (hf.2 _ (cZ hk)) q0 q1];simp only[aG];by_cases h2:(hY l[k]:Int)<=q
   ·rw[aL h2,aL h2,aN (by simp only[decide_eq_true_eq];omega),lJ (H0 hk hf.1)]
   ·rw[aN h2,aN h2];rfl
 ·rw[cH,m9]
theorem aSX{l:List aP}(h:fW l<=4194304):DO l=some l:=by
 have hl:=F6 l;unfold DO;rw[LU,BC,VO l id]
 ·simp[M0,MZ]
 ·intro acc k hk he;simp only[DN];rw[cH,aU hk];simp only[aG,aWX (pG (F5 (cZ hk)) h)];rw[IL];simp only[aG];rw[cN];simp
 ·intro acc;simp[DN]
theorem aSY{l:List aP}(h:fW l<=4194304):EP l l=some true:=by
 have hl:=F6 l;unfold EP;have key:loop (oS l l) 0=some (Out.brk ()):=by
  refine iG (f:=oS l l) l.length (λk=>(k:Int)) _ (λk hk=>?_) ?_
  ·simp only[oS];rw[cH,aU hk,cN];simp[aWY (pG (F5 (cZ hk)) h)]
  ·simp[oS]
 simp[key,NG,NF]
def fI(v:gH):Nat:=fW v.bL+qY v.dK
theorem aSZ{v:gH}(hf:fit v)(h0:0<=n)(h1:n<=1048576):C1 v n=some (if(fI v:Int)<=n then n-fI v else -1):=by
 unfold C1 fI;rw[aSW (hf.1) aa aa];by_cases q0:(fW v.bL:Int)<=n
 ·rw[aL q0];simp only[aG];rw[aN (by simp only[decide_eq_true_eq];omega)];rw[a4D (hf.2) aa aa];by_cases q1:(qY v.dK:Int)<=n-(fW v.bL:Nat)
  ·rw[aL q1];simp only[aG];rw[aN (by simp only[decide_eq_true_eq];omega),aL aa];congr 1;omega
  ·rw[aN q1,m9];rfl
 ·rw[aN q0,m9];rfl
theorem aS0{v:gH}(h:fI v<=4194304):qC v=some v:=by
 have h0:fW v.bL<=4194304:=by unfold fI at h;omega
 have h1:qY v.dK<=4194304:=by unfold fI at h;omega
 unfold qC;simp only[aSX h0,a4E h1,aG]
theorem aS1{v:gH}(h:fI v<=4194304):ER v v=some true:=by
 have h0:fW v.bL<=4194304:=by unfold fI at h;omega
 have h1:qY v.dK<=4194304:=by unfold fI at h;omega
 unfold ER;simp[aSY h0,a4F h1]
theorem a4J{x:gH}(h:fI x<=1048576):a9J x.bL:=by
 have h1:fW x.bL<=1048576:=by unfold fI at h;omega
 have hl:=F6 x.bL;have hq:∀q∈x.bL,hU q.List<=1048576:=λq hq=>by have:=F5 hq;unfold hY at this;omega
 refine⟨aa,λq m=>by have:=IU q.List;have:=hq q m;omega,λq m b mb=>?_⟩;have h3:=IT mb;have:=hq q m;unfold jA nR at h3;omega
theorem VM{aX:gH}(hf:fit aX):uH aX=some true:=by
 unfold uH;rw[aSZ hf aa aa];simp only[aG];by_cases h:(fI aX:Int)<=1048576
 ·have h':fI aX<=1048576:=aa
  obtain⟨n,e1,e2⟩:=a1J (a4J h');have n1:¬(1048576-(fI aX:Int))<0:=aa
  simp only[aL h,dR n1,bO,bM,aS0 (show fI aX<=4194304 by omega),aG,e1,e2,aS1 (show fI aX<=4194304 by omega),g8,bne_self_eq_false]
 ·rw[aN h];simp
end Go.Gv
end
