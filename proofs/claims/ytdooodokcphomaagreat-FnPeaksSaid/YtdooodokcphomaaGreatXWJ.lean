import Derived.Test.YtdooodokcphomaaGreatXWI
set_option linter.unusedVariables false
set_option linter.unusedSimpArgs false
set_option linter.unusedSectionVars false
set_option linter.constructorNameAsVariable false
set_option linter.unnecessarySimpa false
set_option linter.defProp false
noncomputable section
namespace Go.Gv
variable{h:Heap}{c i n s w x:Int}{l:aw}{k:ba}{m:Mem}{t:Table}{O:Type}{j:aK}
def xW{O:Type}(o:Option O)(Q:O->Prop):Prop:=∃x,o=some x/\Q x
abbrev bJ0{σ ρ:Type}(I:σ->Prop)(Q:ρ->Prop):Step σ ρ->Prop
 |.next s=>I s
 |.stop r=>Q r
namespace xW
variable {O β σ ρ:Type} {Q:O->Prop}
theorem ret{x:O}(h:Q x):xW (some x) Q:=⟨x,rfl,h⟩
theorem bind{P:β->Prop}{o:Option β}{f:β->Option O}(h:xW o P)(b:∀x,P x->xW (f x) Q):xW (o.bind f) Q:=by obtain⟨x,e,a⟩:=h;grind
theorem need{p:Prop}[Decidable p]{k:Option O}(h:p)(a:xW k Q):xW (Gv.need p k) Q:=by grind[b7]
theorem ite{c:Prop}[Decidable c]{a b:Option O}(e:c->xW a Q)(d:¬c->xW b Q):xW (if c then a else b) Q:=aj
theorem mono{P:O->Prop}{o:Option O}(h:xW o P)(b:∀x,P x->Q x):xW o Q:=by obtain⟨x,e,a⟩:=h;exact⟨x,e,b x a⟩
theorem idx{l:List β}{i:Int}(h:0<=i/\i<l.length):xW (Gv.idx l i) (λx=>x∈l):=⟨_,eQ h.1 h.2,dO _⟩
theorem loop{Q:ρ->Prop}{f:σ->Option (Step σ ρ)}{s:σ}(μ:σ->Nat)(a:σ->Prop)(i:a s)(g:∀s,a s->xW (f s) (bJ0 (λs'=>a s'/\μ s'<μ s) (λr=>Q r))):xW (Gv.loop f s) Q:=by
 have b:∀n s,μ s<n->a s->xW (Gv.loop f s) Q:=by
  intro n;induction n with
  |zero=>omega
  |succ n j=>
   intro s h c;obtain⟨q,e,d⟩:=g s c;cases q with
   |next s'=>grind[bO]
   |stop r=>rw[bR e];exact⟨r,rfl,d⟩
 exact b _ s (Nat.lt_succ_self _) i
theorem of{o:Option O}{x:O}(h:o=some x):xW o (λy=>y=x):=⟨x,h,rfl⟩
end xW
def Cu(b:aF)(i:Int):Prop:=(0<=i/\i<=b.length)/\b.length<=1048576
def bE6(x:Int):0<=jG .and .i64 x 255/\jG .and .i64 x 255<=255:=by have e:jG .and .i64 x 255=IntKind.i64.wrap ((BitVec.ofInt 64 x &&& BitVec.ofInt 64 255).toNat:Int):=rfl;grind[Nat.and_le_right,wrap_i64]
section
variable {b:aF} {i h:Int} (hc:Cu b i)
include hc
theorem a2G:xW (wK ⟨b,i,h⟩) (λx=>(0<=x.1/\x.1<=255)/\Cu b x.2.1):=by
 unfold wK JE;obtain⟨⟨c,e⟩,d⟩:=hc;refine .ite (λq=>?_) (λq=>?_)
 .have a:=of_decide_eq_true q;simp only at a;refine .bind (.idx ⟨c,a⟩) λx _=>.ret ⟨bE6 _,?_⟩;grind[Cu,cK]
 .exact .ret ⟨bE6 _,⟨c,e⟩,d⟩
theorem below(hn:n<=1000000):xW (dU ⟨b,i,h⟩ n) (λx=>(0<=x.1/\(x.1<n\/n<=0/\x.1=0))/\Cu b x.2.1):=by
 unfold dU;refine .ite (λq=>?_) (λq=>?_)
 .have k:=of_decide_eq_true q;exact .ret ⟨ah,hc⟩
 .have c:0<n:=aj
  refine .ite (λq=>?_) (λq=>?_)
  .refine .bind (a2G hc) λx ⟨d,a⟩=>.need aa (.ret ⟨?_,a⟩);simp only[zC d.1];exact⟨Int.emod_nonneg _ aa,.inl (Int.emod_lt_of_pos _ c)⟩
  .refine .bind (a2G hc) λx ⟨d,a⟩=>.bind (a2G a) λy ⟨m,j⟩=>.bind (a2G j) λz ⟨l,g⟩=>.bind (a2G g) λw ⟨hw,f⟩=>.need aa (.ret ⟨?_,f⟩);have e:bB (bB (bB (bB (x.1*16777216)+bB (y.1*65536))+bB (z.1*256))+w.1)=x.1*16777216+y.1*65536+z.1*256+w.1:=by grind[cK]
   simp only[e];rw[zC aa];exact⟨Int.emod_nonneg _ aa,.inl (Int.emod_lt_of_pos _ c)⟩
theorem bJ1(hn:n<=1000000):xW (UX ⟨b,i,h⟩ n) (λx=>Cu b x.2.1):=.bind (below hc hn) λ_ ⟨_,a⟩=>.ret a
theorem aGG{l:al}(f:0<l.length)(a:l.length<=1000):xW (jI ⟨b,i,h⟩ l) (λx=>x.1∈l/\Cu b x.2.1):=.bind (below hc aa) λx ⟨e,d⟩=>.bind (.idx aa) λy c=>.ret ⟨c,d⟩
end
def bOH{code:aF}(f:code.length<=1048576):xW (SX code) (λx=>Cu code x.1):=by
 unfold SX;refine .bind (P:=λ_=>True) (.loop (λs=>code.length-s.2.toNat) (λs=>0<=s.2/\s.2<=code.length) ⟨ae,ae⟩ ?_) λx _=>.ret ⟨⟨ae,ae⟩,f⟩;rintro⟨a,k⟩ ⟨c,h⟩;simp only[aFL,NQ];simp only at c h;have nx:k<code.length->xW ((idx code k).bind λd=>some (Step.next (jG .and .i64 (bB ((bB ((bB (a*131))+(d.toNat:Int)))+7)) 1073741823,bB (k+1)))) (bJ0 (ρ:=Int) (λb=>(0<=b.2/\b.2<=code.length)/\code.length-b.2.toNat<code.length-k.toNat) (λr=>True)):=λg=>by refine .bind (.idx ⟨c,g⟩) λx _=>.ret ?_;grind[cK]
 refine .ite (λq=>?_) (λq=>?_)
 .have e:=of_decide_eq_true q;exact .ite (λ_=>nx e) (λ_=>.ret trivial)
 .rw[fF];exact .ret trivial
section
variable {b:aF} {i h:Int} (hc:Cu b i)
include hc
theorem opD:xW (ZG ⟨b,i,h⟩) (λx=>tT x.1/\Cu b x.2.1):=by
 unfold ZG;refine .bind (aGG hc ai ai) λc ⟨u,z⟩=>?_;have d:1<=c.1/\c.1<=7:=by simp at u;omega
 rw[aWY,aE];have g:∀(j n cell:Int),Cu b j->(MI c.1\/cell=0)->(0<=cell/\cell<=1)->xW (EZ ⟨b,i,h⟩ c j n cell) (λx=>tT x.1/\Cu b x.2.1):=by
  intro j n cell e f m;unfold EZ NS NR;refine .ite (λq=>?_) (λq=>?_)
  .have r:c.1=1:=aj
   have fin:∀(i h size:Int),Cu b i->(0<=size/\size<=100)->xW ((dU ⟨b,i,h⟩ 60000).bind λa=>some ((⟨c.1,cell,size,a.1⟩:mS),(a.2.1,a.2.2))) (λx=>tT x.1/\Cu b x.2.1):=λi h size w t=>
    .bind (below w aa) λv ⟨B,k⟩=>.ret ⟨⟨d,f,m,aj⟩,k⟩
   refine .bind (below e aa) λs ⟨t,k⟩=>.bind (bJ1 k aa) λo l=>.ite (λ_=>.bind (aGG l ai ai) λp ⟨C,y⟩=>fin _ _ _ y aj) (λ_=>fin _ _ _ l (by grind[cK]))
  .have r:¬c.1=1:=aj
   exact .ret ⟨⟨d,f,m,ae⟩,e⟩
 refine .ite (λq=>?_) (λq=>?_)
 .refine .bind (aGG z ai ai) λx ⟨A,f⟩=>g _ _ _ f (.inl (of_decide_eq_true q)) aj
 grind
theorem a74{m:Int}(C:0<=m/\m<=12):xW (A1 ⟨b,i,h⟩ m) (λx=>(x.1.length=3/\∀q∈x.1,q.mY.length<=m/\∀o∈q.mY,tT o)/\Cu b x.2.1):=by
 unfold A1;refine .bind (P:=λx=>(x.1.length=3/\∀q∈x.1,q.mY.length<=m/\∀o∈q.mY,tT o)/\Cu b x.2.1) (.loop (λs=>3-s.2.1.toNat) (λs=>((s.1.length:Int)=s.2.1/\s.2.1<=3/\∀q∈s.1,q.mY.length<=m/\∀o∈q.mY,tT o)/\Cu b s.2.2.1) ⟨⟨rfl,ae,ae⟩,hc⟩ ?_) λx w=>.ret w;rintro⟨l,k,B,F⟩ ⟨⟨e,u,f⟩,c⟩;simp only at e u f c;simp only[U1];refine .ite (λq=>?_) (λq=>?_)
 .have p:=of_decide_eq_true q;rw[cY (x:=m+1)];refine .bind (below c aa) λn ⟨y,d⟩=>?_;refine .bind (P:=λx=>((x.2.2.length:Int)<=m/\∀o∈x.2.2,tT o)/\Cu b x.1) (.loop (λs=>s.1.toNat) (λs=>(0<=s.1/\s.1+s.2.2.2.length<=m/\∀o∈s.2.2.2,tT o)/\Cu b s.2.1) ⟨⟨y.1,ah,ae⟩,d⟩ ?_) ?_
  .rintro⟨n,v,d,ops⟩ ⟨⟨t,r,g⟩,a⟩;simp only at t r g a;simp only[UZ,JF];refine .ite (λq=>?_) (λq=>?_)
   .have j:=of_decide_eq_true q;refine .bind (opD a) λo ⟨E,D⟩=>.need ah (.ret ?_);grind[cK]
   .have j:¬0<n:=aj
    exact .ret ⟨⟨aj,g⟩,a⟩
  .rintro⟨v,d,ops⟩ ⟨⟨A,z⟩,a⟩;simp only[U0,UY];refine .need ah (.ret ?_);grind[cK]
 .have p:¬k<3:=aj
  exact .ret ⟨⟨aj,f⟩,c⟩
def aD9(l:av):Prop:=l.length<=3/\∀q∈l,q.mY.length<=1000
omit hc in
theorem aW3{l:av}(a:aD9 l)(k:Nat){q:Queue}(d:q.mY.length<=1000):aD9 (l.set k q):=⟨by simpa using a.1,λx c=>(nM c).elim (a.2 x) (λe=>e ▸ d)⟩
theorem bE7:xW (GA ⟨b,i,h⟩) (λx=>aD9 x.1/\Cu b x.2.1):=by
 unfold GA;refine .bind (a74 hc aa) λu ⟨⟨m,d⟩,o⟩=>.bind (below o aa) λy ⟨_,e⟩=>?_;have hT:aD9 u.1:=⟨aa,λq a=>aj⟩;simp only[mE,HP];refine .ite (λ_=>?_) λ_=>.ite (λ_=>?_) λ_=>.ite (λ_=>?_) λ_=>.ite (λ_=>?_) λ_=>?_
 .exact .need aa (.ret ⟨⟨ah,λq a=>hT.2 q (List.mem_of_mem_take (by simpa using a))⟩,e⟩)
 .refine .bind (.idx aa) λt f=>.bind (aGG e ai ai) λp ⟨_,j⟩=>?_;have:=hT.2 _ f;have:=(d _ f).1;exact .need ah (.ret ⟨aW3 hT _ ah,j⟩)
 .refine .bind (P:=λx=>aD9 x.1/\Cu b x.2.1) (.loop (λs=>20-((s.1.getD 1 ⟨[]⟩).mY.length)) (λs=>(s.1.length=3/\∀q∈s.1,q.mY.length<=13)/\Cu b s.2.1) ⟨⟨m,λq a=>aj⟩,e⟩ ?_) ?_
  .rintro⟨l,w,o⟩ ⟨⟨m,d⟩,c⟩;simp only at m d c;simp only[SY,HQ];have n:idx l 1=some l[1]:=aZ (k:=1) aa;have z:=d _ (dO (show 1<l.length by omega));rw[n];simp only[aE];refine .bind (below c aa) λx ⟨r,g⟩=>.ite (λq=>?_) (λq=>?_)
   .have v:=of_decide_eq_true q;rw[cY] at v;refine .need ah (.ret ?_);grind
   .exact .ret ⟨⟨aj,λq a=>aj⟩,g⟩
  .rintro⟨l,w,o⟩ n;exact .ret n
 .refine .bind (.idx aa) λt f=>?_;have:=(d _ f).1;exact .need ah (.ret ⟨aW3 hT _ ah,e⟩)
 .exact .ret ⟨hT,e⟩
theorem bMH{m:Int}(D:m<=1000):xW (NT ⟨b,i,h⟩ m) (λx=>x.1.length<=4000/\Cu b x.2.1):=by
 unfold NT;refine .bind (below hc aa) λy ⟨c,f⟩=>?_;refine .bind (P:=λx=>x.1.length<=4000/\Cu b x.2.1) (.loop (λs=>s.2.1.toNat) (λs=>(0<=s.2.1/\s.1.length+4*s.2.1<=4000)/\Cu b s.2.2.1) ⟨⟨c.1,ah⟩,f⟩ ?_) λx w=>.ret w;rintro⟨l,n,B,f⟩ ⟨⟨t,p⟩,a⟩;simp only at t p a;simp only[XU];refine .ite (λq=>?_) (λq=>?_)
 .have A:=of_decide_eq_true q;refine .bind (below a aa) λj ⟨_,d⟩=>.bind (below d aa) λg ⟨e,o⟩=>?_;rw[cY];refine .bind (P:=λx=>(x.length:Int)<=l.length+4) (.loop (λs=>s.2.toNat) (λs=>0<=s.2/\(s.1.length:Int)+s.2<=l.length+4) ⟨aa,aj⟩ ?_) ?_
  .rintro⟨r,k⟩ ⟨v,u⟩;simp only at v u;simp only[XS];refine .ite (λq=>?_) (λq=>?_)
   .have z:=of_decide_eq_true q;refine .need ah (.ret ?_);grind[cK]
   .exact .ret aa
  .intro r C;simp only[XT,XR];refine .ret ?_;grind[cK]
 .exact .ret ⟨aj,a⟩
end
def a5K{code:aF}(c:code.length<=1048576):xW (mF code) (λx=>aD9 x.aY/\x.bG.length<=5000):=by unfold mF;refine .bind (bOH c) λl h=>.bind (a74 h aa) λb ⟨⟨m,n⟩,g⟩=>.bind (bMH g aa) λk ⟨p,f⟩=>.bind (below f aa) λj ⟨_,e⟩=>?_;have hT:aD9 b.1:=⟨aa,λq a=>aj⟩;simp only[mB];refine .ite (λ_=>.bind (bE7 e) λi ⟨d,_⟩=>.ret ⟨d,aj⟩) λ_=>.ite (λ_=>.need ah (.ret ⟨hT,ah⟩)) λ_=>.ret ⟨hT,aj⟩
def bE8{x:iD}(a:aD9 x.aY):ZQ x=some (decide (Y0 x.aY)):=by
 unfold ZQ;rw[(aMO (t:=x.aY) (by have:=a.1;omega) (λq b=>by have:=a.2 q b;omega)).1,aE];by_cases h:Y0 x.aY
 .rw[aM h,cB h];rfl
 .rw[aO h,dV h];rfl
def a9Z(b:aA)(w:Int)(s:Sub):(gZ b w s).2.Kind=s.Kind:=by unfold gZ aLP aAG aJT aD5 aD7 bEV NL;grind
def upJ(J:Int->fE)(w:Int)(j:fE):Int->fE:=λv=>if v=w then j else J v
def a90{s:aJ}(e:s.aH.length=3){v:Int}(a:0<=w/\w<=2)(d:0<=v/\v<=2)(b:aA)(c:al)(j:fE)(t:av)(l:bw)(n:Int):mR ⟨b,c,s.aH.set w.toNat j,t,l,n⟩ v=upJ (mR s) w j v:=by unfold mR upJ;grind
def aLT{b:aA}(a:lD b)(c:0<=w/\w<=2)(s:Sub):i4 s b w=some ((gZ b w s).2,(gZ b w s).1):=by obtain⟨x,y,e,d,h⟩:=step_eq a a.small c s;grind[aEV]
def at_eq{code:aF}(c:code.length<=1048576)(b:0<=i/\i<=1000):xW (aPL code i) (λx=>0<=x/\x<=255):=by
 unfold aPL;refine .ite (λq=>?_) λq=>?_
 .have a:=of_decide_eq_true q;exact .bind (.idx ⟨b.1,a⟩) λx _=>.ret (by have:=x.toNat_lt;omega)
 .rw[cY (x:=i*37),cY (x:=(code.length:Int)*11),cY];refine .ret ?_;grind
def W8:aK:=⟨false,⟨false,[]⟩,0,0,0,0,0,0,0,0,a2D,false,0,⟨0,0,0,0,0,0,0,0,0,false⟩,[],[],[],[],[],[]⟩
def qL(k:ba)(i:Int):dR:=k.getD i.toNat ⟨0,0,0⟩
def abF(j:aK)(c:Int):aK:={j with Pc:=16,Code:=c}
def aHA(a b:Int):Int:=Int.tmod (bB (a+b)) 65536
def I7(j:aK)(x:aW):Bool×aK:=if 6<(aF9 j.aL x).length then(false,abF j 1) else(true,{j with aL:=aF9 j.aL x})
def aO1(j:aK)(is:Bool)(v:Int):aK:={j with eD:=j.eD++[⟨is,v⟩],Pc:=1,At:=j.At+1}
def a91(j:aK)(c:oV)(v:Int):aK:=if(I7 j ⟨c.Key,false,aHA v c.cT⟩).1 then aO1 (I7 j ⟨c.Key,false,aHA v c.cT⟩).2 true (aHA v c.cT) else(I7 j ⟨c.Key,false,aHA v c.cT⟩).2
def aVY(j:aK)(c:oV)(v:Int)(is:Bool):aK:=if c.Kind=4 then a91 j c (if is then v else 0) else aO1 j is (if is then v else 0)
def fP(j:aK):oV:=j.Batch.b8.getD j.At.toNat ⟨0,0,0⟩
def QK(j:aK):Prop:=j.At<j.Batch.b8.length
instance (j:aK):Decidable (QK j):=by unfold QK;infer_instance
def a5L(j:aK):aK:=
 if QK j then
  if(fP j).Kind=2\/(fP j).Kind=3 then
   if(I7 j ⟨(fP j).Key,(fP j).Kind == 3,(fP j).cT⟩).1 then {(I7 j ⟨(fP j).Key,(fP j).Kind == 3,(fP j).cT⟩).2 with At:=j.At+1,eD:=j.eD++[⟨false,0⟩]}
   else(I7 j ⟨(fP j).Key,(fP j).Kind == 3,(fP j).cT⟩).2
  else if(aFB j.aL (fP j).Key).2 then aVY j (fP j) (aFB j.aL (fP j).Key).1.cT (!(aFB j.aL (fP j).Key).1.NP)
  else {j with Pc:=2,dR:=ER (fP j).Key}
 else {j with Pc:=6,K:=0,Sub:=UC 1 16}
def aTF(b:aA)(k:ba)(w:Int)(j:aK):aK:=
 if j.Pc=2 then
  if(qL k j.dR).jC≠0 then abF j 7
  else {j with iF:=(qL k j.dR).iF,H:=(qL k j.dR).Head,Found:=false,Node:=a2D,Pc:=if(qL k j.dR).Head=0 then 5 else 3}
 else if j.Pc=3 then {j with Node:=W6 b.Mem.Heap j.H,Pc:=4}
 else if j.Pc=4 then
  if ¬((mD b.aI w).On=true/\(mD b.aI w).gU=false) then abF j 6
  else if QK j then {j with Found:=j.Node.Key == (fP j).Key,H:=W7 j.Node,Pc:=if j.Node.Key=(fP j).Key\/W7 j.Node=0 then 5 else 3}
  else abF j 1
 else
  if(qL k j.dR).jC≠0\/(qL k j.dR).iF≠j.iF then abF j 7
  else if(IZ j.Reads j.dR j.iF).2=false then abF {j with Reads:=(IZ j.Reads j.dR j.iF).1} 7
  else if QK j then aVY {j with Reads:=(IZ j.Reads j.dR j.iF).1} (fP j) j.Node.cT j.Found
  else abF {j with Reads:=(IZ j.Reads j.dR j.iF).1} 1
def a5M(b:aA)(w:Int)(j:aK):aA×aK:=
 if mQ j.aL j.aL.length<=j.K then(b,{j with Pc:=7,K:=0})
 else((gZ b w j.Sub).1,
  if(gZ b w j.Sub).2.eG=false then {j with Sub:=(gZ b w j.Sub).2}
  else if(gZ b w j.Sub).2.Code≠0\/¬j3 (gZ b w j.Sub).2.Out\/6<=j.eC.length then abF {j with Sub:=(gZ b w j.Sub).2} (gZ b w j.Sub).2.Code
  else {j with eC:=j.eC++[(gZ b w j.Sub).2.Out],K:=j.K+1,Sub:=UC 1 16})
def i6(j:aK):Int:=(tQ j.aL).getD j.K.toNat 0
def aLU(j:aK):aK:={j with bM:=if i6 j∈j.bM then j.bM else j.bM++[i6 j],K:=j.K+1}
def aZO(k:ba)(w:Int)(j:aK):ba×aK×Bool:=
 if j.K<(tQ j.aL).length then
  if(qL k (i6 j)).jC≠0\/(j.Reads.any λs=>s.dR == i6 j && s.iF != (qL k (i6 j)).iF)=true then(k,abF j 7,false)
  else if(qL k (i6 j)).iF=1000000 then(k,abF j 3,false)
  else if(tQ j.aL).length<=j.K+1 then(k.set (i6 j).toNat {qL k (i6 j) with jC:=w+1},{aLU j with Pc:=8,K:=0},true)
  else(k.set (i6 j).toNat {qL k (i6 j) with jC:=w+1},aLU j,false)
 else(k,{j with Pc:=8,K:=0},true)
def rdN(j:aK):Seen:=j.Reads.getD j.K.toNat ⟨0,0⟩
def a92(k:ba)(w:Int)(j:aK):aK:=
 if j.Reads.length<=j.K then {j with Pc:=9,K:=0}
 else if((qL k (rdN j).dR).jC≠0/\(qL k (rdN j).dR).jC≠w+1)\/(qL k (rdN j).dR).iF≠(rdN j).iF then abF j 7
 else {j with K:=j.K+1}
def plF(j:aK)(x:aW):aK:=if x.NP then {j with Pc:=9,K:=j.K+1} else {j with Pc:=12}
def wrN(j:aK):aW:=j.aL.getD j.K.toNat ⟨0,false,0⟩
def aTG(j:aK):Int:=j.eC.getD (mQ j.aL j.K).toNat 0
def aTH(j:aK):aK:=if j3 j.H/\j.bW.length<6 then {j with bW:=j.bW++[j.H]} else j
def aTI(b:aA)(k:ba)(j:aK):aA×ba×aK:=
 if j.aL.length<=j.K then(b,k,{j with Pc:=14})
 else if j.Pc=9 then(b,k,if(qL k (ER (wrN j).Key)).Head=0 then plF {j with Pc:=10,H:=(qL k (ER (wrN j).Key)).Head,jH:=0} (wrN j) else {j with Pc:=10,H:=(qL k (ER (wrN j).Key)).Head,jH:=0})
 else if j.Pc=10 then
  (b,k,if(W6 b.Mem.Heap j.H).Key=(wrN j).Key then {j with Pc:=11,Node:=W6 b.Mem.Heap j.H}
   else if W7 (W6 b.Mem.Heap j.H)=0 then plF {j with Node:=W6 b.Mem.Heap j.H} (wrN j)
   else {j with H:=W7 (W6 b.Mem.Heap j.H),jH:=j.H,Node:=W6 b.Mem.Heap j.H})
 else if j.Pc=11 then
  if j.jH=0 then(b,k.set (ER (wrN j).Key).toNat {qL k (ER (wrN j).Key) with Head:=W7 j.Node},plF (aTH j) (wrN j))
  else({b with Mem:=Gv.aTE b.Mem j.jH (W7 j.Node)},k,plF (aTH j) (wrN j))
 else if j.eC.length<=mQ j.aL j.K then(b,k,abF j 1)
 else if j.Pc=12 then({b with Mem:=aTD b.Mem (aTG j) ⟨(wrN j).Key,(wrN j).cT,(qL k (ER (wrN j).Key)).Head⟩},k,{j with Pc:=13})
 else(b,k.set (ER (wrN j).Key).toNat {qL k (ER (wrN j).Key) with Head:=aTG j},{j with Pc:=9,K:=j.K+1})
def a2H(j:aK):aK:=if j.K<j.bW.length then {j with Sub:=UC 2 (j.bW.getD j.K.toNat 0)} else j
def QW(j:aK):Int:=j.bM.getD 0 0
def aVZ(k:ba)(j:aK):ba×aK:=
 if 0<j.bM.length then
  (k.set (QW j).toNat (if j.Pc=14 then⟨(qL k (QW j)).Head,if 1000000<(qL k (QW j)).iF+1 then 1000000 else(qL k (QW j)).iF+1,0⟩ else {qL k (QW j) with jC:=0}),{j with bM:=j.bM.drop 1})
 else if j.Pc=16 then(k,{j with Pc:=17})
 else(k,a2H {j with Pc:=15,K:=0})
def a5O(b:aA)(w:Int)(j:aK):aA×aK:=
 if j.bW.length<=j.K then(b,{j with Pc:=18})
 else((gZ b w j.Sub).1,if(gZ b w j.Sub).2.eG then a2H {j with K:=j.K+1,Sub:=(gZ b w j.Sub).2} else {j with Sub:=(gZ b w j.Sub).2})
def a2I(m:Mem)(w x:Int):Mem:=if lE m x then UA m w x else m
def a5P(b:aA)(w:Int)(j:aK):aA×aK:=
 if j.eC.length=0 then(b,{j with Pc:=18})
 else(if bM b.aQ (j.eC.getD 0 0 % 32) then b else {b with Mem:=a2I b.Mem w (j.eC.getD 0 0)},{j with eC:=j.eC.drop 1})
def aV0(b:aA)(w:Int)(j:aK):aA×aK:=
 ((gZ b w j.Sub).1,if(gZ b w j.Sub).2.eG = false then {j with Sub:=(gZ b w j.Sub).2}
  else if j.Pc=0 then {j with Pc:=1,Sub:=(gZ b w j.Sub).2}
  else if j.Pc=20 then {j with Pc:=21,Sub:=UC 4 0}
  else {j with Pc:=19,Sub:=(gZ b w j.Sub).2})
def tlE(w:Int)(j:aK):wH:=⟨3,w,j.aG,j.Code,[],if j.Code=0 then j.eD else []⟩
structure TR where
 b:aA
 k:ba
 j:aK
 l:bs
def doF(b:aA)(k:ba)(w:Int)(j:aK):TR:=
 if j.Pc=0\/j.Pc=20\/j.Pc=21 then⟨(aV0 b w j).1,k,(aV0 b w j).2,[]⟩
 else if j.Pc=1 then⟨b,k,a5L j,[]⟩
 else if 2<=j.Pc/\j.Pc<=5 then⟨b,k,aTF b k w j,[]⟩
 else if j.Pc=6 then⟨(a5M b w j).1,k,(a5M b w j).2,[]⟩
 else if j.Pc=7 then⟨b,(aZO k w j).1,(aZO k w j).2.1,if(aZO k w j).2.2 then [⟨2,w,j.aG,0,[],[]⟩] else []⟩
 else if j.Pc=8 then⟨b,k,a92 k w j,[]⟩
 else if 9<=j.Pc/\j.Pc<=13 then⟨(aTI b k j).1,(aTI b k j).2.1,(aTI b k j).2.2,[]⟩
 else if j.Pc=14\/j.Pc=16 then⟨b,(aVZ k j).1,(aVZ k j).2,[]⟩
 else if j.Pc=15 then⟨(a5O b w j).1,k,(a5O b w j).2,[]⟩
 else if j.Pc=17 then⟨(a5P b w j).1,k,(a5P b w j).2,[]⟩
 else if j.Pc=18 then⟨{b with aI:=(aAH b.aI w).1},k,{j with Pc:=19},[]⟩
 else if j.Pc=19 then⟨b,k,W8,[tlE w j]⟩
 else⟨b,k,abF j 1,[]⟩
def iG(t:Table)(w:Int):aK:=t.aH.getD w.toNat W8
def UD(t:Table)(w:Int):bf:=(t.aY.getD w.toNat ⟨[]⟩).List
def UE(b:Batch)(s:Int):aK:=⟨true,b,s,if b.Collect then 20 else 0,0,0,0,0,0,0,a2D,false,0,if b.Collect then UC 3 0 else UC 5 0,[],[],[],[],[],[]⟩
def a93(t:Table)(w:Int)(b:Batch):Table:=⟨t.aA,t.bC,t.aH.set w.toNat (UE b (t.aG+1)),t.aY.set w.toNat ⟨(UD t w).drop 1⟩,t.Log++[⟨1,w,t.aG+1,0,b.b8,[]⟩],t.aG+1⟩
def aFD(t:Table)(w:Int)(r:TR):Table:=⟨r.b,r.k,t.aH.set w.toNat r.j,t.aY,t.Log++r.l,t.aG⟩
def CQ(t:Table)(w:Int):Table:=
 if(iG t w).gW then aFD t w (doF t.aA t.bC w (iG t w))
 else if(UD t w).length=0\/t.aG=1000000 then t else a93 t w ((UD t w).getD 0 ⟨false,[]⟩)
def aFE(c:oV):Prop:=(1<=c.Kind/\c.Kind<=4)/\(0<=c.Key/\c.Key<=99)/\(0<=c.cT/\c.cT<=65535)/\(c.Kind=2\/c.Kind=4\/c.cT=0)
instance (c:oV):Decidable (aFE c):=by unfold aFE;infer_instance
def aEA(b:Batch):Prop:=(b.Collect=true->b.b8=[])/\b.b8.length<=6/\(∀c∈b.b8,aFE c)/\(b.Collect=false->1<=b.b8.length)
instance (b:Batch):Decidable (aEA b):=by unfold aEA;infer_instance
def QuV(q:aR):Prop:=q.List.length<=12/\∀b∈q.List,aEA b
instance (q:aR):Decidable (QuV q):=by unfold QuV;infer_instance
def aO2(l:au):Prop:=l.length=3/\∀q∈l,QuV q
instance (l:au):Decidable (aO2 l):=by unfold aO2;infer_instance
def BkV(b:dR):Prop:=fH b.Head/\(0<=b.iF/\b.iF<=1000000)/\(0<=b.jC/\b.jC<=3)
def WrV(l:aw):Prop:=l.length<=6/\(∀x∈l,(0<=x.Key/\x.Key<=99)/\(0<=x.cT/\x.cT<=65535))/\l.Pairwise (λx y=>x.Key<y.Key)
structure JB (j:aK):Prop where
 busy:j.gW=true
 bat:aEA j.Batch
 h:fH j.H
 prev:fH j.jH
 bkt:0<=j.dR/\j.dR<=1
 at_:0<=j.At/\j.At<=j.Batch.b8.length
 k:0<=j.K/\j.K<=6
 new:j.eC.length<=6/\∀x∈j.eC,j3 x
 old:j.bW.length<=6/\∀x∈j.bW,j3 x
 reads:(∀s∈j.Reads,0<=s.dR/\s.dR<=1)/\(j.Reads.map Seen.dR).Nodup
 wr:WrV j.aL
 held:(∀x∈j.bM,0<=x/\x<=1)/\j.bM.Nodup
 res:(j.eD.length:Int)=j.At
 node:0<=j.Node.cT/\j.Node.cT<=4294967295
structure TV (t:Table):Prop where
 base:lD t.aA
 bk:t.bC.length=2/\∀x∈t.bC,BkV x
 a3M:t.aH.length=3/\∀j∈t.aH,j=W8\/JB j
 todo:aO2 t.aY
 ser:0<=t.aG/\t.aG<=1000000
def aW4(a:j.aL.length<=1000)(x:aW):vM j x=some (I7 j x):=by
 unfold vM I7;rw[aLM a,aE];by_cases h:6<(aF9 j.aL x).length
 .rw[cX,aM h];rfl
 grind
theorem Y1(j:aK)(x:aW):(I7 j x).2.eD=j.eD/\(I7 j x).2.At=j.At:=by grind[I7,abF]
def aW5(d:j.aL.length<=1000)(e:j.eD.length<=1000)(f:0<=j.At/\j.At<=1000)(c:oV)(v:Int)(is:Bool):vN j c v is=some (aVY j c v is):=by
 have b:∀u,oP j c is u=some (if c.Kind=4 then a91 j c u else aO1 j is u):=λu=>by
  unfold oP;by_cases a:c.Kind=4
  .rw[aM aj,aM a];unfold aGT a91;rw[aE,show Int.tmod (bB (u+c.cT)) 65536=aHA u c.cT from rfl,aW4 d,aE];obtain⟨i,g⟩:=Y1 j ⟨c.Key,false,aHA u c.cT⟩;cases h:(I7 j ⟨c.Key,false,aHA u c.cT⟩).1
   .simp
   .rw[fF,aM rfl];grind[oO,uF,aO1,b7,cK]
  .rw[aO aj,aO a];grind[oO,uF,aO1,b7,cK]
 unfold vN aVY;grind
def aTJ(c:j.Batch.b8.length<=1000)(b:0<=j.At):sL j=some (if QK j then(fP j,true,j) else(⟨0,0,0⟩,false,j)):=by
 unfold sL fP;rw[eT,aE,cY];by_cases a:QK j
 .have h:j.At<j.Batch.b8.length:=a;rw[cB aa,fF,aM a,eQ b h,aE];grind
 .have h:¬j.At<j.Batch.b8.length:=a;grind
def bFC(e:j.Batch.b8.length<=1000)(a:j.aL.length<=1000)(d:j.eD.length<=1000)(b:0<=j.At/\j.At<=1000):K2 j=some (a5L j):=by
 unfold K2 a5L;rw[aTJ e b.1,aE];by_cases h:QK j
 .rw[aM h,aM h];have put:lL (fP j,true,j) true j=some (if(I7 j ⟨(fP j).Key,(fP j).Kind == 3,(fP j).cT⟩).1 then {(I7 j ⟨(fP j).Key,(fP j).Kind == 3,(fP j).cT⟩).2 with At:=j.At+1,eD:=j.eD++[⟨false,0⟩]} else(I7 j ⟨(fP j).Key,(fP j).Kind == 3,(fP j).cT⟩).2):=by
   unfold lL;rw[aM rfl,aW4 a,aE];obtain⟨c,f⟩:=Y1 j ⟨(fP j).Key,(fP j).Kind == 3,(fP j).cT⟩;cases (I7 j ⟨(fP j).Key,(fP j).Kind == 3,(fP j).cT⟩).1
   .rw[fF,fF]
   .rw[aM rfl,aM rfl,b7 (by rw[c];simp;omega)];simp only[c,f];rw[cY]
  have get:lL (fP j,true,j) false j=some (if(aFB j.aL (fP j).Key).2 then aVY j (fP j) (aFB j.aL (fP j).Key).1.cT (!(aFB j.aL (fP j).Key).1.NP) else {j with Pc:=2,dR:=ER (fP j).Key}):=by
   unfold lL K1;rw[fF,aOW a,aE];cases (aFB j.aL (fP j).Key).2
   .rw[fF,fF,W2];rfl
   .rw[aM rfl,aM rfl,aW5 a d b];rfl
  grind
 .rw[aO h,aO h];rfl
def AU(b:t.aH.length=3)(a:0<=w/\w<=2):idx t.aH w=some (iG t w):=by grind[eQ,iG]
def MJ(b:k.length=2)(a:0<=i/\i<=1):idx k i=some (qL k i):=by grind[eQ,qL]
def aEB{l:List O}{x:O}(h:0<=i/\i<l.length):idx (l.set i.toNat x) i=some x:=by grind[eQ]
def aZP(b:t.aH.length=3)(a:0<=w/\w<=2):iG t w∈t.aH:=by grind[iG]
def a2J(t:Table)(w:Int)(j:aK):Table:={t with aH:=t.aH.set w.toNat j}
section
variable {t:Table} {w:Int} (h3:t.aH.length=3) (h2:t.bC.length=2) (hb:lD t.aA) (hw:0<=w/\w<=2) (hj:JB (iG t w))
include h3 h2 hb hw hj
theorem Y2:(iG t w).Batch.b8.length<=1000/\(iG t w).aL.length<=1000/\(iG t w).eD.length<=1000/\(0<=(iG t w).At/\(iG t w).At<=1000)/\(iG t w).Reads.length<=2:=by
 have j:=hj.bat.2.1;have i:=hj.at_;have g:=hj.res;have f:=hj.wr.1;refine⟨aa,aa,aa,aa,?_⟩;have a:=hj.reads.2;have b:∀x∈(iG t w).Reads.map Seen.dR,x=0\/x=1:=λx c=>by obtain⟨s,d,rfl⟩:=aL1.1 c;have:=hj.reads.1 s d;omega
 have e:((iG t w).Reads.map Seen.dR).length<=2:=by
  match h:(iG t w).Reads.map Seen.dR,a,b with
  |[],_,_=>simp
  |[_],_,_=>simp
  |[_,_],_,_=>simp
  |x::y::z::r,a,b=>
   (simp_all;omega)
 grind
theorem bIT:GW t w=some (a2J t w (aTF t.aA t.bC w (iG t w))):=by
 obtain⟨C,B,A,p,E⟩:=Y2 h3 h2 hb hw hj;have m:=AU h3 hw;unfold GW H4 aTF a2J;rw[m,aE,MJ h2 hj.bkt,aE,aE,aTJ C p.1,aE];generalize z:iG t w=j at *;have k:(if QK j then(fP j,true,j) else((⟨0,0,0⟩:oV),false,j)).2.2=j:=aj
 have b:∀x y:aK,(t.aH.set w.toNat x).set w.toNat y=t.aH.set w.toNat y:=λx y=>O2 ..;have d:∀x:aK,idx (t.aH.set w.toNat x) w=some x:=λx=>aEB ⟨hw.1,aa⟩;simp only[k];by_cases u:j.Pc=2
 .have i:(j.Pc == 2)=true:=aj
  simp only[i,aS,aM u];by_cases n:(qL t.bC j.dR).jC=0
  .have e:((qL t.bC j.dR).jC != 0)=false:=aj
   simp only[e,aU,aT,aO (not_not_intro n)];by_cases hh:(qL t.bC j.dR).Head=0
   .have e:((qL t.bC j.dR).Head == 0)=true:=aj
    simp only[e,aS,aM hh];rfl
   .have e:((qL t.bC j.dR).Head == 0)=false:=aj
    simp only[e,aU,aT,aO hh];rfl
  .have e:((qL t.bC j.dR).jC != 0)=true:=aj
   simp only[e,aS,aM n];rfl
 .have i:(j.Pc == 2)=false:=aj
  simp only[i,aU,aT,aO u];by_cases s:j.Pc=3
  .have g:(j.Pc == 3)=true:=aj
   simp only[g,aS,aM s];obtain⟨c,e⟩:=aW1 hb.1.1 j.H;rw[e];rfl
  .have g:(j.Pc == 3)=false:=aj
   simp only[g,aU,aT,aO s];by_cases r:j.Pc=4
   .have f:(j.Pc == 4)=true:=aj
    simp only[f,aS,aM r];rw[DZ hb.1.2.1 hw,aE];simp only[mI,j9];have D:(if(mD t.aA.aI w).On=true then some (!(mD t.aA.aI w).gU) else some false)=some (decide ((mD t.aA.aI w).On=true/\(mD t.aA.aI w).gU=false)):=by cases (mD t.aA.aI w).On<;>cases (mD t.aA.aI w).gU<;>rfl
    rw[D,aE];by_cases a:(mD t.aA.aI w).On=true/\(mD t.aA.aI w).gU=false
    .simp only[cB a,eP,aU,aT,aO (not_not_intro a)];by_cases o:QK j
     .simp only[aM o,eP,aU,aT,aZM,aE,H0,xM,d,b];grind
     .simp only[aO o,oH,aS];rfl
    .simp only[dV a,oH,aS,aM a];rfl
   .have f:(j.Pc == 4)=false:=aj
    simp only[f,aU,aT,aO r];have l:kP t w (if QK j then(fP j,true,j) else((⟨0,0,0⟩:oV),false,j)) false=some (a2J t w (if(IZ j.Reads j.dR j.iF).2=false then abF {j with Reads:=(IZ j.Reads j.dR j.iF).1} 7
      else if QK j then aVY {j with Reads:=(IZ j.Reads j.dR j.iF).1} (fP j) j.Node.cT j.Found
      else abF {j with Reads:=(IZ j.Reads j.dR j.iF).1} 1)):=by
     simp only[kP,H3,k,d,aE,b,aU,aT];rw[aOX aa,aE];cases F:(IZ j.Reads j.dR j.iF).2
     .rfl
     .simp only[eP,aU,aT,reduceCtorEq];by_cases o:QK j
      .simp only[aM o,eP,aU,aT];rw[aW5 (j:={j with Reads:=(IZ j.Reads j.dR j.iF).1}) B A p];rfl
      .simp only[aO o,oH,aS];rfl
    have ab:kP t w (if QK j then(fP j,true,j) else((⟨0,0,0⟩:oV),false,j)) true=some (a2J t w (abF j 7)):=by simp only[kP,k,d,aE,b,aS];rfl
    by_cases n:(qL t.bC j.dR).jC=0
    .have e:((qL t.bC j.dR).jC != 0)=false:=aj
     simp only[e,aU,aT];by_cases v:(qL t.bC j.dR).iF=j.iF
     .have e:((qL t.bC j.dR).iF != j.iF)=false:=aj
      rw[e,l,aO (show ¬((qL t.bC j.dR).jC≠0\/(qL t.bC j.dR).iF≠j.iF) from λq=>q.elim (λh=>h n) λh=>h v)];rfl
     .have e:((qL t.bC j.dR).iF != j.iF)=true:=aj
      rw[e,ab,aM (.inr v)];rfl
    .have e:((qL t.bC j.dR).jC != 0)=true:=aj
     simp only[e,aS];rw[ab,aM (.inl n)];rfl
end
def aEC(t:Table)(w:Int)(p:aA×aK):Table:={t with aA:=p.1,aH:=t.aH.set w.toNat p.2}
section
variable {t:Table} {w:Int} (h3:t.aH.length=3) (h2:t.bC.length=2) (hb:lD t.aA) (hw:0<=w/\w<=2) (hj:JB (iG t w))
include h3 h2 hb hw hj
theorem bFD:xL t w=some (aEC t w (aV0 t.aA w (iG t w))):=by
 unfold xL aV0 aEC;rw[AU h3 hw,aE,aLT hb hw,aE];generalize iG t w=j at *;generalize gZ t.aA w j.Sub=r;cases c:r.2.eG
 .rfl
 .simp only[c,eP,aU,aT,reduceCtorEq];by_cases b:j.Pc=0
  .grind
  .have e:(j.Pc == 0)=false:=aj
   simp only[e,aU,aT,aO b];by_cases a:j.Pc=20
   .have e:(j.Pc == 20)=true:=aj
    simp only[e,aS,aM a];rfl
   grind
theorem a94:DN t w=some (aEC t w (a5M t.aA w (iG t w))):=by
 obtain⟨m,g,l,k,i⟩:=Y2 h3 h2 hb hw hj;have a:=AU h3 hw;have o:=hj.k;have n:=hj.new.1;unfold DN a5M aEC;rw[a,aE,aJQ g,aE];generalize f:iG t w=j at *;have b:∀x y:aK,(t.aH.set w.toNat x).set w.toNat y=t.aH.set w.toNat y:=λx y=>O2 ..;have c:∀x:aK,idx (t.aH.set w.toNat x) w=some x:=λx=>aEB ⟨hw.1,aa⟩;unfold EI;by_cases d:mQ j.aL j.aL.length<=j.K
 .grind
 .rw[dV d,fF,aO d,a,aE,aLT hb hw,aE];generalize gZ t.aA w j.Sub=r;cases h:r.2.eG
  .rfl
  .have ab:jA w true {t with aA:=r.1,aH:=t.aH.set w.toNat {j with Sub:=r.2}}=some {t with aA:=r.1,aH:=t.aH.set w.toNat (abF {j with Sub:=r.2} r.2.Code)}:=by simp_all[jA,dP,abF]
   have go:j.eC.length<6->jA w false {t with aA:=r.1,aH:=t.aH.set w.toNat {j with Sub:=r.2}}=some {t with aA:=r.1,aH:=t.aH.set w.toNat {j with eC:=j.eC++[r.2.Out],K:=j.K+1,Sub:=UC 1 16}}:=λq=>by simp only[jA,aU,aT,c,aE,b,EH,fJ,EG];rw[EP,cY];rfl
   simp only[h,eP,aU,aT,reduceCtorEq];by_cases p:r.2.Code=0
   .have e:(r.2.Code != 0)=false:=aj
    simp only[e,aU,aT,hO,aE];grind
   grind
theorem bFE:uG t w=some (a2J t w (a92 t.bC w (iG t w))):=by
 have a:=AU h3 hw;have g:=hj.k;have e:=hj.reads.1;unfold uG xQ a92 a2J;rw[a,aE,aE];generalize d:iG t w=j at *;by_cases f:(j.Reads.length:Int)<=j.K
 .grind
 .have h:j.K.toNat<j.Reads.length:=aa
  have c:rdN j=j.Reads[j.K.toNat]:=by grind[rdN]
  have b:=e j.Reads[j.K.toNat] (dO h);rw[aO aj,aO f,aE,eQ g.1 aa,aE,<-c];rw[<-c] at b;unfold xP xO;rw[MJ h2 b,aE,cY];have ab:hY t w true=some {t with aH:=t.aH.set w.toNat (abF j 7)}:=by simp_all[hY,dP,abF]
  have go:hY t w false=some {t with aH:=t.aH.set w.toNat {j with K:=j.K+1}}:=by simp only[hY,aU,aT,a,aE];grind[cK]
  grind
theorem aV1{l:bo}(k:l.length<=1000)(f:Seen->Bool)(g:Seen->ay)(d:∀x,g x=some (f x)):kE l g=some (l.any f):=by
 have e:g=λx=>some (f x):=funext d;rw[e];unfold kE;rcases aMJ (s:=l) (p:=f) aa with ⟨j,h,a,h2,h3⟩|⟨a,h3⟩
 .rw[h3,aE,cB aa];congr 1;exact(List.any_eq_true.2 ⟨l[j],dO h,h2⟩).symm
 .rw[h3,aE,dV aa];congr 1;refine(List.any_eq_false.2 λx b=>?_).symm;obtain⟨i,c,rfl⟩:=aPX b;simp[a i c]
def bOJ(t:Table)(w:Int)(p:ba×aK×Bool):Table:={t with bC:=p.1,aH:=t.aH.set w.toNat p.2.1,Log:=t.Log++if p.2.2 then [⟨2,w,(iG t w).aG,0,[],[]⟩] else []}
theorem bIU(M:t.Log.length<=1000000):GZ t w=some (bOJ t w (aZO t.bC w (iG t w))):=by
 obtain⟨J,I,H,G,F⟩:=Y2 h3 h2 hb hw hj;have b:=AU h3 hw;have C:=hj.k;have D:=hj.held;have i:=hj.wr;unfold GZ aZO bOJ;rw[b,aE,aOY (by have:=i.1;omega) (λx p=>(i.2.1 x p).1),aE];generalize o:iG t w=j at *;have f:∀x y:aK,(t.aH.set w.toNat x).set w.toNat y=t.aH.set w.toNat y:=λx y=>O2 ..;have g:∀x:aK,idx (t.aH.set w.toNat x) w=some x:=λx=>aEB ⟨hw.1,aa⟩;have m:j.bM.length<=2:=by
  match h:j.bM,D with
  |[],_=>simp
  |[_],_=>simp
  |[_,_],_=>simp
  |x::y::z::r,⟨hm,L⟩=>
   (simp_all;omega)
 by_cases u:j.K<(tQ j.aL).length
 .have N:j.K.toNat<(tQ j.aL).length:=aa
  have E:i6 j=(tQ j.aL)[j.K.toNat]:=by grind[i6]
  have k:0<=i6 j/\i6 j<=1:=by grind[aSW,dO]
  rw[aM aj,aM u,eQ C.1 u,aE,<-E,MJ h2 k,aE];have ab:jK t w (tQ j.aL) (i6 j) true=some {t with aH:=t.aH.set w.toNat (abF j 7)}:=by simp_all[jK,dP,abF]
  have en:∀x:aK,x.K=j.K->x.aG=j.aG->p5 t w (tQ j.aL) (i6 j) (qL t.bC (i6 j)) (t.aH.set w.toNat x) =
    some {t with bC:=t.bC.set (i6 j).toNat {qL t.bC (i6 j) with jC:=w+1},aH:=t.aH.set w.toNat (if(tQ j.aL).length<=j.K+1 then {x with K:=0,Pc:=8} else {x with K:=j.K+1}),Log:=t.Log++if(tQ j.aL).length<=j.K+1 then [⟨2,w,j.aG,0,[],[]⟩] else []}:=λx p A=>by
   simp only[p5,pZ,xN,g,f,aE,p,A];rw[cY,cY];by_cases l:((tQ j.aL).length:Int)<=j.K+1
   .rw[aM aj,EP,aM l,aM l]
   grind
  have go:jK t w (tQ j.aL) (i6 j) false=some (if(qL t.bC (i6 j)).iF=1000000 then {t with aH:=t.aH.set w.toNat (abF j 3)} else
    {t with bC:=t.bC.set (i6 j).toNat {qL t.bC (i6 j) with jC:=w+1},aH:=t.aH.set w.toNat (if(tQ j.aL).length<=j.K+1 then {aLU j with K:=0,Pc:=8} else aLU j),Log:=t.Log++if(tQ j.aL).length<=j.K+1 then [⟨2,w,j.aG,0,[],[]⟩] else []}):=by
   unfold jK;rw[fF,MJ h2 k,aE];by_cases d:(qL t.bC (i6 j)).iF=1000000
   .simp_all[dP,abF]
   .have e:((qL t.bC (i6 j)).iF == 1000000)=false:=aj
    simp only[e,aU,aT,aO d,b,aE];rw[contains_eq (by grind[maxLen]),aE];by_cases hm:i6 j∈j.bM
    .rw[cB hm,fF];have:=en j rfl rfl;rw[show t.aH.set w.toNat j=t.aH by
      rw[<-o];unfold iG;rw[MQ,mA (show w.toNat<t.aH.length by omega)];simp] at this
     simp_all[aLU]
    .rw[dV hm,aM ak,EP];unfold H8;rw[en {j with bM:=j.bM++[i6 j]} rfl rfl];unfold aLU;rw[aO hm]
  have fin:∀B:Bool,jK t w (tQ j.aL) (i6 j) B=some (if B=true then {t with aH:=t.aH.set w.toNat (abF j 7)} else if(qL t.bC (i6 j)).iF=1000000 then {t with aH:=t.aH.set w.toNat (abF j 3)} else
    {t with bC:=t.bC.set (i6 j).toNat {qL t.bC (i6 j) with jC:=w+1},aH:=t.aH.set w.toNat (if(tQ j.aL).length<=j.K+1 then {aLU j with K:=0,Pc:=8} else aLU j),Log:=t.Log++if(tQ j.aL).length<=j.K+1 then [⟨2,w,j.aG,0,[],[]⟩] else []}):=λB=>by
   cases B
   .simp only[aU,aT];exact go
   .simp only[aS];exact ab
  have cf:kE j.Reads (λv=>AM v (i6 j) (qL t.bC (i6 j)))=some (j.Reads.any λs=>s.dR == i6 j && s.iF != (qL t.bC (i6 j)).iF):=
   aV1 h3 h2 hb hw aj aa _ _ λx=>by unfold AM sM;cases x.dR == i6 j<;>rfl
  by_cases n:(qL t.bC (i6 j)).jC=0
  .have e:((qL t.bC (i6 j)).jC != 0)=false:=aj
   simp only[e,aU,aT];rw[cf,aE,fin];by_cases c:(j.Reads.any λs=>s.dR == i6 j && s.iF != (qL t.bC (i6 j)).iF)=true
   .grind
   .rw[aO c,aO (show ¬((qL t.bC (i6 j)).jC≠0\/(j.Reads.any λs=>s.dR == i6 j && s.iF != (qL t.bC (i6 j)).iF)=true) from λq=>q.elim (λa=>a n) c)];by_cases d:(qL t.bC (i6 j)).iF=1000000
    .rw[aM d,aM d];simp
    .rw[aO d,aO d];by_cases l:((tQ j.aL).length:Int)<=j.K+1
     .simp only[aM l];rfl
     .simp only[aO l];rfl
  grind
 .rw[aO aj,aO u];unfold pZ xN;rw[b,aE,cX,EP,aE];rfl
end
def a5Q(t:Table)(w:Int)(p:aA×ba×aK):Table:={t with aA:=p.1,bC:=p.2.1,aH:=t.aH.set w.toNat p.2.2}
theorem aTK(a:0<=j.K/\j.K<=100)(x:aW):rK j x=some (plF j x):=by
 unfold rK plF;cases x.NP
 .rfl
 .simp only[aS];grind[cK]
theorem bFF(a:0<=j.K):nD j=some (a2H j):=by
 unfold nD a2H;by_cases h:j.K<j.bW.length
 .have b:j.K.toNat<j.bW.length:=aa
  rw[aM aj,aM h,eQ a h,aE];simp only[fJ,aE,vO,MQ,mA b,Option.getD_some];rfl
 grind
def a5R(a:lX m)(e:0<=w/\w<=2)(x:Int):∃c,R4 m w x=some (a2I m w x,c):=by
 obtain⟨d,n,l,p,o,f,j,i,h,g⟩:=lX.facts a;have b:m.Heap.Bytes.length<=maxLen:=by grind[maxLen]
 unfold R4 a2I;rw[FX b aa,cB a,aE,fF,jM,cB e,aE];unfold G3;rw[fF,CN a.1.1.1 aa aa aa,aE];by_cases k:lE m x
 .obtain⟨m',r,q,_,_⟩:=aZC a e k;simp_all[aJU]
 simp_all[PJ]
def bIV{l:List O}{a b:Nat}(c:a<=b)(d:b<=l.length):((dM l a (l.drop b)).take (a+(l.length-b))).drop 0=l.take a++l.drop b:=by
 have f:(l.take a).length=a:=aj
 have e:(l.drop b).length=l.length-b:=ae
 unfold dM;rw[QL,aHJ (l:=l.drop b) aa,<-QX,show a+(l.length-b)=(l.take a++l.drop b).length by grind];grind
theorem a2K{l:al}(h:0<l.length)(a:l.length<=1000):sN l 0 1=some (l.drop 1):=by
 unfold sN;rw[PH,fF,PH,PH,b7 ai,bIV ai (show Int.toNat 1<=l.length from h),b7]
 .rfl
 .rw[gG ae];simp only[O0,XB,aHG,Int.toNat_zero];omega
section
variable {t:Table} {w:Int} (h3:t.aH.length=3) (h2:t.bC.length=2) (hb:lD t.aA) (hw:0<=w/\w<=2) (hj:JB (iG t w))
include h3 h2 hb hw hj
theorem bFG:DO t w=some (a5Q t w (aTI t.aA t.bC (iG t w))):=by
 obtain⟨P,F,O,N,M⟩:=Y2 h3 h2 hb hw hj;have a:=AU h3 hw;have J:=hj.k;have i:=hj.wr;have B:=hj.old.1;unfold DO EN aTI a5Q;rw[a,aE,aE];generalize C:iG t w=j at *;have p:∀x y:aK,(t.aH.set w.toNat x).set w.toNat y=t.aH.set w.toNat y:=λx y=>O2 ..;have q:∀x:aK,idx (t.aH.set w.toNat x) w=some x:=λx=>aEB ⟨hw.1,aa⟩;by_cases I:(j.aL.length:Int)<=j.K
 .grind
 .have K:j.K.toNat<j.aL.length:=aa
  have z:wrN j=j.aL[j.K.toNat]:=by grind[wrN]
  have G:=i.2.1 j.aL[j.K.toNat] (dO K);rw[<-z] at G;have o:0<=ER (wrN j).Key/\ER (wrN j).Key<=1:=by unfold ER;omega
  rw[aO aj,aO I,aE,eQ J.1 aa,aE,<-z];unfold EM;rw[W2,aE,MJ h2 o,aE,a,aE];generalize wrN j=x at *;generalize E:ER x.Key=bi at *;have ex:(⟨x.Key,x.NP,x.cT⟩:aW)=x:=rfl;rw[ex];by_cases r:j.Pc=9
  .have e:(j.Pc == 9)=true:=aj
   simp only[e,aS,aM r];by_cases hh:(qL t.bC bi).Head=0
   .have e:((qL t.bC bi).Head == 0)=true:=aj
    simp only[e,aS,aM hh];grind[aTK]
   grind
  .have e : (j.Pc == 9) = false:=aj
   simp only[e,aU,aT,aO r];by_cases h:j.Pc=10
   .have e:(j.Pc == 10)=true:=aj
    simp only[e,aS,aM h];obtain⟨c,e⟩:=aW1 hb.1.1 j.H;rw[e,aE];simp only;by_cases d:(W6 t.aA.Mem.Heap j.H).Key=x.Key
    .grind
    .have e:((W6 t.aA.Mem.Heap j.H).Key == x.Key)=false:=aj
     simp only[e,aU,aT,aO d,aZM,aE];by_cases H:W7 (W6 t.aA.Mem.Heap j.H)=0
     .have e:(W7 (W6 t.aA.Mem.Heap j.H) == 0)=true:=aj
      simp only[e,aS,aM H];grind[aTK]
     simp_all[EJ]
   .have e:(j.Pc == 10)=false:=aj
    simp only[e,aU,aT,aO h];by_cases g:j.Pc=11
    .have e:(j.Pc == 11)=true:=aj
     simp only[e,aS,aM g];have cut:∀u:Table,u.aH=t.aH->oR w x.Key x.NP x.cT u=some {u with aH:=t.aH.set w.toNat (plF (aTH j) x)}:=λu R=>by
      have m:idx u.aH w=some j:=aj
      have b:∀v:Table,∀y:aK,idx v.aH w=some y->(0<=y.K/\y.K<=100)->oQ w x.Key x.NP x.cT v=some {v with aH:=v.aH.set w.toNat (plF y x)}:=λv y Q A=>by simp_all[oQ,aTK]
      unfold oR uH EK aTH;rw[m,aE,hO,aE];by_cases hh:j3 j.H
      .rw[cB hh,aM rfl];by_cases L:j.bW.length<6
       .rw[cB aa,aM rfl,aE,EP,b _ {j with bW:=j.bW++[j.H]} aj aj,aM ⟨hh,L⟩];grind
       grind
      grind
     by_cases k:j.jH=0
     .simp_all[aZM]
     .have e:(j.jH == 0)=false:=aj
      simp only[e,aU,aT,aO k,aZM,aE];obtain⟨c,e⟩:=a9Y hb.1.1 j.jH (W7 j.Node);grind[EL]
    .have e:(j.Pc == 11)=false:=aj
     simp only[e,aU,aT,aO g];have l:0<=mQ j.aL j.K:=by grind[mQ]
     have n:t.bC.set bi.toNat (qL t.bC bi)=t.bC:=by grind[qL,aPY]
     unfold P4;rw[aJQ F,aE];by_cases s:(j.eC.length:Int)<=mQ j.aL j.K
     .rw[aM aj,aM s];simp only[dP,aE,n];rfl
     .have D:(mQ j.aL j.K).toNat<j.eC.length:=aa
      have en:aTG j=j.eC[(mQ j.aL j.K).toNat]:=by grind[aTG]
      rw[aO aj,aO s,eQ l aa,<-en];by_cases f:j.Pc=12
      .have e:(j.Pc == 12)=true:=aj
       simp only[e,aS,aM f,aE];obtain⟨c,e⟩:=a5J hb.1.1 (aTG j) ⟨x.Key,x.cT,(qL t.bC bi).Head⟩;grind[H9]
      .have e:(j.Pc == 12)=false:=aj
       simp only[e,aU,aT,aO f,aE];grind[cK]
def a75(t:Table)(w:Int)(p:ba×aK):Table:={t with bC:=p.1,aH:=t.aH.set w.toNat p.2}
theorem a95(o:∀x∈t.bC,BkV x):AN t w=some (a75 t w (aVZ t.bC (iG t w))):=by
 have c:=AU h3 hw;have m:=hj.held;unfold AN aVZ a75;rw[c,aE];generalize p:iG t w=j at *;have g:j.bM.length<=2:=by
  match h:j.bM,m with
  |[],_=>simp
  |[_],_=>simp
  |[_,_],_=>simp
  |x::y::z::r,⟨hm,q⟩=>
   (simp_all;omega)
 by_cases f:0<j.bM.length
 .have n:QW j=j.bM[0]:=by grind[QW]
  have d:=m.1 j.bM[0] (dO f);rw[<-n] at d;have i:BkV (qL t.bC (QW j)):=by grind[qL]
  have l:=i.2.1;rw[aM aj,aM f,show(0:Int)=((0:Nat):Int) from rfl,aZ f,aE,<-n,MJ h2 d,aE];have un:∀k,nE t w k=some {t with bC:=k,aH:=t.aH.set w.toNat {j with bM:=j.bM.drop 1}}:=λk=>by grind[nE,a2K]
  by_cases b:j.Pc=14
  .have e:(j.Pc == 14)=true:=aj
   simp only[e,aS,aM b];grind[cK]
  .have e:(j.Pc == 14)=false:=by simpa using b
   simp only[e,aU,aT,aO b];rw[un]
 .rw[aO (by simpa using f),aO f];by_cases a:j.Pc=16
  .have e:(j.Pc == 16)=true:=by simpa using a
   simp only[e,aS,aM a]
  .have e:(j.Pc == 16)=false:=by simpa using a
   simp only[e,aU,aT,aO a];rw[bFF (j:={j with Pc:=15,K:=0}) (Int.le_refl _)];rfl
theorem a5S:AO t w=some (aEC t w (a5O t.aA w (iG t w))):=by
 have a:=AU h3 hw;have e:=hj.k;unfold AO B6 a5O aEC;rw[a,aE,aE];generalize b:iG t w=j at *;by_cases c:(j.bW.length:Int)<=j.K
 .grind
 .rw[aO aj,aO c,aE,aLT hb hw,aE];generalize gZ t.aA w j.Sub=r;cases d:r.2.eG
  .simp
  .simp only[d,aS];grind[cK,bFF]
theorem drop_eq:G4 t w=some (aEC t w (a5P t.aA w (iG t w))):=by
 have b:=AU h3 hw;have i:=hj.new;unfold G4 a5P aEC;rw[b,aE];generalize g:iG t w=j at *;by_cases h:j.eC.length=0
 .grind
 .have a:0<j.eC.length:=aa
  have f:j.eC.getD 0 0=j.eC[0]:=aj
  have hh:=i.2 j.eC[0] (dO a);rw[<-f] at hh;rw[aO aj,aO h,show(0:Int)=((0:Nat):Int) from rfl,aZ a,aE,<-f,show((0:Nat):Int)=0 from rfl,a2K a aa,aE,(j3.mod hh).1,QG hb.1.2.2.1,aE];by_cases d:bM t.aA.aQ (j.eC.getD 0 0 % 32)
  .grind
  .rw[dV d,aM ak,aO d];obtain⟨c,e⟩:=a5R hb.1.1 hw (j.eC.getD 0 0);rw[e];rfl
theorem a5T(d:t.Log.length<=1000000):xR t w=some {t with aH:=t.aH.set w.toNat W8,Log:=t.Log++[tlE w (iG t w)]}:=by
 have a:=AU h3 hw;unfold xR tlE;rw[a,aE];generalize c:iG t w=j at *;by_cases b:j.Code=0
 .have e:(j.Code == 0)=true:=aj
  simp only[e,aS,aM b];rw[EP];rfl
 .have e:(j.Code == 0)=false:=aj
  simp only[e,aU,aT,aO b];rw[EP];rfl
end
theorem a96{b:aA}(d:lD b)(a:0<=w/\w<=2):∃c,lV b w=some (c,{b with aI:=(aAH b.aI w).1}):=by obtain⟨r,e,f,_,_⟩:=aJ0 d.1.2.1 a;rw[YY d.1.2.1 a] at e;simp_all[lV]
section
variable {t:Table} {w:Int} (h3:t.aH.length=3) (h2:t.bC.length=2) (hb:lD t.aA) (hw:0<=w/\w<=2)
include h3 h2 hb hw
theorem bIW(n:t.aY.length=3)(f:∀q∈t.aY,q.List.length<=12/\∀b∈q.List,aEA b)(u:0<=t.aG/\t.aG<=1000000)(v:t.Log.length<=1000000) :
  DL t w=some (if(UD t w).length=0\/t.aG=1000000 then t else a93 t w ((UD t w).getD 0 ⟨false,[]⟩)):=by
 have h:w.toNat<t.aY.length:=aa
 have j:idx t.aY w=some ⟨UD t w⟩:=by simp_all[eQ,UD]
 have g:(⟨UD t w⟩:aR)∈t.aY:=by unfold UD;rw[MQ,mA h];exact dO _
 have a:=f _ g;simp only at a;unfold DL;rw[j,aE];simp only;by_cases s:(UD t w).length=0
 .simp_all[oN]
 .have e:(((UD t w).length:Int) == 0)=false:=aj
  rw[aO (by rw[e];simp)];unfold oN;by_cases hm:t.aG=1000000
  .grind
  .have e:(t.aG == 1000000)=false:=aj
   have c:0<(UD t w).length:=aa
   have l:(UD t w).getD 0 ⟨false,[]⟩=(UD t w)[0]:=aj
   have d:=a.2 (UD t w)[0] (dO c);rw[<-l] at d;rw[aO (by rw[e];simp),j,aE];simp only;have p:idx (UD t w) 0=some ((UD t w)[0]):=aZ c;rw[p,aE,<-l,aO (λq=>q.elim s hm)];unfold QP;rw[PH,aE];generalize o:(UD t w).getD 0 ⟨false,[]⟩=b at *;simp only[fJ,aE];unfold EF;have fin:∀x:aK,x.aG=t.aG+1->x.Batch.Collect=b.Collect->oL t w ⟨UD t w⟩ b x=some ⟨t.aA,t.bC,t.aH.set w.toNat {x with Batch:=⟨x.Batch.Collect,b.b8⟩,Reads:=[],aL:=[],eD:=[],eC:=[],bM:=[],bW:=[]},t.aY.set w.toNat ⟨(UD t w).drop 1⟩,t.Log++[⟨1,w,t.aG+1,0,b.b8,[]⟩],t.aG+1⟩:=λx r _=>by unfold oL vK EE;rw[AU h3 hw,aE,b7 (by have:=d.2.1;simp;omega),aE,EP,r,cY];rfl
   have m:bB (t.aG+1)=t.aG+1:=cY;unfold a93 UE;cases k:b.Collect
   .rw[fF,fin _ aa aj];simp only[m,k,aU,aT];have i:(⟨false,b.b8⟩:Batch)=b:=by cases b;grind
    rw[i];rfl
   .rw[aM rfl];simp only[fJ,aE];rw[fin _ aa aj];simp only[m,k,aS];have i:(⟨true,b.b8⟩:Batch)=b:=by cases b;grind
    rw[i];rfl
end
def aAO(t:Table)(w:Int)(p:aA×aK):aFD t w ⟨p.1,t.bC,p.2,[]⟩=aEC t w p:=by grind[aFD,aEC]
def bFH(b:TV t)(s:t.Log.length<=1000000)(c:0<=w/\w<=2):G5 t w=some (CQ t w):=by
 have d:=b.a3M.1;have j:=b.bk.1;have i:=b.base;have f:=AU d c;have n:=b.a3M.2 _ (aZP d c);unfold G5 CQ;rw[f,aE];cases a:(iG t w).gW
 .simp only[oH,aS,aU,aT];rw[bIW d j i c b.todo.1 b.todo.2 b.ser s];rfl
 .have u : JB (iG t w):=n.resolve_left λe=>by rw[e] at a; cases a
  simp only[eP,aU,aT,aS];unfold doF;by_cases z:(iG t w).Pc=0\/(iG t w).Pc=20\/(iG t w).Pc=21
  .rw[aM z,aAO];have go:kU t w (iG t w) true=some (aEC t w (aV0 t.aA w (iG t w))):=by simp_all[kU,bFD]
   grind
  .rw[aO z];have D:((iG t w).Pc == 0)=false:=ah
   have p:((iG t w).Pc == 20)=false:=ah
   have o:((iG t w).Pc == 21)=false:=ah
   simp only[D,p,o,aU,aT];unfold kU;simp only[aU,aT,eT,aE];by_cases C:(iG t w).Pc=1
   .have e:((iG t w).Pc == 1)=true:=aj
    simp_all[Y2,bFC,aFD]
   .have e : ((iG t w).Pc == 1) = false:=aj
    simp only[e,aU,aT,aO C];by_cases y:2<=(iG t w).Pc/\(iG t w).Pc<=5
    .simp_all[bIT,aFD,a2J]
    .simp only[dV y,aU,aT,aO y];by_cases B:(iG t w).Pc=6
     .simp_all[a94,aAO]
     .have e : ((iG t w).Pc == 6) = false:=aj
      simp only[e,aU,aT,aO B];by_cases x:(iG t w).Pc=7
      .have e:((iG t w).Pc == 7)=true:=aj
       simp only[e,aS,aM x];rw[bIU d j i c u s];rfl
      .have e : ((iG t w).Pc == 7) = false:=aj
       simp only[e,aU,aT,aO x];by_cases A:(iG t w).Pc=8
       .simp_all[bFE,aFD,a2J]
       .have e : ((iG t w).Pc == 8) = false:=aj
        simp only[e,aU,aT,aO A];by_cases v:9<=(iG t w).Pc/\(iG t w).Pc<=13
        .simp_all[bFG,aFD,a5Q]
        .simp only[dV v,aU,aT,aO v];by_cases h:(iG t w).Pc=14\/(iG t w).Pc=16
         .rw[aM h];have go:mL t w (iG t w) true=some (a75 t w (aVZ t.bC (iG t w))):=by unfold mL;rw[aM rfl,a95 d j i c u b.bk.2];rfl
          grind[a75,aFD]
         .have r:((iG t w).Pc == 14)=false:=ah
          have q:((iG t w).Pc == 16)=false:=ah
          simp only[r,q,aU,aT,aO h];unfold mL;simp only[aU,aT];by_cases m:(iG t w).Pc=15
          .simp_all[a5S,aAO]
          .have e:((iG t w).Pc == 15)=false:=aj
           simp only[e,aU,aT,aO m];by_cases l:(iG t w).Pc=17
           .simp_all[drop_eq,aAO]
           .have e:((iG t w).Pc == 17)=false:=aj
            simp only[e,aU,aT,aO l];by_cases g:(iG t w).Pc=18
            .have e:((iG t w).Pc == 18)=true:=aj
             simp only[e,aS,aM g];grind[a96,aFD]
            .have e:((iG t w).Pc == 18)=false:=aj
             simp only[e,aU,aT,aO g];by_cases k:(iG t w).Pc=19
             .have e:((iG t w).Pc == 19)=true:=aj
              simp only[e,aS,aM k];rw[a5T d j i c u s];rfl
             simp_all[aFD,dP,abF]
def a2L(o:aw)(x:aW):aw:=o.takeWhile (λy=>!decide (x.Key<y.Key))++[x]++o.dropWhile (λy=>!decide (x.Key<y.Key))
theorem aW6(y:aW)(r:aw)(x:aW):a2L (y::r) x=if x.Key<y.Key then x::y::r else y::a2L r x:=by grind[a2L,List.takeWhile_cons,List.dropWhile_cons]
theorem a2M(o:aw)(x z:aW):z∈a2L o x↔z=x\/z∈o:=by
 induction o with
 |nil=>simp[a2L]
 |cons y r a=>
  grind[aW6]
def a2N{o:aw}{x:aW}(e:o.Pairwise (λa b=>a.Key<b.Key))(d:∀y∈o,y.Key≠x.Key):(a2L o x).Pairwise (λa b=>a.Key<b.Key):=by
 induction o with
 |nil=>simp[a2L]
 |cons y r c=>
  grind[aW6,a6D,a2M]
def bFI(h:WrV l){x:aW}(b:(0<=x.Key/\x.Key<=99)/\(0<=x.cT/\x.cT<=65535))(c:(aF9 l x).length<=6):WrV (aF9 l x):=by
 refine⟨c,λy a=>?_,?_⟩
 .rcases(a2M _ _ _).1 (show y∈a2L _ x from a) with rfl|a
  .exact b
  .exact h.2.1 y (List.mem_filter.1 a).1
 .exact a2N (h.2.2.sublist List.filter_sublist) λy a=>aj
def bFJ{a b:Int}(d:0<=a/\a<=4294967295)(c:0<=b/\b<=65535):0<=aHA a b/\aHA a b<=65535:=by grind[aHA,cK]
section
variable {j:aK} (hj:JB j)
include hj
theorem JB.ab(c:Int):JB (abF j c):=⟨hj.busy,hj.bat,hj.h,hj.prev,hj.bkt,hj.at_,hj.k,hj.new,hj.old,hj.reads,hj.wr,hj.held,hj.res,hj.node⟩
theorem JB.pc(p:Int):JB {j with Pc:=p}:=⟨hj.busy,hj.bat,hj.h,hj.prev,hj.bkt,hj.at_,hj.k,hj.new,hj.old,hj.reads,hj.wr,hj.held,hj.res,hj.node⟩
theorem JB.sub(s:Sub):JB {j with Sub:=s}:=⟨hj.busy,hj.bat,hj.h,hj.prev,hj.bkt,hj.at_,hj.k,hj.new,hj.old,hj.reads,hj.wr,hj.held,hj.res,hj.node⟩
theorem JB.kk{k:Int}(h:0<=k/\k<=6):JB {j with K:=k}:=⟨hj.busy,hj.bat,hj.h,hj.prev,hj.bkt,hj.at_,h,hj.new,hj.old,hj.reads,hj.wr,hj.held,hj.res,hj.node⟩
theorem JB.nd{n:fS}(h:0<=n.cT/\n.cT<=4294967295):JB {j with Node:=n}:=⟨hj.busy,hj.bat,hj.h,hj.prev,hj.bkt,hj.at_,hj.k,hj.new,hj.old,hj.reads,hj.wr,hj.held,hj.res,h⟩
theorem JB.hh(h:fH x):JB {j with H:=x}:=⟨hj.busy,hj.bat,h,hj.prev,hj.bkt,hj.at_,hj.k,hj.new,hj.old,hj.reads,hj.wr,hj.held,hj.res,hj.node⟩
theorem JB.pv(h:fH x):JB {j with jH:=x}:=⟨hj.busy,hj.bat,hj.h,h,hj.bkt,hj.at_,hj.k,hj.new,hj.old,hj.reads,hj.wr,hj.held,hj.res,hj.node⟩
theorem JB.rd2:j.Reads.length<=2:=by
 have a:=hj.reads.2;have b:∀x∈j.Reads.map Seen.dR,x=0\/x=1:=λx c=>by obtain⟨s,d,rfl⟩:=aL1.1 c;have:=hj.reads.1 s d;omega
 have e:(j.Reads.map Seen.dR).length<=2:=by
  match h:j.Reads.map Seen.dR,a,b with
  |[],_,_=>simp
  |[_],_,_=>simp
  |[_,_],_,_=>simp
  |x::y::z::r,a,b=>
   (simp_all;omega)
 grind
theorem JB.cmd(h:QK j):aFE (fP j):=by
 have b:=hj.at_;have a:j.At.toNat<j.Batch.b8.length:=by grind[QK]
 unfold fP;rw[MQ,mA a];exact hj.bat.2.2.1 _ (dO a)
theorem JB.aO1(h:QK j)(is:Bool)(v:Int):JB (Gv.aO1 j is v):=by have c:j.At<j.Batch.b8.length:=h;have b:=hj.at_;have a:=hj.res;exact⟨hj.busy,hj.bat,hj.h,hj.prev,hj.bkt,⟨by show 0<=j.At+1;omega,by show j.At+1<=(j.Batch.b8.length:Int);omega⟩,hj.k,hj.new,hj.old,hj.reads,hj.wr,hj.held,by show(((j.eD++[_]).length:Nat):Int)=j.At+1;simp;omega,hj.node⟩
theorem JB.rcw{x:aW}(a:(0<=x.Key/\x.Key<=99)/\(0<=x.cT/\x.cT<=65535)):JB (I7 j x).2:=by
 unfold I7;split
 .exact hj.ab 1
 .exact⟨hj.busy,hj.bat,hj.h,hj.prev,hj.bkt,hj.at_,hj.k,hj.new,hj.old,hj.reads,bFI hj.wr a aa,hj.held,hj.res,hj.node⟩
theorem aTL(x:aW):(I7 j x).2.Batch=j.Batch:=by grind[I7,abF]
theorem JB.ans(h:QK j){c:oV}(d:aFE c){v:Int}(e:0<=v/\v<=4294967295)(is:Bool):JB (aVY j c v is):=by
 unfold aVY;split
 .have a:0<=(if is then v else 0)/\(if is then v else 0)<=4294967295:=aa
  generalize (if is then v else 0)=u at a;unfold a91;have b:=hj.rcw (x:=⟨c.Key,false,aHA u c.cT⟩) ⟨d.2.1,bFJ a d.2.2.1⟩;split
  .refine b.aO1 ?_ _ _;grind[QK,aTL,Y1]
  .exact b
 .exact hj.aO1 h _ _
theorem JB.jnx:JB (a5L j):=by
 unfold a5L;split
 .rename_i h;have b:=hj.cmd h;have f:j.At<j.Batch.b8.length:=h;have e:=hj.at_;have d:=hj.res;split
  .have a:=hj.rcw (x:=⟨(fP j).Key,(fP j).Kind == 3,(fP j).cT⟩) ⟨b.2.1,b.2.2.1⟩;split
   .refine⟨a.busy,a.bat,a.h,a.prev,a.bkt,⟨aj,?_⟩,a.k,a.new,a.old,a.reads,a.wr,a.held,aj,a.node⟩;grind[aTL]
   .exact a
  .split
   .refine hj.ans h b ?_ _;unfold aFB;split
    .rename_i x c;have:=hj.wr.2.1 x (List.mem_of_find?_eq_some c);grind
    simp
   .exact⟨hj.busy,hj.bat,hj.h,hj.prev,by show 0<=ER _/\ER _<=1;unfold ER;rw[aM b.2.1];omega,hj.at_,hj.k,hj.new,hj.old,hj.reads,hj.wr,hj.held,hj.res,hj.node⟩
 .exact((hj.pc 6).kk (k:=0) aa).sub _
theorem JB.spt(b v:Int)(g:0<=b/\b<=1):JB {j with Reads:=(IZ j.Reads b v).1}:=by
 refine⟨hj.busy,hj.bat,hj.h,hj.prev,hj.bkt,hj.at_,hj.k,hj.new,hj.old,?_,hj.wr,hj.held,hj.res,hj.node⟩;show(∀s∈(IZ j.Reads b v).1,0<=s.dR/\s.dR<=1)/\((IZ j.Reads b v).1.map Seen.dR).Nodup;unfold IZ;split
 .exact hj.reads
 .rename_i e;refine⟨λs d=>?_,?_⟩
  .obtain d|d:=j4.1 d
   .exact hj.reads.1 s d
   grind
  .rw[D1,List.nodup_append];refine⟨hj.reads.2,ae,λa h c f=>?_⟩;grind
theorem JB.pl(h:j.K<j.aL.length)(x:aW):JB (plF j x):=by
 have b:=hj.k;have a:=hj.wr.1;unfold plF;split
 .exact(hj.pc 9).kk (k:=j.K+1) aa
 .exact hj.pc 12
theorem JB.bP6:JB (aTH j):=by
 unfold aTH;split
 .rename_i h;refine⟨hj.busy,hj.bat,hj.h,hj.prev,hj.bkt,hj.at_,hj.k,hj.new,⟨aj,λx a=>?_⟩,hj.reads,hj.wr,hj.held,hj.res,hj.node⟩;obtain a|a:=j4.1 a
  .exact hj.old.2 x a
  grind
 .exact hj
theorem JB.rtn:JB (a2H j):=by
 unfold a2H;split
 .exact hj.sub _
 .exact hj
end
def bIX{l:al}(h:wD l){a:Nat}(d:a+4<=l.length):0<=ld l a 4/\ld l a 4<=4294967295:=by
 rw[ld4 d];have b:∀k,k<l.length->0<=bt l k/\bt l k<=255:=λk c=>by rw[<-a46 c];exact h _ (dO c)
 grind
def a2O(a:lX m)(x:Int):0<=(W6 m.Heap x).cT/\(W6 m.Heap x).cT<=4294967295:=by
 unfold W6;split
 .rename_i h;have b:=(aAL h.2.1 h.2.2).1;have c:=a.1.1.1.1;exact bIX a.1.1.1.2.2.1 aa
 .show(0:Int)<=0/\(0:Int)<=4294967295;omega
def bFK(l:aw)(n:Int):mQ l n<=l.length:=by grind[mQ]
def bIY(b:k.length=2)(a:0<=i/\i<=1):qL k i∈k:=by grind[qL]
def aPU(h:k.length=2/\∀x∈k,BkV x)(i:Nat){y:dR}(a:BkV y):(k.set i y).length=2/\∀x∈k.set i y,BkV x:=⟨aj,λx b=>(nM b).elim (h.2 x) λe=>e ▸ a⟩
theorem bMJ{b:aA}(a:lD b)(g:0<=w/\w<=2)(i:j3 x)(hn:¬bM b.aQ (x % 32)):lD {b with Mem:=a2I b.Mem w x}:=by
 unfold a2I;by_cases f:lE b.Mem x
 .obtain⟨m',d,j,_,h⟩:=aZC a.1.1 g f;rw[aJU a.1.1 g f] at d;injection d with d
  rw[aM f,d];refine⟨⟨h.1,a.1.2⟩,λr c=>⟨h.live (a.2 r c).1 ?_,(a.2 r c).2⟩⟩;intro e;exact hn ⟨r,c,(a.2 r c).1.1,e⟩
 simp_all
structure TRV (r:TR):Prop where
 b:lD r.b
 k:r.k.length=2/\∀x∈r.k,BkV x
 j:r.j=W8\/JB r.j
def aO3{c:Prop}[Decidable c]{a b:TR}(e:c->TRV a)(d:¬c->TRV b):TRV (if c then a else b):=aj
def bMK{b:aA}(f:lD b)(g:k.length=2/\∀x∈k,BkV x)(H:0<=w/\w<=2)(d:JB j):TRV (doF b k w j):=by
 have Q:=d.k;have u:=d.wr;have N:=d.rd2;have v:=bIK f H j.Sub;have s:∀{i},0<=i/\i<=1->BkV (qL k i):=λE=>g.2 _ (bIY g.1 E);unfold doF;refine aO3 (λ_=>?_) λ_=>?_
 .refine⟨v,g,.inr ?_⟩;unfold aV0;split
  .exact d.sub _
  .split
   .exact(d.pc 1).sub _
   .split
    .exact(d.pc 21).sub _
    .exact(d.pc 19).sub _
 refine aO3 (λ_=>?_) λ_=>?_
 .exact⟨f,g,.inr d.jnx⟩
 refine aO3 (λ_=>?_) λ_=>?_
 .refine⟨f,g,.inr ?_⟩;unfold aTF;have m:=s d.bkt;split
  .split
   .exact d.ab _
   .have p:JB {j with iF:=(qL k j.dR).iF}:=⟨d.busy,d.bat,d.h,d.prev,d.bkt,d.at_,d.k,d.new,d.old,d.reads,d.wr,d.held,d.res,d.node⟩;have L:JB {j with iF:=(qL k j.dR).iF,Found:=false}:=⟨d.busy,d.bat,d.h,d.prev,d.bkt,d.at_,d.k,d.new,d.old,d.reads,d.wr,d.held,d.res,d.node⟩;exact((L.hh m.1).nd (n:=a2D) (by show(0:Int)<=0/\(0:Int)<=4294967295;omega)).pc _
  .split
   .exact(d.nd (a2O f.1.1 _)).pc _
   .split
    .split
     .exact d.ab _
     .split
      .have p:JB {j with Found:=j.Node.Key == (fP j).Key}:=⟨d.busy,d.bat,d.h,d.prev,d.bkt,d.at_,d.k,d.new,d.old,d.reads,d.wr,d.held,d.res,d.node⟩;exact(p.hh (aLR _)).pc _
      .exact d.ab _
    .split
     .exact d.ab _
     .have I:=d.spt j.dR j.iF d.bkt;split
      .exact I.ab _
      .split
       .rename_i h;exact I.ans h (d.cmd h) d.node _
       .exact I.ab _
 refine aO3 (λ_=>?_) λ_=>?_
 .unfold a5M;split
  .exact⟨f,g,.inr ((d.pc 7).kk (k:=0) aa)⟩
  .rename_i D;have:=bFK j.aL j.aL.length;have:=u.1;refine⟨v,g,.inr ?_⟩;simp only;split
   .exact d.sub _
   .split
    .exact(d.sub _).ab _
    .rename_i S;have U:j3 (gZ b w j.Sub).2.Out:=Classical.byContradiction λq=>S (.inr (.inl q));have T:j.eC.length<6:=aa
     refine⟨d.busy,d.bat,d.h,d.prev,d.bkt,d.at_,⟨aj,aj⟩,⟨aj,λx o=>?_⟩,d.old,d.reads,d.wr,d.held,d.res,d.node⟩;obtain o|o:=j4.1 o
     .exact d.new.2 x o
     grind
 refine aO3 (λ_=>?_) λ_=>?_
 .have V:=aY4 j.aL;unfold aZO;split
  .rename_i D;have E:j.K.toNat<(tQ j.aL).length:=aa
   have z:i6 j=(tQ j.aL)[j.K.toNat]:=by grind[i6]
   have m:0<=i6 j/\i6 j<=1:=by grind[aSW,dO]
   have l:=s m;have t:=aPU g (i6 j).toNat (y:={qL k (i6 j) with jC:=w+1}) ⟨l.1,l.2.1,aj⟩;have B:JB (aLU j):=by
    refine⟨d.busy,d.bat,d.h,d.prev,d.bkt,d.at_,⟨by show 0<=j.K+1;omega,by show j.K+1<=6;omega⟩,d.new,d.old,d.reads,d.wr,?_,d.res,d.node⟩;show(∀x∈(if i6 j∈j.bM then j.bM else j.bM++[i6 j]),0<=x/\x<=1)/\(if i6 j∈j.bM then j.bM else j.bM++[i6 j]).Nodup;split
    .exact d.held
    .rename_i hm;refine⟨λx o=>?_,?_⟩
     .obtain o|o:=j4.1 o
      .exact d.held.1 x o
      grind
     .rw[List.nodup_append];exact⟨d.held.2,ae,λa Y c X e=>aj⟩
   split
   .exact⟨f,g,.inr (d.ab _)⟩
   .split
    .exact⟨f,g,.inr (d.ab _)⟩
    .split
     .exact⟨f,t,.inr ((B.pc 8).kk (k:=0) aa)⟩
     .exact⟨f,t,.inr B⟩
  .exact⟨f,g,.inr ((d.pc 8).kk (k:=0) aa)⟩
 refine aO3 (λ_=>?_) λ_=>?_
 .refine⟨f,g,.inr ?_⟩;unfold a92;split
  .exact(d.pc 9).kk (k:=0) aa
  .split
   .exact d.ab _
   .exact d.kk (k:=j.K+1) aa
 refine aO3 (λ_=>?_) λ_=>?_
 .have M:=u.1;unfold aTI;split
  .exact⟨f,g,.inr (d.pc 14)⟩
  .rename_i D;have E:j.K.toNat<j.aL.length:=aa
   have z:wrN j=j.aL[j.K.toNat]:=by grind[wrN]
   have o:=u.2.1 j.aL[j.K.toNat] (dO E);rw[<-z] at o;have m:0<=ER (wrN j).Key/\ER (wrN j).Key<=1:=by unfold ER;omega
   have l:=s m;have R:fH 0:=.inl rfl;split
   .have p:=((d.pc 10).hh l.1).pv R;refine⟨f,g,.inr ?_⟩;simp only;split
    .exact p.pl aj _
    .exact p
   .split
    .have p:=d.nd (a2O f.1.1 j.H);refine⟨f,g,.inr ?_⟩;simp only;split
     .exact p.pc 11
     .split
      .exact p.pl aj _
      .exact(p.hh (aLR _)).pv d.h
    .split
     .have p:=d.bP6;have C:(aTH j).K<(aTH j).aL.length:=by grind[aTH]
      split
      .exact⟨f,aPU g _ ⟨aLR _,l.2⟩,.inr (p.pl C _)⟩
      .exact⟨f.mem (bE4 f.1.1 _ _),g,.inr (p.pl C _)⟩
     .split
      .exact⟨f,g,.inr (d.ab _)⟩
      .rename_i W;have O:0<=mQ j.aL j.K:=by grind[mQ]
       have G:(mQ j.aL j.K).toNat<j.eC.length:=aa
       have en:aTG j=j.eC[(mQ j.aL j.K).toNat]:=by grind[aTG]
       have A:j3 (aTG j):=by rw[en];exact d.new.2 _ (dO G)
       split
       .exact⟨f.mem (bE3 f.1.1 _ _),g,.inr (d.pc 13)⟩
       .exact⟨f,aPU g _ ⟨.inr A,l.2⟩,.inr ((d.pc 9).kk (k:=j.K+1) aa)⟩
 refine aO3 (λ_=>?_) λ_=>?_
 .unfold aVZ;split
  .rename_i D;have z:QW j=j.bM[0]:=by grind[QW]
   have m:=d.held.1 j.bM[0] (dO D);rw[<-z] at m;have l:=s m;have K:=l.2.1;refine⟨f,aPU g _ ?_,.inr ⟨d.busy,d.bat,d.h,d.prev,d.bkt,d.at_,d.k,d.new,d.old,d.reads,d.wr,⟨λx o=>d.held.1 x (aHH o),d.held.2.sublist (List.drop_sublist _ _)⟩,d.res,d.node⟩⟩;split
   .refine⟨l.1,?_,ae⟩;grind
   .exact⟨l.1,l.2.1,ae⟩
  .split
   .exact⟨f,g,.inr (d.pc 17)⟩
   .exact⟨f,g,.inr (((d.pc 15).kk (k:=0) aa).rtn)⟩
 refine aO3 (λ_=>?_) λ_=>?_
 .have P:=d.old.1;unfold a5O;split
  .exact⟨f,g,.inr (d.pc 18)⟩
  .refine⟨v,g,.inr ?_⟩;simp only;split
   .exact((d.kk (k:=j.K+1) aa).sub _).rtn
   .exact d.sub _
 refine aO3 (λ_=>?_) λ_=>?_
 .unfold a5P;split
  .exact⟨f,g,.inr (d.pc 18)⟩
  .rename_i D;have F:0<j.eC.length:=aa
   have z:j.eC.getD 0 0=j.eC[0]:=aj
   have hh:=d.new.2 j.eC[0] (dO F);rw[<-z] at hh;refine⟨?_,g,.inr ⟨d.busy,d.bat,d.h,d.prev,d.bkt,d.at_,d.k,⟨by show(j.eC.drop 1).length<=6;have:=d.new.1;simp;omega,λx o=>d.new.2 x (aHH o)⟩,d.old,d.reads,d.wr,d.held,d.res,d.node⟩⟩;grind[bMJ]
 refine aO3 (λ_=>?_) λ_=>?_
 .obtain⟨r,J,Z,p,L⟩:=aJ0 f.1.2.1 H;rw[YY f.1.2.1 H] at J;injection J with J
  refine⟨f.clock aj aj,g,.inr (d.pc 19)⟩
 refine aO3 (λ_=>?_) λ_=>?_
 .exact⟨f,g,.inl rfl⟩
 .exact⟨f,g,.inr (d.ab 1)⟩
def bFL{b:Batch}(a:aEA b)(s:Int):JB (UE b s):=⟨rfl,a,.inl rfl,.inl rfl,by simp[UE],by simp[UE],by simp[UE],by simp[UE],by simp[UE],by simp[UE],⟨by simp[UE],by simp[UE],by simp[UE]⟩,by simp[UE],by simp[UE],by show(0:Int)<=0/\(0:Int)<=4294967295;omega⟩
def TV.step(a:TV t)(p:0<=w/\w<=2):TV (CQ t w):=by
 have n:=a.a3M.2 _ (aZP a.a3M.1 p);have d:∀{x:aK},(x=W8\/JB x)->(t.aH.set w.toNat x).length=3/\∀j∈t.aH.set w.toNat x,j=W8\/JB j:=λs=>
  ⟨by simpa using a.a3M.1,λj o=>(nM o).elim (a.a3M.2 j) λe=>e ▸ s⟩
 unfold CQ;split
 .rename_i c;have o:JB (iG t w):=n.resolve_left λe=>by rw[e] at c;cases c
  have h:=bMK a.base a.bk p o;exact⟨h.b,h.k,d h.j,a.todo,a.ser⟩
 .split
  .exact a
  .rename_i u;have k:w.toNat<t.aY.length:=by have:=a.todo.1;omega
   have i:(⟨UD t w⟩:aR)∈t.aY:=by unfold UD;rw[MQ,mA k];exact dO _
   have f:(UD t w).length<=12/\∀b∈UD t w,aEA b:=a.todo.2 _ i;have m:0<(UD t w).length:=aa
   have y:(UD t w).getD 0 ⟨false,[]⟩=(UD t w)[0]:=aj
   have g:=f.2 (UD t w)[0] (dO m);rw[<-y] at g;have z:=a.ser;have r:t.aG≠1000000:=λe=>u (.inr e);unfold a93;refine⟨a.base,a.bk,d (.inr (bFL g _)),⟨by simpa using a.todo.1,λq l=>?_⟩,⟨aj,aj⟩⟩;obtain h|h:=nM l
   .exact a.todo.2 q h
   .subst h;exact⟨aj,λb v=>f.2 b (aHH v)⟩
def qX(b:aA)(s:Int):Int:=if fX b.Mem s=3 then(if bM b.aQ s then 3 else 4) else fX b.Mem s
def aHB(m:Mem)(s:Int):0<=fX m s/\fX m s<=3:=by grind[fX]
theorem aTM(b:aA)(s:Int):0<=qX b s/\qX b s<=4:=by have:=aHB b.Mem s;grind[qX]
def lO(b:aA):Nat->al
 |0=>List.replicate 5 0
 |k+1=>(lO b k).set (qX b k).toNat ((lO b k).getD (qX b k).toNat 0+1)
theorem aHC(b:aA)(k:Nat):(lO b k).length=5:=by induction k with|zero=>rfl|succ k a=>grind[lO]
def aTN(b:aA)(k:Nat):∀j,0<=(lO b k).getD j 0/\(lO b k).getD j 0<=k:=by
 induction k with
 |zero=>grind[lO]
 |succ k a=>
  intro j;have c:=a j;grind[lO]
section
variable {b:aA} (hb:lD b)
include hb
theorem a2P(s:Int):OG b s=some (qX b s):=by have a:=hb.1.1;obtain⟨e,d,c,_⟩:=lX.facts a;unfold OG qX;rw[aB7 a.1.1.1 aa (by grind[maxLen]) (by grind[maxLen]),aE,HK hb.1.2.2.1];grind[DK]
theorem a2Q(s:Int):ZO b s=some (qX b s):=by have a:=hb.1.1;obtain⟨e,d,c,_⟩:=lX.facts a;unfold ZO qX;rw[aB8 a.1.1.1 aa (by grind[maxLen]) (by grind[maxLen]),aE,QG hb.1.2.2.1];grind
theorem aW7(k:Nat):idx (lO b k) (qX b k)=some ((lO b k).getD (qX b k).toNat 0):=by grind[aTM,aHC,eQ]
theorem lD.fits:b.Mem.Heap.Bytes.length<=maxLen/\(fC b.Mem.aD).length<=1073741824/\b.aI.bV.length<=maxLen/\b.aQ.length<=maxLen/\(cN b.aQ).length<=1073741824/\b.iU.length<=maxLen:=by obtain⟨i,h,g,f,_⟩:=lX.facts hb.1.1;have a:=hb.1.2.1.2.1;have c:=hb.1.2.2.1.1;have d:=hb.1.2.2.1.2.1;have e:=hb.1.2.2.2.1;grind[maxLen]
theorem aTO:TE b=some (lO b 24):=by
 unfold TE;rw[PH,aST (lD.fits hb),cB hb,aE];have:=kL (f:=FK b true) 24 (λk=>(lO b k,(k:Int))) (lO b 24) (λk d=>by
  have c:=aTN b k (qX b k).toNat;simp only[FK,FJ];rw[cX,aM trivial,a2P hb,aE,aW7 hb,aE,cY (x:=(k:Int)+1),cY];rfl) (by simp[FK,FJ])
 rw[show(List.replicate ((5:Int).toNat) (0:Int))=lO b 0 from rfl];have a:loop (FK b true) (lO b 0,0)=_:=this;rw[a];rfl
theorem a5U:ZP b=some (lO b 24):=by
 unfold ZP;rw[PH,aSU (lD.fits hb),cB hb,aE];have:=kL (f:=FI b) 24 (λk=>(lO b k,(k:Int))) (lO b 24) (λk d=>by
  have c:=aTN b k (qX b k).toNat;simp only[FI];rw[cX,a2Q hb,aE,aW7 hb,aE,cY (x:=(k:Int)+1),cY];rfl) (by simp[FI])
 rw[show(List.replicate ((5:Int).toNat) (0:Int))=lO b 0 from rfl];have a:loop (FI b) (lO b 0,0)=_:=this;simp only[eP,aU,aT,a];rfl
end
def Y3(p:Nat->Bool)(n:Nat):Nat:=((List.range n).filter p).length
def I2(p:Nat->Bool)(n:Nat):Y3 p (n+1)=Y3 p n+if p n then 1 else 0:=by grind[Y3,List.range_succ]
def aHD:∀{l m:al},l.Nodup->(∀x∈l,x∈m)->l.length<=m.length
 |[],_,_,_=>lR _
 |a::t,m,b,h=>by rw[List.nodup_cons] at b;have f:a∈m:=h a (aFH ..);have d:=aHD (l:=t) (m:=m.erase a) b.2 (λx c=>(List.mem_erase_of_ne (λe:x=a=>b.1 aj)).2 (h x (uI _ c)));grind
def a97{p:Nat->Bool}{n:Nat}{l:al}(hn:l.Nodup)(d:∀x∈l,0<=x/\x<(n:Int))(f:∀i:Nat,i<n->(p i=true↔(i:Int)∈l)):Y3 p n=l.length:=by
 have e:Y3 p n=(((List.range n).filter p).map (λi:Nat=>(i:Int))).length:=by simp[Y3]
 have nd:(((List.range n).filter p).map (λi:Nat=>(i:Int))).Nodup:=by rw[List.nodup_iff_pairwise_ne];refine List.Pairwise.map (R:=λa b:Nat=>a≠b) _ (λa b h=>aa) ?_;grind[List.nodup_range]
 have a:=aHD (m:=l) nd (λx c=>by
  grind)
 have b:=aHD (l:=l) (m:=((List.range n).filter p).map (λi:Nat=>(i:Int))) hn (λx c=>by
  have:=d x c;refine aL1.2 ⟨x.toNat,List.mem_filter.2 ⟨List.mem_range.2 aa,(f _ aa).2 aj⟩,aa⟩)
 omega
def a98(b:aA)(k:Nat):∀j:Nat,j<5->(lO b k).getD j 0=(Y3 (λi=>decide (qX b i=(j:Int))) k:Int):=by
 induction k with
 |zero=>intro j a;simp only[lO,Y3,List.range_zero,List.filter_nil,List.length_nil,MQ,List.getElem?_replicate,aM a];rfl
 |succ k c=>
  intro j a;have d:=aTM b k;have e:=aHC b k;rw[I2];simp only[lO,MQ,List.getElem?_set];grind
section
variable {b:aA} (hb:lD b)
include hb
theorem bFM(s:Int):bM b.aQ s↔s∈(cN b.aQ).map nX:=by
 unfold bM nX;constructor
 .grind
 .intro h;obtain⟨r,a,c⟩:=aL1.1 h;exact⟨r,a,(hb.1.2.2.1.2.2.1 r a).1,c⟩
theorem a2R:Y3 (λi=>decide (qX b i=3)) 24=(cN b.aQ).length:=by
 have d:=hb.1.2.2.1;rw[a97 (l:=(cN b.aQ).map nX) d.2.2.2,List.length_map]
 .intro x e;obtain⟨r,a,rfl⟩:=aL1.1 e;have:=(d.2.2.1 r a).1;grind[j3,nX]
 .intro i f;rw[decide_eq_true_iff,<-bFM hb];unfold qX;have c:=aHB b.Mem i;by_cases q:fX b.Mem i=3
  .grind
  .rw[aO q];refine⟨λh=>absurd h q,λh=>?_⟩;obtain⟨r,a,j,g⟩:=h;have:=(hb.2 r a).1.2.1;grind
end
def a5V(l:lX m){h:Int}(D:0<=w/\w<=2)(k:lE m h):(∀t,bH (UA m w h).Heap t=bH m.Heap t)/\(∀t,0<=bH m.Heap t->kN (UA m w h).Heap t=if t=h % 32 then h/32+1 else kN m.Heap t) /\
  (∀t,t≠h % 32->(t∈fC (UA m w h).aD↔t∈fC m.aD))/\fX (UA m w h) (h % 32)≠3:=by
 obtain⟨f,F,E,H,G,p,z,u,s,r⟩:=lX.facts l;have c:=jB k.2.1;have A:0<=bH m.Heap (h % 32)/\bH m.Heap (h % 32)<=2:=by obtain⟨_,q,e⟩:=xV c;rw[e];exact lB.1 aa
 have v:1<=h/32/\h/32<=6:=by have:=k.1;unfold j3 at this;omega
 obtain⟨_,o⟩:=HOk.bEL l.1.1 c (g:=h/32+1) aa;have hh:(UA m w h).Heap=⟨st4 m.Heap.Bytes (fW (h % 32) (bH m.Heap (h % 32))).toNat (h/32+1),m.Heap.Class⟩:=by unfold UA;simp only[apply_ite Mem.Heap,ite_self]
 have j:(w*3+bH m.Heap (h % 32)).toNat<m.aD.Own.length:=aa
 have i:(bH m.Heap (h % 32)).toNat<m.aD.Global.length:=aa
 have n:∀t,t∈fC (UA m w h).aD↔t∈fC m.aD\/(h/32+1<=6/\t=h % 32):=λt=>by
  unfold UA fC;by_cases q:h/32+1<=6
  .rw[aM q];split
   .rw[<-eO j];simp only[j4,MG j,List.mem_singleton,q,true_and];constructor
    .rintro(a|a|a)
     .exact .inl (.inl a)
     .exact .inl (.inr a)
     .exact .inr a
    .rintro((a|a)|a)
     .exact .inl a
     .exact .inr (.inl a)
     .exact .inr (.inr a)
   .rw[<-eO i];simp only[j4,MG i,List.mem_singleton,q,true_and];constructor
    .rintro((a|a)|a)
     .exact .inl (.inl a)
     .exact .inr a
     .exact .inl (.inr a)
    .rintro((a|a)|a)
     .exact .inl (.inl a)
     .exact .inr a
     .exact .inl (.inr a)
  .rw[aO q];simp only[j4,q,false_and,or_false]
 refine⟨λt=>by rw[hh];rfl,λt d=>by rw[hh];exact o t d,λt d=>by rw[n];exact⟨λx=>x.elim id λy=>absurd y.2 d,.inl⟩,λB=>?_⟩;have b:=jN.1 B;have C:kN (UA m w h).Heap (h % 32)=h/32+1:=by rw[hh,o _ c,aM rfl]
 rw[C] at b;exact b.2.1 ((n _).2 (.inr ⟨b.2.2,rfl⟩))
def a5W(i:lX m){h:Int}(f:0<=w/\w<=2)(g:lE m h){t:Int}(d:t≠h % 32):fX (UA m w h) t=fX m t:=by
 obtain⟨a,b,c,_⟩:=a5V i f g;by_cases q:0<=bH m.Heap t
 .exact aJS (a t) (by rw[b t q,aO d]) (c t d)
 .have e:bH (UA m w h).Heap t=bH m.Heap t:=a t;unfold fX;rw[e,aM aa,aM aa]
def a5X(h:Heap)(s:Int):Int:=ld h.Bytes ((fW s (bH h s)).toNat+4) 4
def bIZ{b:al}{a:Nat}(h:a+4<=b.length)(hn:0<=n/\n<=4294967295):ld (MP b a n) a 4=n:=by
 have e:∀j,bt (MP b a n) j=if j=a+3 then n % 256 else if j=a+2 then n/256 % 256 else if j=a+1 then n/65536 % 256 else if j=a then n/16777216 else bt b j:=λj=>by grind[MP,T8]
 rw[ld4 (by grind[YW]),e,e,e,e,qU,qU,qU,aM rfl,qU,qU,aM rfl,qU,aM rfl,aM rfl];omega
def a2S{t:Int}(l:0<=bH h s)(k:0<=bH h t)(hn:s≠t):(fW s (bH h s)).toNat+12<=(fW t (bH h t)).toNat\/(fW t (bH h t)).toNat+12<=(fW s (bH h s)).toNat:=by
 obtain⟨p,i,v,f,y,ec,n,z⟩:=oT l;obtain⟨q,j,u,d,fs,x,m,w⟩:=oT k;have a:∀c (i:Nat),i<(dI c).toNat->8+i*(bL c).toNat+12<=64:=λc i h=>by
  have b:0<=c/\c<=2:=lB.1 aa;obtain rfl|rfl|rfl:=mP b
  .rw[show(dI 0).toNat=4 from rfl] at h;rw[show(bL 0).toNat=12 from rfl];omega
  .rw[show(dI 1).toNat=2 from rfl] at h;rw[show(bL 1).toNat=20 from rfl];omega
  simp_all[dI]
 have r:=a _ _ f;have o:=a _ _ d;rw[n,m];by_cases e:p=q
 .subst e;have g:i≠j:=λe=>hn aa;have b:0<=cV h p/\cV h p<=2:=lB.1 aa;generalize cV h p=c at f d b;grind[bL,dI]
 omega
def aTP(a:0<=bH h s):(fW s (bH h s)).toNat+8<=384:=(bE0 a).1
def bFN(a:h.Bytes.length=384){t:Int}(hn:0<=n/\n<=4294967295)(c:0<=bH h s)(b:0<=bH h t):a5X ⟨MP h.Bytes ((fW s (bH h s)).toNat+4) n,h.Class⟩ t=if t=s then n else a5X h t:=by
 have f:=aTP c;have d:=aTP b;show ld (MP h.Bytes ((fW s (bH h s)).toNat+4) n) ((fW t (bH h t)).toNat+4) 4=if t=s then n else ld h.Bytes ((fW t (bH h t)).toNat+4) 4;by_cases e:t=s
 .simp_all[bIZ]
 .rw[aO e];have:=a2S c b (λq=>e q.symm);grind[SP,YW,aJW]
def bI0(hh:HOk h)(c:0<=bH h s):1<=kN h s/\kN h s<=7:=by obtain⟨p,i,b,d,e,ec,g,f⟩:=oT c;have a:=(MF hh.1 b).1 (hh.2 p b);simp_all[aG8,aO,kN]
structure bML (m m':Mem) (x n:Int):Prop where
 state:∀t,fX m' t=fX m t
 gen:∀t,0<=bH m.Heap t->kN m'.Heap t=kN m.Heap t
 dat:∀t,0<=bH m.Heap t->a5X m'.Heap t=if t=x then n else a5X m.Heap t
def a2T(d:lX m){h:Int}(b:lE m h)(hn:0<=n/\n<=65535):(NM m h n).2=0/\bML m (NM m h n).1 (h % 32) n:=by
 have a:=jB b.2.1;unfold NM;rw[aM b];obtain⟨_,e⟩:=HOk.put d.1.1 a (n:=n) ⟨hn.1,aa⟩;refine⟨rfl,λt=>?_,e,λt f=>bFN d.1.1.1.1 ⟨hn.1,aa⟩ a f⟩;by_cases q:0<=bH m.Heap t
 .exact aJS rfl (e t q) Iff.rfl
 .unfold fX;have c:bH m.Heap t<0:=aa
  exact(aM (show bH _ t<0 from c)).trans (aM c).symm
structure a5Y (m m':Mem) (x:Int):Prop where
 was:fX m x≠3
 now:fX m' x=3
 gen:1<=kN m'.Heap x/\kN m'.Heap x<=6
 rest:∀t,t≠x->(fX m' t=3↔fX m t=3)
 same:∀t,fX m t=3->kN m'.Heap t=kN m.Heap t/\a5X m'.Heap t=a5X m.Heap t
def aW8(e:lX m){c:aD}(g:∀t,t∈fC m.aD↔t∈fC c\/t=x)(f:x∉fC c):a5Y m ⟨m.Heap,c⟩ x:=by have d:x∈fC m.aD:=(g x).2 (.inr rfl);obtain⟨a,b⟩:=lX.qW e d;refine⟨λq=>(jN.1 q).2.1 d,jN.2 ⟨a,f,b⟩,⟨(bI0 e.1.1 a).1,b⟩,λt h=>?_,λt _=>⟨rfl,rfl⟩⟩;grind[jN]
theorem a99{l:al}(h:l≠[]):l=(aAF l).1++[(aAF l).2]:=by
 unfold aAF;obtain rfl|⟨L,b,rfl⟩:=aV3 l
 .exact absurd rfl h
 .simp
def a2U{l:ax}{k:Nat}(a:k<l.length)(h:fY l k≠[]):∃A B,gY l=A++((aAF (fY l k)).2::B)/\gY (l.set k ⟨(aAF (fY l k)).1⟩)=A++B:=by grind[a99,aAF,I1,eO,NJ]
def a2V{l:ax}{k:Nat}(b:k<l.length)(h:fY l k=[]):l.set k ⟨(aAF (fY l k)).1⟩=l/\(aAF (fY l k)).2 = -1:=by
 rw[h];refine⟨?_,rfl⟩;have e:(⟨(aAF []).1⟩:bD)=l[k]:=by
  have:=eO b;rw[h] at this;cases a:l[k] with
  |mk s=>rw[a] at this;simp only at this;subst this;rfl
 simp_all
theorem aZQ(d:lX m)(i:0<=w/\w<=2)(j:0<=c/\c<=2):(MH m w c=(m,-1))\/0<=(MH m w c).2/\a5Y m (MH m w c).1 (MH m w c).2:=by
 obtain⟨f,l,k,_⟩:=lX.facts d;have g:(w*3+c).toNat<m.aD.Own.length:=aa
 unfold MH;by_cases q:fY m.aD.Own (w*3+c).toNat=[]
 .left;obtain⟨a,b⟩:=a2V g q;rw[a,b]
 .right;obtain⟨A,B,h,n⟩:=a2U g q;have nd:=d.1.2.2.2.2.2;have e:=d.1.2.2.2.2.1;unfold fC at nd e;rw[h] at nd e;refine⟨(e _ ae).1,aW8 d (λt=>?_) ?_⟩
  .grind[fC]
  grind[fC]
theorem aV2(d:lX m)(i:0<=c/\c<=2):(DY m c=(m,-1))\/0<=(DY m c).2/\a5Y m (DY m c).1 (DY m c).2:=by
 obtain⟨f,k,j,_⟩:=lX.facts d;have g:c.toNat<m.aD.Global.length:=aa
 unfold DY;by_cases q:fY m.aD.Global c.toNat=[]
 .left;obtain⟨a,b⟩:=a2V g q;rw[a,b]
 .right;obtain⟨A,B,h,l⟩:=a2U g q;have nd:=d.1.2.2.2.2.2;have e:=d.1.2.2.2.2.1;unfold fC at nd e;rw[h] at nd e;refine⟨(e _ ae).1,aW8 d (λt=>?_) ?_⟩
  .grind[fC]
  grind[fC]
theorem a5Z(w:lX m)(J:0<=c/\c<=2):(T9 m c=(m,-1))\/0<=(T9 m c).2/\a5Y m (T9 m c).1 (T9 m c).2:=by
 obtain⟨M,h3,h9,h1,_⟩:=lX.facts w;have H:=w.1.1.1;unfold T9;by_cases q:pgF m.Heap=6
 .grind
 right;rw[aO q];obtain⟨v,A⟩:=bER H q;generalize pgF m.Heap=p at v A;obtain⟨a,b,d,e⟩:=HOk.bJZ w.1.1 v aa J;have P:0<dI c:=lB.2 J;have Q:=pA c;have hk:c.toNat<m.aD.Global.length:=aa
 have k:gS p (dI c).toNat=(p:Int)*4::(gS p (dI c).toNat).drop 1:=by
  have:0<(gS p (dI c).toNat).length:=by grind[aLO]
  have h0:=EU this;rw[QL] at h0;have N:(gS p (dI c).toNat)[0]=(p:Int)*4:=by simp[gS]
  grind
 have o:=a1Y p (dI c).toNat;rw[k,List.nodup_cons] at o;have l:∀t,t∈(gS p (dI c).toNat).drop 1↔∃i,i<(dI c).toNat/\t=(p:Int)*4+(i:Nat)/\i≠0:=λt=>by
  constructor
  .intro h;obtain⟨i,I,rfl⟩:=bEO (aHH h);grind
  .rintro⟨i,I,rfl,i0⟩;have g:(p:Int)*4+(i:Nat)∈gS p (dI c).toNat:=by grind[gS]
   grind
 generalize (gS p (dI c).toNat).drop 1=xs at o l;have g:∀t,t∈fC ⟨m.aD.Global.set c.toNat ⟨fY m.aD.Global c.toNat++xs⟩,m.aD.Own⟩↔t∈fC m.aD\/t∈xs:=λt=>by unfold fC;rw[<-eO hk];simp[MG,or_right_comm]
 have B:∀i,i<(dI c).toNat->¬0<=bH m.Heap ((p:Int)*4+(i:Nat)):=λi I z=>(d _ z).1 aa;have N:=e 0 aa;rw[show(p:Int)*4+((0:Nat):Int)=(p:Int)*4 by omega] at N;have f:=B 0 aa;rw[show(p:Int)*4+((0:Nat):Int)=(p:Int)*4 by omega] at f;have D:=λj=>(bEM w.1.1.1.1 v J (dI c).toNat aa j).1;have C:=T7 m.Heap.Bytes p c (dI c).toNat;refine⟨aa,λz=>f (jN.1 z).1,jN.2 ⟨aj,λz=>?_,aj⟩,aj,λt G=>?_,λt G=>?_⟩
 .grind[lX.qW]
 .rw[jN,jN];simp only at G;by_cases z:0<=bH m.Heap t
  .obtain⟨F,E⟩:=d t z;have zx:t∉xs:=λy=>by obtain⟨i,I,rfl,_⟩:=(l t).1 y;omega
   have:t∈fC (⟨m.aD.Global.set c.toNat ⟨fY m.aD.Global c.toNat++xs⟩,m.aD.Own⟩:aD)↔t∈fC m.aD:=aj
   simp only[this,b t F,E]
  .refine⟨λy=>?_,λy=>absurd y.1 z⟩;exfalso;obtain⟨X,W,y3⟩:=y;by_cases V:(t/4).toNat=p
   .obtain⟨r1,Y,r3⟩:=xV X;rw[V,aD3 H v,aM rfl] at Y;exact W ((g t).2 (.inr ((l t).2 ⟨(t % 4).toNat,aa,aa,aa⟩)))
   grind
 .have n:=jN.1 G;obtain⟨F,E⟩:=d t n.1;refine⟨E,?_⟩;obtain⟨u,Z,x,r,R,U,T,S⟩:=oT n.1;have L:=aTP n.1;have O:=wE H x rfl r;have K:8+Z*(bL (cV m.Heap u)).toNat+8<=64:=by
   have s:0<=cV m.Heap u/\cV m.Heap u<=2:=lB.1 aa;generalize cV m.Heap u=c' at r s;obtain rfl|rfl|rfl:=mP s
   .grind[dI,bL]
   .grind[dI,bL]
   grind[dI,bL]
  unfold a5X;simp only;rw[b t F];exact SP aa C λj j1 j2=>D j aa
structure bFO (b:aA) (r:aA×Sub) (s:Sub):Prop where
 clock:r.1.aI=b.aI
 bQZ:r.1.aQ=b.aQ
 haz:r.1.iU=b.iU
 two:r.1.Mem=b.Mem/\(r.2.eG=true/\r.2.Code≠0\/r.2.eG=false/\r.2.Kind=1/\0<=r.2.Pc/\r.2.Pc<=3) \/
  r.2.eG=true/\r.2.Code=0/\j3 r.2.Out/\lE r.1.Mem r.2.Out/\a5Y b.Mem r.1.Mem (r.2.Out % 32)
def bI1{b:aA}(o:lX b.Mem)(l:0<=w/\w<=2){s:Sub}(f:s.Kind=1)(g:s.eG=false)(n:0<=s.Pc/\s.Pc<=3):bFO b (gZ b w s) s:=by
 have m:=aS3 s.A;have e:gZ b w s=aLP b w s:=by unfold gZ;simp[f,g]
 rw[e];have fin:∀p:Mem×Int,(p=(b.Mem,-1)\/0<=p.2/\a5Y b.Mem p.1 p.2)->bFO b (aAG b s p) s:=λp h=>by
  unfold aAG;obtain rfl|⟨j,a⟩:=h
  .rw[fF];split
   .exact⟨rfl,rfl,rfl,.inl ⟨rfl,.inl ⟨rfl,by simp[NL]⟩⟩⟩
   .exact⟨rfl,rfl,rfl,.inl ⟨rfl,.inr ⟨g,f,by simp only;omega,by simp only;omega⟩⟩⟩
  .rw[aM j];have i:=(xV (jN.1 a.now).1).1;have r:a5B p.1 p.2=kN p.1.Heap p.2*32+p.2:=aM a.gen;have q:=a.gen;have c:a5B p.1 p.2 % 32=p.2:=aa
   have k:a5B p.1 p.2/32=kN p.1.Heap p.2:=aa
   have d:j3 (a5B p.1 p.2):=by unfold j3;omega
   refine⟨rfl,rfl,rfl,.inr ⟨rfl,rfl,d,⟨d,?_,?_⟩,?_⟩⟩
   .simp only[NL];rw[c];exact a.now
   .simp only[NL];rw[c,k]
   .simp only[NL];rw[c];exact a
 unfold aLP;by_cases c0:QJ s.A<0
 .rw[aM c0];exact⟨rfl,rfl,rfl,.inl ⟨rfl,.inl ⟨rfl,by simp[NL]⟩⟩⟩
 rw[aO c0];grind[aZQ,aV2,a5Z]
def a50(c:oV):ZT c=some (decide (aFE c)):=by
 unfold ZT OK OJ;simp only[cJ,aE];by_cases a:1<=c.Kind/\c.Kind<=4
 .by_cases b:0<=c.Key/\c.Key<=99
  .simp only[cB a,cB b,eP,aU,aT];have i:(c.Kind=2\/c.Kind=4)->decide (0<=c.cT/\c.cT<=65535)=decide (aFE c):=λk=>by rw[XA,decide_eq_true_eq,decide_eq_true_eq];exact⟨λh=>⟨a,b,h,aa⟩,λh=>h.2.2.1⟩
   by_cases g:c.Kind=2
   .grind
   .have e:(c.Kind == 2)=false:=aj
    by_cases f:c.Kind=4
    .grind
    .have d:(c.Kind == 4)=false:=aj
     simp only[e,d,aU,aT];congr 1;rw[XA,beq_iff_eq,decide_eq_true_eq];constructor
     .intro h;exact⟨a,b,aa,.inr (.inr h)⟩
     .rintro⟨_,_,_,h|h|h⟩<;>omega
  simp_all[dV,aFE]
 .simp only[dV a,oH,aS];grind[aFE]
theorem a51(c:oV):ZR c=some (decide (aFE c)):=by
 have a:∀B:Bool,zX c B=some (decide ((1<=c.Kind/\c.Kind<=4)/\(0<=c.Key/\c.Key<=99)/\((B=true/\(0<=c.cT/\c.cT<=65535))\/c.cT=0))):=λB=>by unfold zX tI;simp only[eT,aE];grind
 unfold ZR;have fin:∀B:Bool,(B=true↔c.Kind=2\/c.Kind=4)->zX c B=some (decide (aFE c)):=λB b=>by rw[a];congr 1;rw[XA,decide_eq_true_eq,decide_eq_true_eq];grind[aFE]
 grind
def a52{b:Batch}(l:b.b8.length<=1000):R5 b=some (decide (aEA b)):=by
 unfold R5;cases e:b.Collect
 .rw[fF];have j:∀k (c:k<b.b8.length),rL b (k:Int)=if aFE b.b8[k] then some (.next ((k+1:Nat):Int)) else some (.stop (Out.ret false)):=λk c=>by simp only[rL];rw[cX,aZ c,aE,a50,aE,cY];simp
  have d:loop (rL b) 0=_:=lA (f:=rL b) b.b8 (λk=>(k:Int)) aFE (Out.brk ()) (Out.ret false) (λk c g=>aj) (λk c g=>aj) (by simp[rL]);rw[d];by_cases q:∀x∈b.b8,aFE x
  .rw[aM q];simp only[aE,aBF,aBE,cJ];congr 1;rw[XA,decide_eq_true_eq,decide_eq_true_eq];exact⟨λa=>⟨λh=>aj,aa,q,λ_=>aa⟩,λa=>by have:=a.2.2.2 e;have:=a.2.1;omega⟩
  .rw[aO q,dV (show ¬aEA b from λa=>q a.2.2.1)];rfl
 .rw[aM rfl];congr 1;rw[XA,beq_iff_eq,decide_eq_true_eq];constructor
  .intro h;have i:b.b8=[]:=AX aa;exact⟨λ_=>i,aa,aj,λh=>aj⟩
  .intro h;rw[h.1 e];rfl
def BsV(l:bf):Prop:=∀b∈l,aEA b
instance (l:bf):Decidable (BsV l):=by unfold BsV;infer_instance
def a53{l:au}(o:l.length<=1000)(n:∀q∈l,∀b∈q.List,b.b8.length<=1000):R6 l=some (decide (aO2 l)):=by
 unfold R6;have e:∀k (d:k<l.length),l[k].List.length<=12->loop (rM l (k:Int)) 0=some (if BsV l[k].List then Out.brk () else Out.ret false):=by
  intro k d c;have m:∀j (g:j<l[k].List.length),rM l (k:Int) (j:Int)=if aEA l[k].List[j] then some (.next ((j+1:Nat):Int)) else some (.stop (Out.ret false)):=by intro j g;simp only[rM];rw[aZ d,aE,cX,aE,aZ g,aE,a52 (n _ (dO d) _ (dO g)),aE,cY];simp
  have:=lA (f:=rM l (k:Int)) l[k].List (λj=>(j:Int)) aEA (Out.brk ()) (Out.ret false) (λj g i=>aj) (λj g i=>aj) (by
   simp_all[rM,aZ])
  refine Eq.trans this ?_;congr 1
 have m:∀k (d:k<l.length),rN l (k:Int)=if QuV l[k] then some (.next ((k+1:Nat):Int)) else some (.stop (Out.ret false)):=by
  intro k d;simp only[rN];rw[cX,aZ d,aE];by_cases c:l[k].List.length<=12
  .rw[qH,e k d c];by_cases q:BsV l[k].List
   .rw[aM q,aM (show QuV l[k] from⟨c,q⟩)];simp only[aE,aBI,aBH];grind[cK]
   .rw[aO q,aO (show ¬QuV l[k] from λa=>q a.2)];rfl
  .rw[cX,aO (show ¬QuV l[k] from λa=>c a.1)]
 have h:loop (rN l) 0=_:=lA (f:=rN l) l (λk=>(k:Int)) QuV (Out.brk ()) (Out.ret false) (λk d i=>aj) (λk d i=>aj) (by simp[rN]);rw[h];by_cases q:∀x∈l,QuV x
 .rw[aM q];simp only[aE,aBJ,aBG];congr 1;rw[XA];simp only[beq_iff_eq,decide_eq_true_eq];exact⟨λa=>⟨aa,q⟩,λa=>by have:=a.1;omega⟩
 .rw[aO q,dV (show ¬aO2 l from λa=>q a.2)];rfl
def aLV{l:List O}{f:Int->Option (Step Int (Out Unit Int))}{p:O->Bool}{m:(Out Unit Int)->bu}(g:l.length<=4611686018427387904)
  (n:∀k:Nat,f (k:Int)=if h:k<l.length then(if p l[k] then some (.stop (Out.ret (k:Int))) else some (.next ((k+1:Nat):Int))) else some (.stop (Out.brk ()))) (d:∀r,m (.ret r)=some r) (c:m (.brk ())=some (-1)) :
  ((loop f 0).bind m).bind (λb=>some (decide (0<=b)))=some (l.any p):=by
 rcases aJO (f:=f) (p:=p) g n l.length 0 aa with ⟨j,h,_,a,s,o⟩|⟨t,a⟩
 .rw[show(0:Int)=((0:Nat):Int) from rfl,o,aE,d,aE,cB aa];grind
 .rw[show(0:Int)=((0:Nat):Int) from rfl,a,aE,c,aE,dV aa];congr 1;refine(List.any_eq_false.2 λx e=>?_).symm;obtain⟨i,q,rfl⟩:=aPX e;grind
def aZR{l:bp}(b:l.length<=1000){f:oV->Bool}{g:oV->ay}(a:∀x∈l,g x=some (f x)):vJ l g=some (l.any f):=
 aLV (f:=vI l g) (m:=IT) aa (λk=>by
  simp only[vI];by_cases h:k<l.length
  .rw[dif_pos h,cX,aZ h,aE,a _ (dO h),aE,cY];rfl
  grind) (λ_=>rfl) rfl
def aTQ{l:bf}(b:l.length<=1000){f:Batch->Bool}{g:Batch->ay}(a:∀x∈l,g x=some (f x)):qR l g=some (l.any f):=
 aLV (f:=qQ l g) (m:=D8) aa (λk=>by
  simp only[qQ];by_cases h:k<l.length
  .rw[dif_pos h,cX,aZ h,aE,a _ (dO h),aE,cY];rfl
  grind) (λ_=>rfl) rfl
def aO4{l:au}(b:l.length<=1000){f:aR->Bool}{g:aR->ay}(a:∀x∈l,g x=some (f x)):pW l g=some (l.any f):=
 aLV (f:=pU l g) (m:=BZ) aa (λk=>by
  simp only[pU];by_cases h:k<l.length
  .rw[dif_pos h,cX,aZ h,aE,a _ (dO h),aE,cY];rfl
  grind) (λ_=>rfl) rfl
def aZS{l:List O}{P:O->Prop}[DecidablePred P]:(!(l.any λx=>!decide (P x)))=decide (∀x∈l,P x):=aj
theorem a54{b:Batch}(c:b.b8.length<=1000):RX b=some (decide (aEA b)):=by
 unfold RX;cases d:b.Collect
 .rw[fF,eT,aE];by_cases h:1<=(b.b8.length:Int)/\(b.b8.length:Int)<=6
  .rw[cB h,aM rfl,aZR c (f:=λx=>!decide (aFE x)) (λx _=>by grind[TG,a51]),aE,aZS];unfold yV;congr 1;rw[XA,decide_eq_true_eq,decide_eq_true_eq];exact⟨λa=>⟨λh=>aj,aa,a,λ_=>aa⟩,λa=>a.2.2.1⟩
  .rw[dV h,fF];grind[yV,aEA]
 .rw[aM rfl];congr 1;rw[XA,beq_iff_eq,decide_eq_true_eq];constructor
  .intro h;have e:b.b8=[]:=AX aa;exact⟨λ_=>e,aa,aj,λh=>aj⟩
  .intro h;rw[h.1 d];rfl
def a55{l:au}(e:l.length<=1000)(c:∀q∈l,q.List.length<=1000)(j:∀q∈l,∀b∈q.List,b.b8.length<=1000):RY l=some (decide (aO2 l)):=by
 have g:∀q∈l,KU q=some (!decide (QuV q)):=λq d=>by
  unfold KU AL;by_cases h:q.List.length<=12
  .rw[qH,aTQ (c q d) (f:=λx=>!decide (aEA x)) (λx i=>by grind[NA,a54]),aE];congr 1;rw[<-Bool.not_not ((q.List.any λx=>!decide (aEA x))),aZS];congr 1;rw[XA,decide_eq_true_eq,decide_eq_true_eq];exact⟨λa=>⟨h,a⟩,λa=>a.2⟩
  .rw[cX,dV (show ¬QuV q from λa=>h a.1)];rfl
 unfold RY GU;by_cases h:l.length=3
 .rw[cX,aO4 e g,aE,aZS];congr 1;rw[XA,decide_eq_true_eq,decide_eq_true_eq];exact⟨λa=>⟨h,a⟩,λa=>a.2⟩
 .rw[qH,dV (show ¬aO2 l from λa=>h a.1)]
def a76{b:Batch}(h:b.b8.length<=1000):zY b=some b/\KV b=some b:=by unfold zY KV DP vK;rw[EP];simp
def a2W{l:au}(g:l.length<=1000)(d:∀q∈l,q.List.length<=1000)(e:∀q∈l,∀b∈q.List,b.b8.length<=1000):LD l=some l/\KZ l=some l:=by
 constructor
 .unfold LD;rw[T5 l]
  .rfl
  .intro k a;have f:=d _ (dO a);simp only[LC];rw[cX,aET l[k].List]
   .simp only[aE,VV,VU];rw[EP,cY];rfl
   .intro i c;simp only[LB,LA];rw[aZ a,aE,cX,aE,aZ c,aE,(a76 (e _ (dO a) _ (dO c))).1,aE,EP,cY];rfl
   simp_all[LB,aZ]
  grind[LC]
 .unfold KZ;rw[T5 l]
  .rfl
  .intro k a;have f:=d _ (dO a);simp only[KY];rw[cX,aZ a,aE,aET l[k].List]
   .simp only[aE,VO,VN];rw[EP,cY];rfl
   .intro i c;simp only[KX,KW];rw[cX,aZ c,aE,(a76 (e _ (dO a) _ (dO c))).2,aE,EP,cY];rfl
   grind[KX]
  grind[KY]
def a77:Table:=⟨⟨⟨⟨[],[]⟩,⟨[],[]⟩⟩,⟨0,[]⟩,[],[]⟩,[],[],[],[],0⟩
def aAP(t:au):Table:=⟨aW2,List.replicate 2 ⟨0,0,0⟩,List.replicate 3 W8,t,[],0⟩
def a2X{t:au}(a:t.length<=1000)(d:∀q∈t,q.List.length<=1000)(c:∀q∈t,∀b∈q.List,b.b8.length<=1000):OL t=some (if aO2 t then aAP t else a77)/\OH t=some (if aO2 t then aAP t else a77):=by
 unfold OL OH;rw[a53 a c,a55 a d c];simp only[aE];by_cases h:aO2 t
 .simp only[cB h,eP,aU,aT,aM h,aAM.1,aAM.2,aE,(a2W a d c).1,(a2W a d c).2];rw[PH,PH];exact⟨rfl,rfl⟩
 .simp only[dV h,oH,aS,aO h];exact⟨rfl,rfl⟩
def bAA{t:au}(h:aO2 t):TV (aAP t):=⟨a2F,⟨rfl,λx a=>by simp[aAP] at a;subst a;exact⟨.inl rfl,ae,ae⟩⟩,⟨rfl,λj b=>by grind[aAP]⟩,h,by show(0:Int)<=0/\(0:Int)<=1000000;omega⟩
def bFP(t:Table)(p:Int):Table:=if 0<=p/\p<=2 then CQ t p else t
def aCB{P:TR->Prop}{c:Prop}[Decidable c]{a b:TR}(e:c->P a)(d:¬c->P b):P (if c then a else b):=aj
def bI2(b:aA)(k:ba)(w:Int)(j:aK):(doF b k w j).l.length<=1:=by unfold doF;refine aCB (P:=λr=>r.l.length<=1) (λ_=>lR _) λ_=>aCB (P:=λr=>r.l.length<=1) (λ_=>lR _) λ_=>aCB (P:=λr=>r.l.length<=1) (λ_=>lR _) λ_=>aCB (P:=λr=>r.l.length<=1) (λ_=>lR _) λ_=>aCB (P:=λr=>r.l.length<=1) (λ_=>?_) λ_=>aCB (P:=λr=>r.l.length<=1) (λ_=>lR _) λ_=>aCB (P:=λr=>r.l.length<=1) (λ_=>lR _) λ_=>aCB (P:=λr=>r.l.length<=1) (λ_=>lR _) λ_=>aCB (P:=λr=>r.l.length<=1) (λ_=>lR _) λ_=>aCB (P:=λr=>r.l.length<=1) (λ_=>lR _) λ_=>aCB (P:=λr=>r.l.length<=1) (λ_=>lR _) λ_=>aCB (P:=λr=>r.l.length<=1) (λ_=>jR _) λ_=>lR _;grind
def bAB(t:Table)(p:Int):(bFP t p).Log.length<=t.Log.length+1:=by
 unfold bFP CQ;split
 .split
  .have:=bI2 t.aA t.bC p (iG t p);show(t.Log++_).length<=_;grind
  .split
   .omega
   .show(t.Log++_).length<=_;simp
 .omega
def QuS(m:Int)(q:aR):Prop:=(q.List.length:Int)<=m/\∀x∈q.List,x.b8.length<=1000
section
variable {b:aF} {i h:Int} (hc:Cu b i)
include hc
theorem bOK:xW (PC ⟨b,i,h⟩) (λx=>Cu b x.2.1):=by
 unfold PC KQ KP;refine .bind (aGG hc ai ai) λk ⟨_,g⟩=>.bind (below g aa) λj ⟨_,a⟩=>.ite (λ_=>.ite (λ_=>?_) λ_=>.ret a) λ_=>.ite (λ_=>?_) λ_=>.ret a
 .exact .bind (below a aa) λf ⟨_,d⟩=>.bind (aGG d ae ae) λe ⟨_,c⟩=>.ret c
 .exact .bind (below a aa) λf ⟨_,d⟩=>.bind (aGG d ae ae) λe ⟨_,c⟩=>.ret c
theorem bI3:xW (VL ⟨b,i,h⟩) (λx=>Cu b x.2.1):=by
 unfold VL vG;refine .bind (bOK hc) λg e=>.bind (below e aa) λf ⟨_,c⟩=>.ite (λ_=>?_) λ_=>.ite (λ_=>?_) λ_=>.ite (λ_=>?_) λ_=>.ret c
 .exact .bind (aGG c ai ai) λd ⟨_,a⟩=>.ret a
 .exact .bind (aGG c ai ai) λd ⟨_,a⟩=>.ret a
 .exact .bind (aGG c ai ai) λd ⟨_,a⟩=>.ret a
theorem bMM:xW (RV ⟨b,i,h⟩) (λx=>x.1.b8.length<=1000/\Cu b x.2.1):=by unfold RV;refine .bind (bJ1 hc aa) λk c=>.ite (λ_=>.ret ⟨ae,c⟩) λ_=>.bind (below c aa) λj ⟨d,g⟩=>?_;rw[cY];refine .bind (P:=λx=>x.2.2.length<=1000/\Cu b x.1) (.loop (λs=>s.1.toNat) (λs=>(0<=s.1/\s.1+s.2.2.2.length<=10)/\Cu b s.2.1) ⟨⟨aa,ah⟩,g⟩ ?_) λx d=>.ret d;rintro⟨n,p,c,l⟩ ⟨⟨f,e⟩,a⟩;simp only at f e a;simp only[aBA,PY];refine .ite (λq=>?_) (λq=>.ret ⟨aj,a⟩);have m:=of_decide_eq_true q;refine .bind (bOK a) λo r=>.need ah (.ret ?_);grind[cK]
theorem a2Y{m:Int}(A:0<=m/\m<=12):xW (BX ⟨b,i,h⟩ m) (λx=>(x.1.length=3/\∀q∈x.1,QuS m q)/\Cu b x.2.1):=by
 unfold BX;refine .bind (P:=λx=>(x.1.length=3/\∀q∈x.1,QuS m q)/\Cu b x.2.1) (.loop (λs=>3-s.2.1.toNat) (λs=>((s.1.length:Int)=s.2.1/\s.2.1<=3/\∀q∈s.1,QuS m q)/\Cu b s.2.2.1) ⟨⟨rfl,ae,ae⟩,hc⟩ ?_) λx w=>.ret w;rintro⟨l,k,z,D⟩ ⟨⟨e,u,g⟩,d⟩;simp only at e u g d;simp only[VK];refine .ite (λq=>?_) (λq=>?_)
 .have p:=of_decide_eq_true q;rw[cY (x:=m+1)];refine .bind (below d aa) λn ⟨y,f⟩=>?_;refine .bind (P:=λx=>QuS m ⟨x.2.2⟩/\Cu b x.1) (.loop (λs=>s.1.toNat) (λs=>(0<=s.1/\s.1+s.2.2.2.length<=m/\∀o∈s.2.2.2,o.b8.length<=1000)/\Cu b s.2.1) ⟨⟨y.1,ah,ae⟩,f⟩ ?_) ?_
  .rintro⟨n,v,f,ops⟩ ⟨⟨t,r,c⟩,a⟩;simp only at t r c a;simp only[VH,KR];refine .ite (λq=>?_) (λq=>?_)
   .have j:=of_decide_eq_true q;refine .bind (bMM a) λo ⟨C,B⟩=>.need ah (.ret ?_);grind[cK]
   .have j:¬0<n:=aj
    exact .ret ⟨⟨aj,c⟩,a⟩
  .rintro⟨v,f,ops⟩ ⟨c,a⟩;simp only[VJ,VG];refine .need ah (.ret ?_);grind[cK]
 .have p:¬k<3:=aj
  exact .ret ⟨⟨aj,g⟩,d⟩
def aZT(l:au):Prop:=l.length<=3/\∀q∈l,QuS 100 q
omit hc in
theorem a2Z{l:au}(a:aZT l)(k:Nat){q:aR}(d:QuS 100 q):aZT (l.set k q):=⟨by simpa using a.1,λx c=>(nM c).elim (a.2 x) (λe=>e ▸ d)⟩
omit hc in
theorem aZU{l:bf}{m:Int}(h:QuS m ⟨l⟩)(d:m+1<=n){x:Batch}(c:x.b8.length<=1000):QuS n ⟨l++[x]⟩:=⟨by have:=h.1;grind,λy a=>by
 obtain a|a:=j4.1 a
 .exact h.2 y a
 grind⟩
omit hc in
theorem aJ3{m:Int}{q:aR}(h:QuS m q)(a:m<=n):QuS n q:=⟨by have:=h.1;omega,h.2⟩
theorem bAC:xW (GR ⟨b,i,h⟩) (λx=>aZT x.1/\Cu b x.2.1):=by
 unfold GR;refine .bind (a2Y hc aa) λB ⟨⟨o,d⟩,u⟩=>.bind (below u aa) λF ⟨_,j⟩=>?_;have hT:aZT B.1:=⟨aa,λq a=>aJ3 (d q a) aa⟩;simp only[mJ,TC,HY];refine .ite (λ_=>?_) λ_=>.ite (λ_=>?_) λ_=>.ite (λ_=>?_) λ_=>.ite (λ_=>?_) λ_=>?_
 .exact .need aa (.ret ⟨⟨ah,λq a=>hT.2 q (List.mem_of_mem_take (by simpa using a))⟩,j⟩)
 .refine .bind (.idx aa) λA E=>?_;have g:=d _ E;have:=g.1;exact .need ah (.ret ⟨a2Z hT _ (aZU (m:=5) (l:=A.List) g aa ae),j⟩)
 .refine .bind (P:=λx=>aZT x.1/\Cu b x.2.1) (.loop (λs=>20-((s.1.getD 1 ⟨[]⟩).List.length)) (λs=>(s.1.length=3/\∀q∈s.1,QuS 13 q)/\Cu b s.2.1) ⟨⟨o,λq a=>aJ3 (d q a) aa⟩,j⟩ ?_) ?_
  .rintro⟨l,D,u⟩ ⟨⟨o,d⟩,f⟩;simp only at o d f;simp only[TD,HX];have c:idx l 1=some l[1]:=aZ (k:=1) aa;have v:=d _ (dO (show 1<l.length by omega));have z:=v.1;rw[c];simp only[aE];refine .bind (below f aa) λx ⟨y,e⟩=>.ite (λq=>?_) (λq=>?_)
   .have C:=of_decide_eq_true q;rw[cY] at C;refine .need ah (.ret ?_);refine⟨⟨⟨by simp[o],λx c=>?_⟩,e⟩,?_⟩
    .obtain c|c:=nM c
     .grind
     .rw[c];exact⟨ah,(aZU (m:=13) (n:=14) (l:=l[1].List) v aa (x:=⟨true,[]⟩) ae).2⟩
    grind
   .exact .ret ⟨⟨aj,λq a=>aJ3 (d q a) aa⟩,e⟩
  .rintro⟨l,D,u⟩ c;exact .ret c
 .refine .bind (.idx aa) λp t=>.bind (bI3 j) λw r=>?_;have g:=d _ t;have:=g.1;exact .need ah (.ret ⟨a2Z hT _ (aZU (m:=5) (l:=p.List) g aa ae),r⟩)
 .exact .ret ⟨hT,j⟩
theorem bI4{m:Int}(D:m<=100):xW (OF ⟨b,i,h⟩ m) (λx=>x.1.length<=4000/\Cu b x.2.1):=by
 unfold OF;refine .bind (below hc aa) λy ⟨c,f⟩=>?_;refine .bind (P:=λx=>x.1.length<=4000/\Cu b x.2.1) (.loop (λs=>s.2.1.toNat) (λs=>(0<=s.2.1/\s.1.length+8*s.2.1<=4000)/\Cu b s.2.2.1) ⟨⟨c.1,ah⟩,f⟩ ?_) λx w=>.ret w;rintro⟨l,n,B,f⟩ ⟨⟨t,p⟩,a⟩;simp only at t p a;simp only[X5];refine .ite (λq=>?_) (λq=>?_)
 .have A:=of_decide_eq_true q;refine .bind (below a aa) λj ⟨_,d⟩=>.bind (below d aa) λg ⟨e,o⟩=>?_;rw[cY];refine .bind (P:=λx=>(x.length:Int)<=l.length+8) (.loop (λs=>s.2.toNat) (λs=>0<=s.2/\(s.1.length:Int)+s.2<=l.length+8) ⟨aa,aj⟩ ?_) ?_
  .rintro⟨r,k⟩ ⟨v,u⟩;simp only at v u;simp only[X3];refine .ite (λq=>?_) (λq=>?_)
   .have z:=of_decide_eq_true q;refine .need ah (.ret ?_);grind[cK]
   .exact .ret aa
  .intro r C;simp only[X4,X2];refine .ret ?_;grind[cK]
 .exact .ret ⟨aj,a⟩
end
def a56{code:aF}(d:code.length<=1048576):xW (mK code) (λx=>aZT x.aY/\x.bG.length<=5000):=by unfold mK;refine .bind (bOH d) λm i=>.bind (a2Y i aa) λb ⟨⟨n,c⟩,h⟩=>.bind (bI4 h aa) λl ⟨p,g⟩=>.bind (below g aa) λk ⟨_,f⟩=>?_;have hT:aZT b.1:=⟨aa,λq a=>aJ3 (c q a) aa⟩;simp only[mC];refine .ite (λ_=>.bind (bAC f) λj ⟨e,_⟩=>.ret ⟨e,aj⟩) λ_=>.ite (λ_=>.need ah (.ret ⟨hT,ah⟩)) λ_=>.ret ⟨hT,aj⟩
def aZT.fit{l:au}(h:aZT l):l.length<=1000/\(∀q∈l,q.List.length<=1000)/\∀q∈l,∀b∈q.List,b.b8.length<=1000:=⟨by have:=h.1;omega,λq a=>by have:=(h.2 q a).1;omega,λq a=>(h.2 q a).2⟩
def aTR:al->Int->al
 |[],x=>[x]
 |a::t,x=>if a=x then a::t else if x<a then x::a::t else a::aTR t x
def a21{x:Int}:∀{l:al},l.Pairwise (· < ·)->x∈l->aTR l x=l
 |[],_,h=>by cases h
 |a::t,d,h=>by
  have c:=a6D.1 d;unfold aTR;split
  .rfl
  .rename_i ne;have b:x∈t:=aj
   have:=c.1 x b;rw[qU,a21 c.2 b]
section
variable {l:al} (hl:l.length<=1000) {x:Int}
include hl
theorem a23:∀d k:Nat,k+d=l.length->(∀y∈l.drop k,y≠x)->∀out:al,out.length<=100000+k->loop (lM l x) (out,true,(k:Int))=some (Out.brk (out++l.drop k,true))
 |0,k,e,_,out,_=>by simp_all[bR,lM]
 |d + 1,k,e,c,out,g=>by
  have a:k<l.length:=aa
  have f:l.drop k=l[k]::l.drop (k+1):=EU a;have b:(l[k] == x)=false:=aj
  rw[bO (s':=(out++[l[k]],true,((k+1:Nat):Int))) (by
   simp only[lM,vT,vS];rw[cX,aZ a,aE,b];simp only[aU,aT,eP,aE];grind[b7,cK]),a23 d (k+1) aa (λy h=>c y aj) (out++[l[k]]) ah,f,QX]
  rfl
theorem a25:∀d k:Nat,k+d=l.length->(l.drop k).Pairwise (· < ·)->∀out:al,out.length<=50000+k->((loop (lM l x) (out,false,(k:Int))).bind λo=>B9 x o)=some (if x∈l.drop k then l else out++aTR (l.drop k) x)
 |0,k,m,_,out,j=>by rw[bR (r:=Out.brk (out,false)) (by simp_all[lM]),aE];simp only[B9,TL,B8];rw[List.drop_of_length_le aa,aM ae,EP,fF];rfl
 |d + 1,k,m,i,out,j=>by
  have a:k<l.length:=aa
  have c:l.drop k=l[k]::l.drop (k+1):=EU a;have b:=i;rw[c] at b;obtain⟨q,n⟩:=a6D.1 b;by_cases e:l[k]=x
  .simp_all[bR,lM,aZ,B9]
  have f:(l[k] == x)=false:=aj
  by_cases g:x<l[k]
  .have h:∀y∈l.drop (k+1),y≠x:=λy p=>aj
   rw[bO (s':=(out++[x]++[l[k]],true,((k+1:Nat):Int))) (by
    simp only[lM,vT,vS];rw[cX,aZ a,aE,f,cB g];simp only[aU,aT,oH,aS,aE];grind[b7,cK]),a23 hl d (k+1) aa h _ ah,aE]
   simp only[B9,TL,B8,eP,aU,aT];rw[aO aj,c];unfold aTR;grind
  .rw[bO (s':=(out++[l[k]],false,((k+1:Nat):Int))) (by
    simp only[lM,vT,vS];rw[cX,aZ a,aE,f,dV g];simp only[aU,aT,oH,aS,aE];grind[b7,cK]),a25 d (k+1) aa n (out++[l[k]]) ah,c]
   have s:aTR (l[k]::l.drop (k+1)) x=l[k]::aTR (l.drop (k+1)) x:=by
    conv=>lhs;unfold aTR
    grind
   grind
theorem put_eq(a:l.Pairwise (· < ·)):VX l x=some (aTR l x):=by have:=a25 hl (x:=x) l.length 0 aa aj [] ae;simp_all[VX,a21]
end
def aW9{ρ:Type}{f:Int->Option (Step Int ρ)}(l:List O)(p:O->Bool)(g:O->ρ)(no:ρ)(n:∀k (h:k<l.length),p l[k]=false->f (k:Int)=some (.next ((k+1:Nat):Int)))(m:∀k (h:k<l.length),p l[k]=true->f (k:Int)=some (.stop (g l[k])))(j:f (l.length:Int)=some (.stop no)) :
    loop f 0=some (match l.find? p with|some x=>g x|none=>no):=by
  have c:∀d k:Nat,k+d=l.length->loop f (k:Int)=some (match (l.drop k).find? p with|some x=>g x|none=>no):=by
    intro d;induction d with
    | zero => intro k i; obtain rfl : k = l.length := by omega
              rw[bR j,List.drop_length];rfl
    |succ d e=>
      intro k i;have a:k<l.length:=aa
      rw[EU a];cases b:p l[k]
      · rw[bO (n k a b),e (k+1) aa,List.find?_cons_of_neg (by simp[b])]
      · rw[bR (m k a b),List.find?_cons_of_pos b]
  exact c l.length 0 aa
def a26(c:l.length<=1000)(k:Int):R7 l k=some (aFB l k):=by
 have a:=aW9 (f:=yY l k) l (λy=>y.Key == k) (λx=>(Out.ret (x,true):Out Unit (aW×Bool))) (Out.brk ()) (λi h b=>by
  simp only[yY];rw[cX,aZ h,aE,b,fF,cY];rfl) (λi h b=>by
  simp only[yY];rw[cX,aZ h,aE,aM b,aE]) (by simp[yY])
 unfold R7 aFB;rw[a];cases l.find? (λy=>y.Key == k)<;>rfl
def a27{l:bo}(d:l.length<=1000)(b v:Int):R8 l b v=some (IZ l b v):=by
 have a:=aW9 (f:=yZ l b v) l (λy=>y.dR == b) (λx=>(Out.ret (l,x.iF == v):Out Unit (bo×Bool))) (Out.brk ()) (λi h c=>by
  simp only[yZ];rw[cX,aZ h,aE,c,fF,cY];rfl) (λi h c=>by
  simp only[yZ];rw[cX,aZ h,aE,aM c,aE];rfl) (by simp[yZ])
 unfold R8 IZ;rw[EP,a];cases l.find? (λy=>y.dR == b)
 .simp only[aE,aBL,aBK,aHI];rw[EP]
 .rfl
def bAD(m:l.length<=1000)(x:aW):∀d k:Nat,k+d=l.length->∀(out:aw) (b:Bool),out.length+(if b then 0 else 1)<=k+1 ->
  (loop (pM l x) (out,b,(k:Int))).bind (DU x)=some (out++if b then(l.drop k).filter (λy=>!(y.Key == x.Key)) else((l.drop k).filter λy=>!(y.Key == x.Key)).takeWhile (λy=>!decide (x.Key<y.Key))++[x]++((l.drop k).filter λy=>!(y.Key == x.Key)).dropWhile (λy=>!decide (x.Key<y.Key))):=by
 intro d;induction d with
 |zero=>
  intro k j out b h;obtain rfl:k=l.length:=aa
  rw[bR (show pM l x (out,b,(l.length:Int))=some (.stop (out,b)) by simp[pM]),List.drop_length];cases b
  .simp only[aE,DU,NF,vR,oH,aS];rw[EP];simp
  .simp[DU,NF,vR]
 |succ d c=>
  intro k j out b h;have a:k<l.length:=aa
  have f:out.length<=k+1:=aa
  have i:bB ((k:Int)+1)=((k+1:Nat):Int):=cY;rw[EU a];generalize g:l[k]=y;have step:pM l x (out,b,(k:Int))=some (.next (if y.Key=x.Key then(out,b,((k+1:Nat):Int)) else if b then(out++[y],true,((k+1:Nat):Int)) else if x.Key<y.Key then(out++[x]++[y],true,((k+1:Nat):Int)) else(out++[y],false,((k+1:Nat):Int)))):=by
   simp only[pM,DR,DS,DT];rw[cX,aZ a];simp only[aE,g,i];by_cases e:y.Key=x.Key
   .simp[e]
   .rw[aO (by simpa using e),aO e];cases b
    .simp only[oH,aS,aU,aT];by_cases lt:x.Key<y.Key
     .rw[aM (by simpa using lt),EP,EP,aM lt]
     .rw[aO (by simpa using lt),EP,aO lt]
    .simp only[eP,aU,aT,aS];rw[EP]
  rw[bO step];by_cases e:y.Key=x.Key
  .rw[aM e,c (k+1) aa _ _ aj,List.filter_cons_of_neg (by simp[e])]
  .rw[aO e,List.filter_cons_of_pos (by simpa using e)];cases b
   .by_cases lt:x.Key<y.Key
    .rw[fF,aM lt,c (k+1) aa _ _ aj];simp[List.takeWhile_cons,List.dropWhile_cons,lt]
    .rw[fF,aO lt,c (k+1) aa _ _ aj];simp[List.takeWhile_cons,List.dropWhile_cons,lt]
   .rw[aM rfl,c (k+1) aa _ _ aj];simp
def aZV(a:l.length<=1000)(x:aW):OO l x=some (aF9 l x):=by unfold OO aF9;rw[show(([]:aw),false,(0:Int))=(([]:aw),false,((0:Nat):Int)) from rfl,bAD a x l.length 0 aa [] false ae];simp
def aEZ(k:Int):IA k=some (ER k):=by unfold IA ER;rw[cJ,aE];grind
def bMN(a b:Bool)(c:Int)(d:c=0\/c=1):aTR ((if a then [0] else [])++(if b then [1] else [])) c=(if a || c == 0 then [0] else [])++(if b || c == 1 then [1] else []):=by obtain rfl|rfl:=d<;>cases a<;>cases b<;>rfl
def a28(i:l.length<=12)(g:∀x∈l,0<=x.Key/\x.Key<=99):SB l=some (tQ l):=by
 have b:loop (y6 l) (([]:al),0)=some (tQ l):=by
  have:=kL (f:=y6 l) l.length (λk=>(tQ (l.take k),(k:Int))) (tQ l) (λk a=>by
   have h:=g l[k] (dO a);have d:(tQ (l.take k)).Pairwise (· < ·):=by unfold tQ;split<;>split<;>simp
   have c:=aY4 (l.take k);have e:tQ (l.take (k+1))=aTR (tQ (l.take k)) (l[k].Key % 2):=by unfold tQ;rw[bMN _ _ _ aa,UR a,List.any_append,List.any_append];simp only[List.any_cons,List.any_nil,Bool.or_false]
   simp only[y6,G9];rw[cX,aZ a,aE,aEZ,aE,show ER l[k].Key=l[k].Key % 2 by grind[ER],cX,aE,aEZ,aE,show ER l[k].Key=l[k].Key % 2 by grind[ER],put_eq aa d,aE,e,cY];rfl) (by
   simp[y6])
  exact this
 unfold SB;rw[b];rfl
def aTS(f:lX m)(x:Int):∃a c,DV m x=some (a,c)/\(if j3 x/\0<=bH m.Heap (x % 32)/\10<=gQ (bH m.Heap (x % 32)) then a=(NN m.Heap (x % 32):Int)/\c=0 else c≠0):=by
 have d:=f.1.1.1;unfold DV;rw[eB,aE];by_cases hh:j3 x
 .rw[cB hh,fF,cZ,aM hh,aE,iY d,aE];unfold G7;by_cases e:bH m.Heap (x % 32)<0
  .rw[cB e,aM rfl];exact⟨_,_,rfl,by rw[qU];decide⟩
  .rw[dV e,fF,cZ,aM hh,aE,iY d,aE,qI,aE];by_cases b:10<=gQ (bH m.Heap (x % 32))
   .rw[qH,aE,(start_eq d aa).1,aE];refine⟨_,_,rfl,?_⟩;rw[aM ⟨hh,aa,b⟩];have:=(oT (h:=m.Heap) (s:=x % 32) aa);grind[NN]
   .rw[cX];exact⟨_,_,rfl,by rw[qU];decide⟩
 .rw[dV hh,aM ak];exact⟨_,_,rfl,by rw[aO (λq=>hh q.1)];decide⟩
def a78(d:lX m)(x:Int):PF m x=some (W6 m.Heap x):=by
 have b:=d.1.1.1;obtain⟨a,c,e,h⟩:=aTS d x;unfold PF W6;rw[e,aE];by_cases q:j3 x/\0<=bH m.Heap (x % 32)/\10<=gQ (bH m.Heap (x % 32))
 .rw[aM q] at h;obtain⟨rfl,rfl⟩:=h;have f:=(aAL q.2.1 q.2.2).1;have g:=b.1;rw[fF,aM q];unfold ZU bIS;rw[show(2:Int)=((2:Nat):Int) from rfl,show(4:Int)=((4:Nat):Int) from rfl,qJ b.2.2.1 aa aa aa,aE,
   cY,show(NN m.Heap (x % 32):Int)+((2:Nat):Int)=((NN m.Heap (x % 32)+2:Nat):Int) by omega,qJ b.2.2.1 aa aa aa,aE,
   cY,show(NN m.Heap (x % 32):Int)+6=((NN m.Heap (x % 32)+6:Nat):Int) by omega,qJ b.2.2.1 aa aa aa];rfl
 .rw[aO q] at h;rw[aM (by simpa using h),aO q];rfl
def bI5{b:al}{a:Nat}(h:a+2<=b.length)(e:b.length<=100000)(hn:0<=n/\n<=65535):jE b (a:Int) 2 n=some (nL b a (aGD n)):=by
 have st:∀(c:al) (m:Int) (i:Nat),c.length=b.length->0<=m->m<=4294967295->i<2->oA (a:Int) (c,m,(i:Int))=some (.next (c.set (a+i) (m % 256),m/256,(i:Int)-1)):=λc m i g d j f=>by simp only[oA];rw[aM ae,cY (x:=(a:Int)+i),show(a:Int)+i=((a+i:Nat):Int) by omega,UO,aE,zC d,aJN d,cY (x:=m/256),cY (x:=(i:Int)-1),MK]
 unfold jE;rw[show bB (2-1)=((1:Nat):Int) from by grind[cK],bO (st b n 1 rfl hn.1 aa aa),show((1:Nat):Int)-1=((0:Nat):Int) by rfl,
  bO (st _ _ 0 ae aa aa aa),bR (r:=nL b a (aGD n))]
 .rfl
 .simp only[oA];rw[fF];simp only[aGD,nL,W5 (show 0<=n/256 by omega),W5 hn.1];rw[List.set_comm _ _ aa];rfl
def aZW{b:al}{a:Nat}(h:a+4<=b.length)(c:b.length<=100000)(hn:0<=n/\n<=4294967295):jE b (a:Int) 4 n=some (nL b a (F5 n)):=by
 rw[aEU h c hn];have e:n/16777216 % 256=n/16777216:=aa
 simp only[MP,F5,nL,W5 (show 0<=n/16777216 by omega),W5 (show 0<=n/65536 by omega),W5 (show 0<=n/256 by omega),W5 hn.1,e]
def aLW:∀(s t:aF) (b:al) (a:Nat),nL b a (s++t)=nL (nL b a s) (a+s.length) t
 |[],t,b,a=>rfl
 |c::s,t,b,a=>by show nL _ (a+1) (s++t)=nL (nL _ (a+1) s) _ t;rw[aLW s t];congr 1;simp;omega
def a57(n:fS):VZ n=some (decide (aZN n)):=by grind[VZ,aZN,cJ,aJX,CA]
def a29(i:lX m)(x:Int)(n:fS):∃c,SD m x n=some (aTD m x n,c):=by
 obtain⟨o,A,z,C,B,j,v,t,s,r⟩:=lX.facts i;have w:=i.1.1.1;have l:m.Heap.Bytes.length<=maxLen:=by grind[maxLen]
 unfold SD aTD;rw[I0 j,aE,z7 l aa,cB i,aE,fF,a57,aE];unfold HB;by_cases d:aZN n
 .rw[cB d,fF,lY w aa aa aa,aE];by_cases f:lE m x
  .obtain⟨a,c,e,h⟩:=aTS i x;have g:=jB f.2.1;rw[cB f,fF,e,aE];by_cases b:10<=gQ (bH m.Heap (x % 32))
   .rw[aM ⟨f.1,g,b⟩] at h;obtain⟨rfl,rfl⟩:=h;have y:=(aAL g b).1;have k:=aJ2 d.2.2;have u:=d.1.2;have p:=d.2.1.2;rw[fF,aM ⟨d,f,b⟩];unfold aC8;rw[bI5 aa aa ⟨d.1.1,aa⟩,aE,cY,show(NN m.Heap (x % 32):Int)+2=((NN m.Heap (x % 32)+2:Nat):Int) by omega,aZW (by rw[CP];omega) (by rw[CP];omega) ⟨d.2.1.1,aa⟩,aE,
     cY,show(NN m.Heap (x % 32):Int)+6=((NN m.Heap (x % 32)+6:Nat):Int) by omega,aZW (by rw[CP,CP];omega) (by rw[CP,CP];omega) ⟨k.1,aa⟩,aE,aE]
    exact⟨0,by rw[bME,aLW,aLW];rfl⟩
   .rw[aO (λq=>b q.2.2)] at h;rw[aM (by simpa using h),aO (λq=>b q.2.2)];exact⟨_,rfl⟩
  .rw[dV f,aM ak,aO (λq=>f q.2.1)];exact⟨_,rfl⟩
 .rw[dV d,aM ak,aO (λq=>d q.1)];exact⟨_,rfl⟩
def a58(i:lX m)(x y:Int):∃c,VY m x y=some (Gv.aTE m x y,c):=by
 obtain⟨n,w,v,A,z,j,s,r,p,o⟩:=lX.facts i;have t:=i.1.1.1;have l:m.Heap.Bytes.length<=maxLen:=by grind[maxLen]
 unfold VY Gv.aTE;rw[I0 j,aE,z7 l aa,cB i,aE,fF,aJX,aE];unfold LI;by_cases g:fH y
 .rw[cB g,fF,lY t aa aa aa,aE];by_cases d:lE m x
  .obtain⟨a,c,e,h⟩:=aTS i x;have f:=jB d.2.1;rw[cB d,fF,e,aE];by_cases b:10<=gQ (bH m.Heap (x % 32))
   .rw[aM ⟨d.1,f,b⟩] at h;obtain⟨rfl,rfl⟩:=h;have u:=(aAL f b).1;have k:=aJ2 g;rw[fF,aM ⟨g,d,b⟩,cY,show(NN m.Heap (x % 32):Int)+6=((NN m.Heap (x % 32)+6:Nat):Int) by omega,aZW aa aa ⟨k.1,aa⟩];exact⟨_,rfl⟩
   .rw[aO (λq=>b q.2.2)] at h;rw[aM (by simpa using h),aO (λq=>b q.2.2)];exact⟨_,rfl⟩
  .rw[dV d,aM ak,aO (λq=>d q.2.1)];exact⟨_,rfl⟩
 .rw[dV g,aM ak,aO (λq=>g q.1)];exact⟨_,rfl⟩
def a3A(b:lX m)(g:0<=w/\w<=2)(x:Int):∃c,SF m w x=some (a2I m w x,c):=by
 obtain⟨f,n,l,p,o,d,k,j,i,h⟩:=lX.facts b;have e:m.Heap.Bytes.length<=maxLen:=by grind[maxLen]
 unfold SF a2I;rw[I0 d,aE,z7 e aa,cB b,aE,fF,cJ,cB g,aE];unfold HD;rw[fF,lY b.1.1.1 aa aa aa,aE];by_cases a:lE m x
 .rw[cB a,fF,cZ,aM a.1,aE,aJU b g a,aM a];exact⟨_,rfl⟩
 .rw[dV a,aM ak,aO a];exact⟨_,rfl⟩
def aJ4(n:fS):sU n=some (W7 n):=by unfold sU W7;rw[eB,aE];grind
def a3B(i:l.length<=1000)(hn:0<=n):YA l n=some (mQ l n):=by
 have d:∀k:Nat,0<=mQ l k/\mQ l k<=k:=λk=>by have:=List.length_filter_le (λx:aW=>!x.NP) (l.take k);have:=List.length_take_le k l;unfold mQ;rw[MK];omega
 have b:loop (LG l n) (0,0)=some (mQ l n):=by
  have:=kL (f:=LG l n) (min l.length n.toNat) (λk=>(mQ l k,(k:Int))) (mQ l n) (λk j=>by
   have c:=d k;have a:k<l.length:=aa
   have e:mQ l ((k+1:Nat):Int)=mQ l k+if l[k].NP then 0 else 1:=by unfold mQ;rw[MK,MK,UR a,List.filter_append];cases h:l[k].NP<;>simp[h]
   simp only[LG,LF,SA];rw[cX,cB aa,aM rfl,aZ a,aE,e,cY (x:=(k:Int)+1),cY (x:=mQ l k+1)];grind) (by
   simp only[LG,LF];by_cases g:l.length<=n.toNat
   .rw[Nat.min_eq_left g,fF,fF];unfold mQ;rw[MK,aHJ (jR _),aHJ g]
   .rw[Nat.min_eq_right aa,cX,dV aa,fF];unfold mQ;rw[MK])
  exact this
 unfold YA;rw[b];rfl
def bI6{a b:Int}(d:0<=a/\a<=4294967295)(c:0<=b/\b<=65535):VW a b=some (aHA a b):=by unfold VW aHA;rw[zC d.1,zC c.1,cY (x:=a+b),cY (x:=a % 65536+b % 65536),cY,zC aa,zC aa];congr 1;omega
def aXA(a:j.aL.length<=1000)(x:aW):FN j x=some (I7 j x).2:=by
 unfold FN I7;rw[aZV a,aE];by_cases h:6<(aF9 j.aL x).length
 .rw[cX,aM h];rfl
 .rw[qH,aO h]
def a79(a:j.Pc≠16)(x:aW):((I7 j x).2.Pc == 16)=!(I7 j x).1:=by
 unfold I7;split
 .rfl
 .simpa using a
def bFR(j:aK):Prop:=j.aL.length<=1000/\j.eD.length<=1000/\(0<=j.At/\j.At<=1000)/\j.Batch.b8.length<=1000/\(∀c∈j.Batch.b8,0<=c.cT/\c.cT<=65535)/\j.Pc≠16
def aZX(h:bFR j)(a:QK j):idx j.Batch.b8 j.At=some (fP j)/\0<=(fP j).cT/\(fP j).cT<=65535:=by
 have c:j.At<j.Batch.b8.length:=a;have b:=h.2.2.1;have e:fP j=j.Batch.b8[j.At.toNat]' aa:=by grind[fP]
 rw[eQ b.1 c,e];exact⟨rfl,h.2.2.2.2.1 _ (dO _)⟩
def aTT(h:bFR j)(k:QK j){v:Int}(g:0<=v/\v<=4294967295)(is:Bool):B7 j is v=some (aVY j (fP j) v is):=by
 obtain⟨e,c⟩:=aZX h k;obtain⟨f,p,o,n,m,d⟩:=h;have a:∀u,(0<=u/\u<=4294967295)->sS j is (fP j) u=some (if(fP j).Kind=4 then a91 j (fP j) u else aO1 j is u):=λu i=>by
  unfold sS;by_cases b:(fP j).Kind=4
  .rw[aM (by simpa using b),aM b,bI6 i c,aE,aXA f,aE,a79 d];obtain⟨l,q⟩:=Y1 j ⟨(fP j).Key,false,aHA u (fP j).cT⟩;unfold a91;cases h:(I7 j ⟨(fP j).Key,false,aHA u (fP j).cT⟩).1
   .simp
   .rw[fF,aM rfl];unfold sQ aO1;rw[b7 (by rw[l];simp;omega),cY]
  .rw[aO (by simpa using b),aO b];unfold sQ aO1;rw[EP,cY]
 unfold B7 aVY;rw[e,aE];cases is
 .rw[aM ak,a 0 aa];rfl
 .rw[fF,a v g];rfl
def bI7(h:∀x∈l,0<=x.cT/\x.cT<=65535)(k:Int):0<=(aFB l k).1.cT/\(aFB l k).1.cT<=65535:=by
 unfold aFB;cases e:l.find? (λy=>y.Key == k)
 .exact⟨Int.le_refl _,ai⟩
 .exact h _ (List.mem_of_find?_eq_some e)
def a3C(h:bFR j)(b:∀x∈j.aL,0<=x.cT/\x.cT<=65535):G6 j=some (a5L j):=by
 have hh:=h;obtain⟨g,r,q,p,o,l⟩:=h;unfold G6 a5L;by_cases a:QK j
 .have c:j.At<j.Batch.b8.length:=a;obtain⟨e,k⟩:=aZX hh a;rw[qH,aM a,e,aE];have put:(fP j).Kind=2\/(fP j).Kind=3->mM j (fP j) true=some (if(I7 j ⟨(fP j).Key,(fP j).Kind == 3,(fP j).cT⟩).1 then {(I7 j ⟨(fP j).Key,(fP j).Kind == 3,(fP j).cT⟩).2 with At:=j.At+1,eD:=j.eD++[⟨false,0⟩]} else(I7 j ⟨(fP j).Key,(fP j).Kind == 3,(fP j).cT⟩).2):=λ_=>by
   unfold mM;rw[aM rfl,aXA g,aE,a79 l];obtain⟨i,n⟩:=Y1 j ⟨(fP j).Key,(fP j).Kind == 3,(fP j).cT⟩;cases (I7 j ⟨(fP j).Key,(fP j).Kind == 3,(fP j).cT⟩).1
   .simp
   .rw[fF,aM rfl,b7 (by rw[i];simp;omega)];simp only[i,n];rw[cY]
  by_cases f:(fP j).Kind=2
  .have kk:(fP j).Kind=2\/(fP j).Kind=3:=.inl f;rw[aM (by simpa using f),put kk,aM kk]
  .rw[aO (by simpa using f)];by_cases d:(fP j).Kind=3
   .have kk:(fP j).Kind=2\/(fP j).Kind=3:=.inr d;have m:((fP j).Kind == 3)=true:=by simpa using d
    rw[m] at put ⊢;rw[put kk,aM kk]
   .rw[show((fP j).Kind == 3)=false by simpa using d,qU];unfold mM;rw[fF,a26 g,aE];have s:=bI7 b (fP j).Key;cases (aFB j.aL (fP j).Key).2
    .rw[fF,fF,aEZ];rfl
    .rw[aM rfl,aM rfl,aTT hh a aa];rfl
 .have c:¬j.At<j.Batch.b8.length:=a;rw[cX,aO a];rfl
section
variable {t:Table} {w:Int} {j:aK} (h2:t.bC.length=2) (hb:lD t.aA) (hw:0<=w/\w<=2) (hj:JB j)
include h2 hb hw hj
theorem Y4:j.Batch.b8.length<=1000/\j.aL.length<=1000/\j.eD.length<=1000/\(0<=j.At/\j.At<=1000)/\j.Reads.length<=2:=Y2 (t:={t with aH:=[j,j,j]}) (w:=0) rfl h2 hb aa hj
theorem bFS(f:j.Pc≠16):bFR j:=by obtain⟨e,d,b,a,h⟩:=Y4 h2 hb hw hj;exact⟨d,b,a,e,λc g=>(hj.bat.2.2.1 c g).2.2.1,f⟩
theorem bFT(v:2<=j.Pc/\j.Pc<=5):R9 t w j=some (aTF t.aA t.bC w j):=by
 obtain⟨u,s,r,q,p⟩:=Y4 h2 hb hw hj;have d:=bFS h2 hb hw hj aa;have k:∀l,bFR {j with Reads:=l}:=λl=>d;unfold R9 aTF;rw[MJ h2 hj.bkt,aE,DZ hb.1.2.1 hw,aE];by_cases h:j.Pc=2
 .rw[aM (by simpa using h),aM h];by_cases b:(qL t.bC j.dR).jC=0
  .rw[aO (by simpa using b),aO (not_not_intro b)];by_cases hh:(qL t.bC j.dR).Head=0
   .rw[aM (by simpa using hh),aM hh];rfl
   .rw[aO (by simpa using hh),aO hh];rfl
  .rw[aM (by simpa using b),aM b];rfl
 .rw[aO (by simpa using h),aO h];by_cases g:j.Pc=3
  .rw[aM (by simpa using g),aM g,a78 hb.1.1];rfl
  .rw[aO (by simpa using g),aO g];by_cases f:j.Pc=4
   .rw[aM (by simpa using f),aM f];have off:rO j true=some (abF j 6):=rfl;have o:rO j false=some (if QK j then {j with Found:=j.Node.Key == (fP j).Key,H:=W7 j.Node,Pc:=if j.Node.Key=(fP j).Key\/W7 j.Node=0 then 5 else 3} else abF j 1):=by
     unfold rO;rw[fF];by_cases a:QK j
     .have c:j.At<j.Batch.b8.length:=a;rw[qH,(aZX d a).1,aE,aM a];unfold P5 G8 oE;rw[aJ4,aE];by_cases n:j.Node.Key=(fP j).Key
      .simp[n]
      .have e:(j.Node.Key == (fP j).Key)=false:=by simpa using n
       rw[e];by_cases m:W7 j.Node=0
       .simp[m]
       .simp[m,n]
     .have c:¬j.At<j.Batch.b8.length:=a;rw[cX,aO a];rfl
    cases x:(mD t.aA.aI w).On
    .rw[aM ak,off];simp
    .rw[fF];cases hm:(mD t.aA.aI w).gU
     .rw[o];simp
     .rw[off];simp
   .rw[aO (by simpa using f),aO f];have bad:y5 j true=some (abF j 7):=rfl;by_cases b:(qL t.bC j.dR).jC=0
    .rw[aO (by simpa using b)];by_cases i:(qL t.bC j.dR).iF=j.iF
     .rw[show((qL t.bC j.dR).iF != j.iF)=false by simpa using i,aO (by simp[b,i])];unfold y5;rw[fF,a27 aa,aE];cases m:(IZ j.Reads j.dR j.iF).2
      .rw[aM ak,aM rfl];rfl
      .rw[fF];by_cases a:QK j
       .have c:j.At<j.Batch.b8.length:=a;rw[qH,fF,aM a,aTT (k (IZ j.Reads j.dR j.iF).1) a hj.node];rfl
       .have c:¬j.At<j.Batch.b8.length:=a;rw[cX,fF,aO a];rfl
     .rw[show((qL t.bC j.dR).iF != j.iF)=true by simpa using i,bad,aM (.inr i)]
    .rw[aM (by simpa using b),bad,aM (.inl b)]
end
section
variable {t:Table} {w:Int} {j:aK} (h2:t.bC.length=2) (hb:lD t.aA) (hw:0<=w/\w<=2) (hj:JB j)
include h2 hb hw hj
def bT(t:Table)(p:aA×aK):Table×aK:=({t with aA:=p.1},p.2)
theorem aZY:IU t w j=some ({t with aA:=(gZ t.aA w j.Sub).1},{j with Sub:=(gZ t.aA w j.Sub).2},(gZ t.aA w j.Sub).2.eG):=by unfold IU;rw[aEV hb hw];rfl
theorem bAE:ON t w j=some (bT t (aV0 t.aA w j)):=by
 unfold ON aV0 bT;rw[aZY h2 hb hw hj,aE];generalize gZ t.aA w j.Sub=r;cases c:r.2.eG
 .simp[c]
 .simp only[c,eP,aU,Bool.true_eq_false,aT];by_cases b:j.Pc=0
  .rw[aM (by simpa using b),aM b];rfl
  .rw[aO (by simpa using b),aO b];by_cases a:j.Pc=20
   .rw[aM (by simpa using a),aM a];rfl
   .rw[aO (by simpa using a),aO a];rfl
theorem bAF:OQ t w j=some (bT t (a5M t.aA w j)):=by
 obtain⟨i,d,g,f,e⟩:=Y4 h2 hb hw hj;have l:=hj.k;have k:=hj.new.1;unfold OQ a5M bT;rw[a3B d aa,aE];by_cases a:mQ j.aL j.aL.length<=j.K
 .rw[aM (by simpa using a),aM a]
 .rw[aO (by simpa using a),aO a,aZY h2 hb hw hj,aE];generalize gZ t.aA w j.Sub=r;cases c:r.2.eG
  .simp[c]
  .simp only[c,eP,aU,Bool.true_eq_false,aT];have bad:∀x:Table,pN t true ⟨r.1,t.bC,t.aH,t.aY,t.Log,t.aG⟩ {j with Sub:=r.2}=some ({t with aA:=r.1},abF {j with Sub:=r.2} r.2.Code):=λ_=>rfl;by_cases b:r.2.Code=0
   .rw[aO (by simpa using b),eB,aE];by_cases hh:j3 r.2.Out
    .rw[cB hh,fF];by_cases m:6<=j.eC.length
     .rw[show decide (6<=(j.eC.length:Int))=true by simp;omega,bad t,aM (.inr (.inr aa))]
     .rw[show decide (6<=(j.eC.length:Int))=false by simp;omega,aO (by rintro(h|h|h);exact h b;exact h hh;omega)];unfold pN;rw[fF,EP,cY (x:=j.K+1)];rfl
    .rw[dV hh,aM ak,bad t,aM (.inr (.inl hh))]
   .rw[aM (by simpa using b),bad t,aM (.inl b)]
theorem aXB(a:t.Log.length<=1000000)(k:ba)(y:aK):FO {t with bC:=k} w y=some ({t with bC:=k,Log:=t.Log++[⟨2,w,y.aG,0,[],[]⟩]},{y with Pc:=8,K:=0}):=by unfold FO;rw[EP]
def kT(t:Table)(w:Int)(s:Int)(p:ba×aK×Bool):Table×aK:=({t with bC:=p.1,Log:=t.Log++if p.2.2 then [⟨2,w,s,0,[],[]⟩] else []},p.2.1)
theorem bFU(A:t.Log.length<=1000000):SC t w j=some (kT t w j.aG (aZO t.bC w j)):=by
 obtain⟨I,H,G,F,E⟩:=Y4 h2 hb hw hj;have D:=hj.k;have l:=hj.wr;have C:=aY4 j.aL;unfold SC aZO kT;have B:=l.1;rw[a28 aa (λx u=>(l.2.1 x u).1),aE];by_cases b:j.K<(tQ j.aL).length
 .have o:j.K.toNat<(tQ j.aL).length:=aa
  have e:i6 j=(tQ j.aL)[j.K.toNat]:=by grind[i6]
  have i:=aSW (dO o);rw[<-e] at i;rw[qH,aM b,eQ D.1 b,aE,<-e,MJ h2 aa,aE];by_cases c:(qL t.bC (i6 j)).jC=0
  .rw[aO (by simpa using c)];have n:loop (rP t j (i6 j)) 0=some (if ∀s∈j.Reads,¬((s.dR == i6 j && s.iF != (qL t.bC (i6 j)).iF)=true) then Out.brk () else Out.ret (t,abF j 7)):=by
    refine lA (f:=rP t j (i6 j)) j.Reads (λk=>(k:Int)) (λs=>¬((s.dR == i6 j && s.iF != (qL t.bC (i6 j)).iF)=true)) _ _ (λk h b=>?_) (λk h b=>?_) ?_
    .simp only[rP,y8];rw[cX,aZ h,aE,MJ h2 aa,aE,cY];cases u:j.Reads[k].dR == i6 j
     .simp
     .have d:(j.Reads[k].iF != (qL t.bC (i6 j)).iF)=false:=by
       cases q:(j.Reads[k].iF != (qL t.bC (i6 j)).iF)
       .rfl
       .exact absurd (by simp[u,q]) b
      simp[d]
    .simp only[rP,y8];have b:=Classical.not_not.1 b;rw[ET] at b;rw[cX,aZ h,aE,aM b.1,MJ h2 aa,aE,aM b.2];rfl
    .simp[rP]
   rw[n];by_cases m:(j.Reads.any λs=>s.dR == i6 j && s.iF != (qL t.bC (i6 j)).iF)=true
   .rw[aO (λq=>by obtain⟨s,v,h⟩:=List.any_eq_true.1 m;exact q s v h),aM (.inr m)];simp[P6]
   .rw[aM (λs v h=>m (List.any_eq_true.2 ⟨s,v,h⟩)),aO (by rintro(h|h);exact h c;exact m h)];simp only[aE,P6];unfold aBM;rw[MJ h2 aa,aE];by_cases d:(qL t.bC (i6 j)).iF=1000000
    .rw[aM (by simpa using d),aM d];simp[iA,abF]
    .have p:j.bM.length<=2:=by
      have g:=hj.held
      match h:j.bM,g with
      |[],_=>simp
      |[_],_=>simp
      |[_,_],_=>simp
      |x::y::z::r,⟨hm,J⟩=>(simp_all;omega)
     rw[aO (by simpa using d),aO d,OY (wI p ai),aE];have fin:∀g:al,y7 t w j (tQ j.aL) (i6 j) (qL t.bC (i6 j)) g=some (if(tQ j.aL).length<=j.K+1 then({t with bC:=t.bC.set (i6 j).toNat {qL t.bC (i6 j) with jC:=w+1},Log:=t.Log++[⟨2,w,j.aG,0,[],[]⟩]},{j with bM:=g,Pc:=8,K:=0}) else({t with bC:=t.bC.set (i6 j).toNat {qL t.bC (i6 j) with jC:=w+1}},{j with bM:=g,K:=j.K+1})):=λg=>by
      unfold y7;rw[cY (x:=j.K+1),cY (x:=w+1)];by_cases a:(tQ j.aL).length<=j.K+1
      .rw[cX,aXB h2 hb hw hj A,aM a];rfl
      .rw[qH,aO a]
     by_cases hm:i6 j∈j.bM
     .rw[cB hm,fF,fin];by_cases a:(tQ j.aL).length<=j.K+1
      .rw[aM a,aM a];simp[aLU,hm]
      .rw[aO a,aO a];simp[aLU,hm]
     .rw[dV hm,aM ak,EP,fin];by_cases a:(tQ j.aL).length<=j.K+1
      .rw[aM a,aM a];simp[aLU,hm]
      .rw[aO a,aO a];simp[aLU,hm]
  .rw[aM (by simpa using c),aM (.inl c)];simp[iA,abF]
 .rw[cX,aO b,aXB h2 hb hw hj A t.bC j];rfl
theorem bAG:OR t w j=some (a92 t.bC w j):=by
 have i:=hj.k;unfold OR a92;by_cases f:(j.Reads.length:Int)<=j.K
 .rw[aM (by simpa using f),aM f]
 .have h:j.K.toNat<j.Reads.length:=aa
  have e:rdN j=j.Reads[j.K.toNat]:=by grind[rdN]
  have d:=hj.reads.1 _ (dO h);rw[<-e] at d;rw[aO (by simpa using f),aO f,eQ i.1 aa,aE,<-e,MJ h2 d,aE,cY (x:=w+1)];have bad:mN j true=some (abF j 7):=rfl;have c:∀v u:Int,mN j (v != u)=some (if v≠u then abF j 7 else {j with K:=j.K+1}):=λv u=>by
   by_cases q:v=u
   .rw[show(v != u)=false by simpa using q,aO (by simpa using q)];unfold mN;rw[fF,cY]
   .rw[show(v != u)=true by simpa using q,aM q];rfl
  generalize qL t.bC (rdN j).dR=b;by_cases g:b.jC=0
  .rw[aO (by simpa using g),c];by_cases q:b.iF=(rdN j).iF<;>simp[q,g]
  .rw[aM (by simpa using g)];by_cases a:b.jC=w+1
   .rw[aO (by simpa using a),c];by_cases q:b.iF=(rdN j).iF<;>simp[q,a]
   .rw[aM (by simpa using a),bad,aM (.inl ⟨g,a⟩)]
end
section
variable {t:Table} {w:Int} {j:aK} (h2:t.bC.length=2) (hb:lD t.aA) (hw:0<=w/\w<=2) (hj:JB j)
include h2 hb hw hj
def wT(t:Table)(p:aA×ba×aK):Table×aK:=({t with aA:=p.1,bC:=p.2.1},p.2.2)
def uT(t:Table)(p:ba×aK):Table×aK:=({t with bC:=p.1},p.2)
omit h2 hb hw hj in
theorem bAH{y:aK}{x:aW}(e:idx y.aL y.K=some x)(a:0<=y.K/\y.K<=100):tK y=some (plF y x):=by
 unfold tK plF;rw[e,aE];cases x.NP
 .rfl
 .rw[aM rfl,aM rfl,cY]
theorem a3D(S:9<=j.Pc/\j.Pc<=13):HC t j=some (wT t (aTI t.aA t.bC j)):=by
 obtain⟨R,L,Q,P,O⟩:=Y4 h2 hb hw hj;have D:=hj.k;have T:=hj.old.1;have U:=hj.new.1;unfold HC aTI wT;by_cases u:(j.aL.length:Int)<=j.K
 .rw[aM (by simpa using u),aM u]
 .have B:j.K.toNat<j.aL.length:=aa
  have e:wrN j=j.aL[j.K.toNat]:=by grind[wrN]
  have M:=hj.wr.2.1 _ (dO B);rw[<-e] at M;have F:idx j.aL j.K=some (wrN j):=by rw[eQ D.1 aa,e]
  have J:ER (wrN j).Key=0\/ER (wrN j).Key=1:=by grind[ER]
  rw[aO (by simpa using u),aO u,F,aE,aEZ,aE];generalize G:wrN j=x at *;generalize K:ER x.Key=bi at *;have p:idx t.bC bi=some (qL t.bC bi):=MJ h2 aa;have pl:∀y:aK,y.aL=j.aL->y.K=j.K->tK y=some (plF y x):=λy z h2=>bAH (by rw[z,h2];exact F) aa;by_cases n:j.Pc=9
  .rw[aM (by simpa using n),aM n,p,aE];by_cases hh:(qL t.bC bi).Head=0
   .rw[aM (by simpa using hh),pl {j with H:=(qL t.bC bi).Head,jH:=0} rfl rfl,aM hh];rfl
   .rw[aO (by simpa using hh),aO hh];rfl
  .rw[aO (by simpa using n),aO n];by_cases f:j.Pc=10
   .rw[aM (by simpa using f),aM f,a78 hb.1.1,aE];by_cases i:(W6 t.aA.Mem.Heap j.H).Key=x.Key
    .rw[aM (by simpa using i),aM i];rfl
    .rw[aO (by simpa using i),aO i,aJ4,aE];by_cases r:W7 (W6 t.aA.Mem.Heap j.H)=0
     .rw[aM (by simpa using r),aM r,pl {j with Node:=W6 t.aA.Mem.Heap j.H} rfl rfl];rfl
     .rw[aO (by simpa using r),aO r];rfl
   .rw[aO (by simpa using f),aO f];by_cases d:j.Pc=11
    .rw[aM (by simpa using d),aM d];have m:∀v:Table,v.aH=t.aH->v.aY=t.aY->qC t j v=some (v,plF (aTH j) x):=λv z h2=>by
      obtain⟨b,k,js,N,l,s⟩:=v;simp only at z h2;subst z h2;have C:∀o:al,qB t j ⟨b,k,t.aH,t.aY,l,s⟩ o=some (⟨b,k,t.aH,t.aY,l,s⟩,plF {j with bW:=o} x):=λo=>by unfold qB;rw[pl {j with bW:=o} rfl rfl];rfl
      unfold qC xS aTH;by_cases E:j.bW.length<6
      .rw[cX,eB,aE];by_cases hh:j3 j.H
       .rw[cB hh,aM rfl,EP,aM ⟨hh,E⟩];exact C _
       .rw[dV hh,fF,aO (λq=>hh q.1)];exact C _
      .rw[qH,fF,aO (λq=>E q.2)];exact C _
     by_cases g:j.jH=0
     .rw[aM (by simpa using g),aM g,aJ4,aE,p,aE];exact m {t with bC:=t.bC.set bi.toNat {qL t.bC bi with Head:=W7 j.Node}} rfl rfl
     .rw[aO (by simpa using g),aO g,aJ4,aE];obtain⟨c,e⟩:=a58 hb.1.1 j.jH (W7 j.Node);rw[e,aE];unfold IB;exact m {t with aA:=⟨_,t.aA.aI,t.aA.aQ,t.aA.iU⟩} rfl rfl
    .rw[aO (by simpa using d),aO d,a3B L D.1,aE];have A:0<=mQ j.aL j.K:=by grind[mQ]
     by_cases h:(j.eC.length:Int)<=mQ j.aL j.K
     .rw[aM (by simpa using h),aM h];rfl
     .have I:(mQ j.aL j.K).toNat<j.eC.length:=aa
      have en:aTG j=j.eC[(mQ j.aL j.K).toNat]:=by grind[aTG]
      rw[aO (by simpa using h),aO h,eQ A aa,<-en];by_cases a:j.Pc=12
      .rw[aM (by simpa using a),aM a,aE,p,aE];obtain⟨c,e⟩:=a29 hb.1.1 (aTG j) ⟨x.Key,x.cT,(qL t.bC bi).Head⟩;rw[e];rfl
      .rw[aO (by simpa using a),aO a,aE,p,aE,cY];rfl
theorem bMO:j.bM.length<=2:=by
 have a:=hj.held
 match h:j.bM,a with
 |[],_=>simp
 |[_],_=>simp
 |[_,_],_=>simp
 |x::y::z::r,⟨hm,b⟩=>(simp_all;omega)
theorem a59(i:∀x∈t.bC,BkV x):LK t j=some (uT t (aVZ t.bC j)):=by
 have l:=hj.held;have k:=bMO h2 hb hw hj;unfold LK aVZ uT;by_cases d:0<j.bM.length
 .have h:QW j=j.bM[0]:=by grind[QW]
  have c:=l.1 j.bM[0] (dO d);rw[<-h] at c;have e:BkV (qL t.bC (QW j)):=by grind[qL]
  have g:=e.2.1;have f:idx j.bM 0=some (QW j):=by rw[h];exact aZ d
  have is:∀y,idx (t.bC.set (QW j).toNat y) (QW j)=some y:=λy=>aEB aa;have n:(j.bM.take j.bM.length).drop (1:Int).toNat=j.bM.drop 1:=ae
  rw[aO (λq=>by have:=eq_of_beq q;omega),aM d,f,aE,PH,n,wF ah,aE,MJ h2 c,aE];by_cases b:j.Pc=14
  .rw[aM (by simpa using b),aM b,is,aE];unfold AP;simp only[O2];rw[cY]
  .rw[aO (by simpa using b),aO b];rfl
 .have m:j.bM.length=0:=aa
  rw[aM (by simp[m]),aO d];by_cases a:j.Pc=16
  .rw[aM (by simpa using a),aM a]
  .rw[aO (by simpa using a),aO a];unfold a2H;by_cases o:0<j.bW.length
   .have f:idx j.bW 0=some (j.bW.getD 0 0):=by grind[aZ]
    rw[cX,f,aE,cX];rfl
   .rw[aO (λq=>by have:=of_decide_eq_true q;omega),aO (show ¬(0:Int)<(j.bW.length:Int) by omega)];rfl
theorem a6A:LL t w j=some (bT t (a5O t.aA w j)):=by
 have e:=hj.k;unfold LL a5O bT;by_cases a:(j.bW.length:Int)<=j.K
 .rw[aM (by simpa using a),aM a]
 .rw[aO (by simpa using a),aO a,aZY h2 hb hw hj,aE];generalize gZ t.aA w j.Sub=r;cases b:r.2.eG
  .simp only[b,aU,aT];rfl
  .simp only[b,aS];rw[cY (x:=j.K+1)];unfold a2H;by_cases d:j.K+1<j.bW.length
   .have c:idx j.bW (j.K+1)=some (j.bW.getD (j.K+1).toNat 0):=by rw[eQ aa d,MQ,mA aa];rfl
    rw[cX,c,aE,cX];rfl
   .rw[qH,qH];rfl
theorem bFV(m:j.Pc=17):wP t w j=some (bT t (a5P t.aA w j)):=by
 have n:=hj.new;unfold wP a5P bT;rw[aM (by simpa using m)];by_cases f:j.eC.length=0
 .rw[aM (by simp[f]),aM f]
 .have a:0<j.eC.length:=aa
  have h:j.eC.getD 0 0=j.eC[0]:=aj
  have hh:=n.2 j.eC[0] (dO a);rw[<-h] at hh;have i:idx j.eC 0=some (j.eC.getD 0 0):=by rw[h];exact aZ a
  have o:(j.eC.take j.eC.length).drop (1:Int).toNat=j.eC.drop 1:=ae
  rw[aO (λq=>by have:=eq_of_beq q;omega),aO f,i,aE];have fin:∀v:Table,v.aH=t.aH->v.aY=t.aY->LN t j v=some (v,{j with eC:=j.eC.drop 1}):=λv g h2=>by obtain⟨b,k,js,p,l,s⟩:=v;simp only at g h2;subst g h2;unfold LN LM;rw[PH,o,wF ah];rfl
  unfold ZV;rw[cZ,aM hh,aE,HK hb.1.2.2.1,aE];by_cases d:bM t.aA.aQ (j.eC.getD 0 0 % 32)
  .rw[cB d,aM rfl,aM d,aE];exact fin {t with aA:=⟨t.aA.Mem,t.aA.aI,t.aA.aQ,t.aA.iU⟩} rfl rfl
  .rw[dV d,fF,aO d];obtain⟨c,e⟩:=a3A hb.1.1 hw (j.eC.getD 0 0);rw[e,aE,aE];exact fin {t with aA:=⟨a2I t.aA.Mem w (j.eC.getD 0 0),t.aA.aI,t.aA.aQ,t.aA.iU⟩} rfl rfl
theorem bAI(a:j.Pc=18):wP t w j=some ({t with aA:={t.aA with aI:=(aAH t.aA.aI w).1}},{j with Pc:=19}):=by unfold wP;rw[qH,aM (by simpa using a),YY hb.1.2.1 hw];rfl
theorem bFW(g:j.Pc=19)(h:t.Log.length<=1000000):wP t w j=some ({t with Log:=t.Log++[tlE w j]},W8):=by
 obtain⟨f,e,d,c,b⟩:=Y4 h2 hb hw hj;unfold wP tlE;rw[qH,qH];have fin:∀r,CB t w j r=some ({t with Log:=t.Log++[⟨3,w,j.aG,j.Code,[],r⟩]},W8):=λr=>by unfold CB;rw[EP];rfl
 by_cases a:j.Code=0
 .rw[aM (by simpa using a)];unfold aC9;rw[EP,aE,fin,aM a];rfl
 .rw[aO (by simpa using a),fin,aO a]
end
section
variable {t:Table} {w:Int} (h3:t.aH.length=3) (h2:t.bC.length=2) (hb:lD t.aA) (hw:0<=w/\w<=2)
include h3 h2 hb hw
theorem bAJ(o:t.aY.length=3)(f:∀q∈t.aY,q.List.length<=12/\∀b∈q.List,aEA b)(u:0<=t.aG/\t.aG<=1000000)(v:t.Log.length<=1000000) :
  OM t w=some (if(UD t w).length=0\/t.aG=1000000 then t else a93 t w ((UD t w).getD 0 ⟨false,[]⟩)):=by
 have h:w.toNat<t.aY.length:=aa
 have k:idx t.aY w=some ⟨UD t w⟩:=by simp_all[eQ,UD]
 have g:(⟨UD t w⟩:aR)∈t.aY:=by unfold UD;rw[MQ,mA h];exact dO _
 have a:=f _ g;simp only at a;have stop:vQ t w true=some t:=rfl;unfold OM;rw[k,aE];simp only;by_cases i:(UD t w).length=0
 .rw[aM (by simp[i]),stop,aM (.inl i)]
 .rw[aO (λq=>by have:=eq_of_beq q;omega)];by_cases hm:t.aG=1000000
  .rw[show(t.aG == 1000000)=true by simpa using hm,stop,aM (.inr hm)]
  .have c:0<(UD t w).length:=aa
   have m:(UD t w).getD 0 ⟨false,[]⟩=(UD t w)[0]:=aj
   have d:=a.2 (UD t w)[0] (dO c);rw[<-m] at d;have r:idx (UD t w) 0=some ((UD t w).getD 0 ⟨false,[]⟩):=by rw[m];exact aZ c
   have s:((UD t w).take (UD t w).length).drop (1:Int).toNat=(UD t w).drop 1:=ae
   have j:bB (t.aG+1)=t.aG+1:=cY;rw[show(t.aG == 1000000)=false by simpa using hm,aO (λq=>q.elim i hm)];unfold vQ;rw[fF,k,aE];simp only;rw[r,aE,PH];generalize (UD t w).getD 0 ⟨false,[]⟩=b at *;have p:=d.2.1;have n:DP b.b8=some b.b8:=by unfold DP;rw[EP];rfl
   have fin:∀x:aK,vP t w ⟨UD t w⟩ b x=some ⟨t.aA,t.bC,t.aH.set w.toNat {x with Reads:=[],aL:=[],eD:=[],eC:=[],bM:=[],bW:=[]},t.aY.set w.toNat ⟨(UD t w).drop 1⟩,t.Log++[⟨1,w,t.aG+1,0,b.b8,[]⟩],t.aG+1⟩:=λx=>by unfold vP NC;rw[AU h3 hw,aE,n,aE,EP,j,s]
   unfold zY;rw[n,aE,aE];simp only[eK,aE];unfold ND a93 UE;simp only[eK,aE];have e:(⟨b.Collect,b.b8⟩:Batch)=b:=rfl;cases l:b.Collect
   .rw[fF,fin,j,fF,fF];rw[l] at e;rw[e];rfl
   .rw[aM rfl,fin,j,aM rfl,aM rfl];rw[l] at e;rw[e];rfl
end
def bMP(z:TV t)(R:t.Log.length<=1000000)(c:0<=w/\w<=2):ZW t w=some (CQ t w):=by
 have S:=z.a3M.1;have g:=z.bk.1;have f:=z.base;have E:=AU S c;have O:=z.a3M.2 _ (aZP S c);unfold ZW CQ;rw[E,aE];cases i:(iG t w).gW
 .rw[aM ak,bAJ S g f c z.todo.1 z.todo.2 z.ser R,aE];rfl
 .have d:JB (iG t w):=O.resolve_left λe=>by rw[e] at i;cases i
  rw[fF,aM rfl];generalize iG t w=j at *;have eta:({j with Batch:=⟨j.Batch.Collect,j.Batch.b8⟩,Reads:=j.Reads,aL:=j.aL,eD:=j.eD,eC:=j.eC,bM:=j.bM,bW:=j.bW}:aK)=j:=rfl;have Q:∀(v:Table) (y:aK),v.aH=t.aH->v.aY=t.aY->v.aG=t.aG->∀l,v.Log=t.Log++l->iQ t w v y=some (aFD t w ⟨v.aA,v.bC,y,l⟩):=λv y N M L l K=>by obtain⟨b,k,js,U,V,s⟩:=v;simp only at N M L K;subst N M L K;rfl
  have a:∀(v:Table) (y:aK),v.aH=t.aH->v.aY=t.aY->v.aG=t.aG->v.Log=t.Log->iQ t w v y=some (aFD t w ⟨v.aA,v.bC,y,[]⟩):=λv y N M L K=>Q v y N M L [] (by rw[K,ML]);unfold doF;have B:tL t w j true j=some (aFD t w ⟨(aV0 t.aA w j).1,t.bC,(aV0 t.aA w j).2,[]⟩):=by unfold tL;rw[aM rfl,eta,bAE g f c d,aE];exact a _ _ rfl rfl rfl rfl
  by_cases P:j.Pc=0\/j.Pc=20\/j.Pc=21
  .rw[aM P];obtain q|q|q:=P
   .rw[aM (by simpa using q),B]
   .rw[aO (by simp[q]),aM (by simpa using q),B]
   .rw[aO (by simp[q]),aO (by simp[q]),show(j.Pc == 21)=true by simpa using q,B]
  rw[qH,qH,show(j.Pc == 21)=false by simp;omega,aO P];unfold tL;rw[fF];by_cases J:j.Pc=1
  .rw[aM (by simpa using J),aM J,eta,a3C (bFS g f c d aa) (λx T=>(d.wr.2.1 x T).2),aE];exact a t _ rfl rfl rfl rfl
  rw[aO (by simpa using J),aO J,eta];have u:2<=j.Pc/\j.Pc<=5->pG t w j true j=some (aFD t w ⟨t.aA,t.bC,aTF t.aA t.bC w j,[]⟩):=λh=>by unfold pG;rw[aM rfl,eta,bFT g f c d h,aE];exact a t _ rfl rfl rfl rfl
  by_cases D:2<=j.Pc/\j.Pc<=5
  .rw[aM D];have:j.Pc=2\/j.Pc=3\/j.Pc=4\/j.Pc=5:=aa
   obtain q|q|q|q:=this
   .rw[aM (by simpa using q),u D]
   .rw[aO (by simp[q]),aM (by simpa using q),u D]
   .rw[aO (by simp[q]),aO (by simp[q]),aM (by simpa using q),u D]
   .rw[aO (by simp[q]),aO (by simp[q]),aO (by simp[q]),show(j.Pc == 5)=true by simpa using q,u D]
  rw[qH,qH,qH,show(j.Pc == 5)=false by simp;omega,aO D];unfold pG;rw[fF];by_cases I:j.Pc=6
  .rw[aM (by simpa using I),aM I,eta,bAF g f c d,aE];exact a _ _ rfl rfl rfl rfl
  rw[aO (by simpa using I),aO I];by_cases H:j.Pc=7
  .rw[aM (by simpa using H),aM H,eta,bFU g f c d R,aE];exact Q (kT t w j.aG (aZO t.bC w j)).1 _ rfl rfl rfl _ rfl
  rw[aO (by simpa using H),aO H];by_cases G:j.Pc=8
  .rw[aM (by simpa using G),aM G,eta,bAG g f c d,aE];exact a t _ rfl rfl rfl rfl
  rw[aO (by simpa using G),aO G,eta];have p:9<=j.Pc/\j.Pc<=13->mV t w j true j=some (aFD t w ⟨(aTI t.aA t.bC j).1,(aTI t.aA t.bC j).2.1,(aTI t.aA t.bC j).2.2,[]⟩):=λh=>by unfold mV;rw[aM rfl,eta,a3D g f c d h,aE];exact a _ _ rfl rfl rfl rfl
  by_cases C:9<=j.Pc/\j.Pc<=13
  .rw[aM C];have:j.Pc=9\/j.Pc=10\/j.Pc=11\/j.Pc=12\/j.Pc=13:=aa
   obtain q|q|q|q|q:=this
   .rw[aM (by simpa using q),p C]
   .rw[aO (by simp[q]),aM (by simpa using q),p C]
   .rw[aO (by simp[q]),aO (by simp[q]),aM (by simpa using q),p C]
   .rw[aO (by simp[q]),aO (by simp[q]),aO (by simp[q]),aM (by simpa using q),p C]
   .rw[aO (by simp[q]),aO (by simp[q]),aO (by simp[q]),aO (by simp[q]),show(j.Pc == 13)=true by simpa using q,p C]
  rw[qH,qH,qH,qH,show(j.Pc == 13)=false by simp;omega,aO C];unfold mV;rw[fF,eta];have F:zZ t w j true j=some (aFD t w ⟨t.aA,(aVZ t.bC j).1,(aVZ t.bC j).2,[]⟩):=by unfold zZ;rw[aM rfl,eta,a59 g f c d z.bk.2,aE];exact a _ _ rfl rfl rfl rfl
  by_cases A:j.Pc=14\/j.Pc=16
  .rw[aM A];obtain q|q:=A
   .rw[aM (by simpa using q),F]
   .rw[aO (by simp[q]),show(j.Pc == 16)=true by simpa using q,F]
  rw[qH,show(j.Pc == 16)=false by simp;omega,aO A];unfold zZ;rw[fF];by_cases r:j.Pc=15
  .rw[aM (by simpa using r),aM r,eta,a6A g f c d,aE];exact a _ _ rfl rfl rfl rfl
  rw[aO (by simpa using r),aO r,eta];by_cases o:j.Pc=17
  .rw[aM (by simpa using o),aM o];unfold pE;rw[aM rfl,eta,bFV g f c d o,aE];exact a _ _ rfl rfl rfl rfl
  rw[aO (by simpa using o),aO o];by_cases n:j.Pc=18
  .rw[aM (by simpa using n),aM n];unfold pE;rw[aM rfl,eta,bAI g f c d n,aE];exact a _ _ rfl rfl rfl rfl
  rw[aO (by simpa using n),aO n];by_cases m:j.Pc=19
  .rw[show(j.Pc == 19)=true by simpa using m,aM m];unfold pE;rw[aM rfl,eta,bFW g f c d m R,aE];exact Q {t with Log:=t.Log++[tlE w j]} _ rfl rfl rfl _ rfl
  rw[show(j.Pc == 19)=false by simpa using m,aO m];unfold pE;rw[fF,eta];exact a t _ rfl rfl rfl rfl
end Go.Gv
end
noncomputable section
set_option maxRecDepth 20000
namespace Go.Gv
def bP7(l:au):Prop:=l.length<=1000/\(∀q∈l,q.List.length<=1000)/\∀q∈l,∀b∈q.List,b.b8.length<=1000
def aGH:Int->Table->al->Int
 |p,_,[]=>p
 |p,t,a::l=>if 0<=a/\a<=2 then aGH (if p<((cN (CQ t a).aA.aQ).length:Int) then((cN (CQ t a).aA.aQ).length:Int) else p) (CQ t a) l else aGH p t l
section
variable {x:CT}
theorem bAK{t:Table}(a:TV t):nC t.aA.aQ=some ((cN t.aA.aQ).length:Int)/\nB t.aA.aQ=some ((cN t.aA.aQ).length:Int):=by
 have h:=a.base.1.2.2.1;have b:=h.2.1;have c:=h.1;constructor
 .unfold nC;rw[CM aa (by simp only[maxLen];omega)];rfl
 .exact MD aa aa
theorem aTU:∀(d k:Nat) (p:Int) (t:Table),k+d=min x.bG.length 400->TV t->t.Log.length<=k->loop (sW x) (p,(k:Int),t)=some (aGH p t ((x.bG.take 400).drop k))/\loop (sP x) (p,(k:Int),t)=some (aGH p t ((x.bG.take 400).drop k))
 |0,k,p,t,r,f,o=>by
  have h:((x.bG.take ((if 400<(x.bG.length:Int) then 400 else(x.bG.length:Int)).toNat)).drop 0)=x.bG.take 400:=by
   (simp_all;omega)
  rw[List.drop_of_length_le aj];refine⟨bR ?_,bR ?_⟩
  .simp only[sW,nV];by_cases q:(k:Int)<x.bG.length
   .rw[aM (by simpa using q),dV aa];rfl
   .rw[aO (by simpa using q)];rfl
  .simp only[sP,h];rw[qH];rfl
 |d + 1,k,p,t,r,f,o=>by
  have h:((x.bG.take ((if 400<(x.bG.length:Int) then 400 else(x.bG.length:Int)).toNat)).drop 0)=x.bG.take 400:=by
   (simp_all;omega)
  have e:k<x.bG.length:=aa
  have b:k<(x.bG.take 400).length:=aj
  have g:(x.bG.take 400)[k]=x.bG[k]:=List.getElem_take;have l:=λq=>aTU d (k+1) q;by_cases a:0<=x.bG[k]/\x.bG[k]<=2
  .have c:=f.step a;obtain⟨n,m⟩:=bAK c;obtain⟨j,i⟩:=l (if p<((cN (CQ t x.bG[k]).aA.aQ).length:Int) then((cN (CQ t x.bG[k]).aA.aQ).length:Int) else p) (CQ t x.bG[k]) aa c (by have:=bAB t x.bG[k];rw[bFP,aM a] at this;omega);have fin:aGH p t ((x.bG.take 400).drop k)=aGH (if p<((cN (CQ t x.bG[k]).aA.aQ).length:Int) then((cN (CQ t x.bG[k]).aA.aQ).length:Int) else p) (CQ t x.bG[k]) ((x.bG.take 400).drop (k+1)):=by rw[EU b,aGH,g,aM a]
   rw[fin];constructor
   .rw[bO ?_,j];simp only[sW,nV,sV];rw[cX,cB aa,aM rfl,aZ e,aE,cJ,aE,cB a,aM rfl,aE,bMP f aa a,aE,n,aE,cY];rfl
   .rw[bO ?_,i];simp only[sP,sO,h];rw[cX,aZ b,aE,jM,aE,g,cB a,aM rfl,bFH f aa a,aE,m,aE,cY];rfl
  .obtain⟨j,i⟩:=l p t aa f aa;have fin:aGH p t ((x.bG.take 400).drop k)=aGH p t ((x.bG.take 400).drop (k+1)):=by rw[EU b,aGH,g,aO a]
   rw[fin];constructor
   .rw[bO ?_,j];simp only[sW,nV,sV];rw[cX,cB aa,aM rfl,aZ e,aE,cJ,aE,dV a,fF,cY];rfl
   .rw[bO ?_,i];simp only[sP,sO,h];rw[cX,aZ b,aE,jM,aE,g,dV a,fF,cY];rfl
end
def bFX{x:CT}(b:bP7 x.aY):∃n,LO x=some n/\K9 x=some n:=by
 obtain⟨f,e⟩:=a2X b.1 b.2.1 b.2.2;unfold LO K9;rw[f,e,aE,aE];by_cases a:aO2 x.aY
 .obtain⟨d,c⟩:=aTU (x:=x) (min x.bG.length 400) 0 0 (aAP x.aY) aa (bAA a) (by simp[aAP]);rw[aM a,aO (by simp[aAP]),aO (by simp[aAP]),PH];rw[show((0:Nat):Int)=0 from rfl] at d c;rw[d,c];exact⟨_,rfl,rfl⟩
 .rw[aO a];exact⟨0,rfl,rfl⟩
end Go.Gv
end
noncomputable section
set_option maxRecDepth 20000
namespace Go.Gv
variable{w:Int}{s:aJ}{j:fE}
def stL(s:aJ):al->bh
 |[]=>[]
 |p::r=>if 0<=p/\p<=2 then PK s p::stL (PK s p) r else stL s r
def aZZ:∀(l:al) (s:aJ),(stL s l).length<=l.length
 |[],s=>jR _
 |p::r,s=>by have a:=aZZ r (PK s p);have b:=aZZ r s;simp only[stL];split<;>simp only[UQ]<;>omega
def aZ0:∀(A B:al) {s y:aJ},y∈stL s A->y∈stL s (A++B)
 |[],B,s,y,h=>by cases h
 |p::A,B,s,y,h=>by
  simp only[stL,aCN] at h ⊢;split
  .rename_i q;rw[aM q] at h;obtain h|h:=qM.1 h
   .rw[h];exact aFH ..
   .exact uI _ (aZ0 A B h)
  .rename_i q;rw[aO q] at h;exact aZ0 A B h
def aZ1{P:aJ->Prop}(d:∀s w,SOk s->(0<=w/\w<=2)->P s->P (PK s w)):∀(l:al) {s:aJ},SOk s->s.Log.length+l.length<=1000->P s->∀y∈stL s l,SOk y/\y.Log.length<=1000/\P y
 |[],s,_,_,_,y,c=>by cases c
 |p::r,s,h,g,f,y,c=>by
  simp only[UQ] at g;simp only[stL] at c;split at c
  .rename_i q;obtain⟨_,a,b⟩:=a2C h aa q;obtain e|c:=qM.1 c
   .rw[e];exact⟨a,aa,d s p h q f⟩
   .exact aZ1 d r a aa (d s p h q f) y c
  .exact aZ1 d r h aa f y c
def a6B{x:iD}(B:x.bG.length<=5000){m:Nat}(C:m=min x.bG.length 400):∀d k:Nat,k+d=m->∀(s:aJ) (out:bh),SOk s->s.Log.length<=k->out.length<=k+1 ->
  loop (vV x) (out,(k:Int),s)=some (out++stL s ((x.bG.take m).drop k))/\loop (vD x) (out,(k:Int),s)=some (out++stL s ((x.bG.take m).drop k))/\loop (sA x) ((k:Int),s)=some ((stL s ((x.bG.take m).drop k)).getLastD s):=by
 have y:(if 400<(x.bG.length:Int) then(400:Int) else(x.bG.length:Int)).toNat=m:=by split<;>omega
 have n:((x.bG.take ((if 400<(x.bG.length:Int) then(400:Int) else(x.bG.length:Int)).toNat)).drop 0)=x.bG.take m:=by rw[y,QL]
 have a:(x.bG.take m).length=m:=by rw[XB];omega
 intro d;induction d with
 |zero=>
  intro k w s out g v u;rw[List.drop_of_length_le aa,stL,ML];refine⟨bR ?_,bR ?_,bR ?_⟩
  .simp only[vV,pO];by_cases q:(k:Int)<x.bG.length
   .rw[aM (by simpa using q),dV aa];rfl
   .rw[aO (by simpa using q)];rfl
  .simp only[vD,n,a];rw[qH]
  .simp only[sA,nP];by_cases q:(k:Int)<x.bG.length
   .rw[aM (by simpa using q),dV aa];rfl
   .rw[aO (by simpa using q)];rfl
 |succ d o=>
  intro k w s out g v u;have h:k<x.bG.length:=aa
  have f:idx x.bG (k:Int)=some x.bG[k]:=aZ h;have c:idx (x.bG.take m) (k:Int)=some x.bG[k]:=by rw[UO,List.getElem_take]
  have b:bB ((k:Int)+1)=((k+1:Nat):Int):=by rw[cY];rfl
  have z:(x.bG.take m).drop k=x.bG[k]::(x.bG.take m).drop (k+1):=by rw[EU aa,List.getElem_take]
  rw[z,stL];by_cases hw:0<=x.bG[k]/\x.bG[k]<=2
  .obtain⟨A,r,D⟩:=a2C g aa hw;have t:=a2B g aa hw;have e:=aMP r aa;have p:∀{β:Type} (q:Option β),need (out.length+([PK s x.bG[k]]:bh).length<=1073741824) q=q:=λq=>b7 (by simp only[UQ,List.length_nil];omega) q;obtain⟨l,j,i⟩:=o (k+1) aa _ (out++[PK s x.bG[k]]) r aa ah;rw[aM hw,List.getLastD_cons,<-i,show out++PK s x.bG[k]::stL (PK s x.bG[k]) ((x.bG.take m).drop (k+1))=(out++[PK s x.bG[k]])++stL (PK s x.bG[k]) ((x.bG.take m).drop (k+1)) by simp];refine⟨?_,?_,?_⟩
   .rw[<-l];refine bO ?_;simp only[vV,pO,vU];rw[cX,cX,f];simp only[aE,cJ,cB hw,aS,t,aGE e,p,b]
   .rw[<-j];refine bO ?_;simp only[vD,vC,n,a];rw[cX,c];simp only[aE,jM,cB hw,aS,A,aGF e,p,b]
   .refine bO ?_;simp only[sA,nP,rZ];rw[cX,cX,f];simp only[aE,cJ,cB hw,aS,t,b]
  .obtain⟨l,j,i⟩:=o (k+1) aa s out g aa aa;rw[aO hw,<-i];refine⟨?_,?_,?_⟩
   .rw[<-l];refine bO ?_;simp only[vV,pO,vU];rw[cX,cX,f];simp only[aE,cJ,dV hw,aU,aT,b]
   .rw[<-j];refine bO ?_;simp only[vD,vC,n,a];rw[cX,c];simp only[aE,jM,dV hw,aU,aT,b]
   .refine bO ?_;simp only[sA,nP,rZ];rw[cX,cX,f];simp only[aE,cJ,dV hw,aU,aT,b]
def a3F:∀(L:bh) (s:aJ),L.getLastD s∈s::L
 |[],s=>aFH ..
 |a::L,s=>by rw[List.getLastD_cons];exact uI _ (a3F L a)
def stA(x:iD):bh:=if Y0 x.aY then wG x.aY::stL (wG x.aY) (x.bG.take 400) else []
def bFY(l:al):l.take (min l.length 400)=l.take 400:=by
 obtain h|h:=Nat.le_total l.length 400
 .rw[Nat.min_eq_left h,List.take_length,aHJ h]
 .rw[Nat.min_eq_right h]
section
variable {x:iD} (hx:aD9 x.aY) (hp:x.bG.length<=5000)
include hx hp
theorem aTV:FP x=some (stA x)/\FH x=some (stA x)/\∃s,JS x=some s/\(Y0 x.aY->s∈stA x):=by
 obtain⟨l,k⟩:=aMO (t:=x.aY) (by have:=hx.1;omega) λq h=>by have:=hx.2 q h;omega
 unfold FP FH JS stA;rw[l,k];simp only[aE];by_cases b:Y0 x.aY
 .simp only[aM b];have j:(((wG x.aY).aH.length:Int) == 0)=false:=rfl;have d:=aLS b;have a:aEY (wG x.aY):=aMP d (by simp[wG]);have i:∀{β:Type} (q:Option β),need (([]:bh).length+([wG x.aY]:bh).length<=1073741824) q=q:=λq=>b7 (by simp only[UQ,List.length_nil];omega) q;have c:∀{β:Type} (q:Option β),need (0<=(if 400<(x.bG.length:Int) then 400 else(x.bG.length:Int):Int)/\(if 400<(x.bG.length:Int) then 400 else(x.bG.length:Int):Int)<=(x.bG.length:Int)) q=q:=λq=>b7 (by split<;>omega) q;obtain⟨g,f,e⟩:=a6B hp (m:=min x.bG.length 400) rfl (min x.bG.length 400) 0 aa _ [wG x.aY] d (by simp[wG]) ae;rw[show((0:Nat):Int)=0 from rfl,QL,bFY] at g f e;simp only[j,aU,aT,aGE a,aGF a,aE,i,c,aHI,g,f,e];exact⟨rfl,rfl,_,rfl,λ_=>a3F _ _⟩
 .simp only[aO b];exact⟨rfl,rfl,_,rfl,λq=>absurd q b⟩
end
def mxL(F:aJ->Int)(l:bh):Int:=l.foldl (λa x=>if a<F x then F x else a) 0
def a8A{F:aJ->Int}{B:Int}:∀{l:bh} {a:Int},(∀y∈l,F y<=B)->a<=B->l.foldl (λa x=>if a<F x then F x else a) a<=B
 |[],a,_,h=>h
 |x::l,a,b,h=>a8A (l:=l) (λy c=>b y (uI _ c)) (by have:=b x (aFH ..);show(if a<F x then F x else a)<=B;split<;>omega)
def a3G{F:aJ->Int}:∀{l:bh} {a:Int},a<=l.foldl (λa x=>if a<F x then F x else a) a/\∀y∈l,F y<=l.foldl (λa x=>if a<F x then F x else a) a
 |[],a=>⟨Int.le_refl _,λy h=>by cases h⟩
 |x::l,a=>by
  obtain⟨i,j⟩:=a3G (F:=F) (l:=l) (a:=if a<F x then F x else a);rw[List.foldl_cons];have h:a<=(if a<F x then F x else a)/\F x<=(if a<F x then F x else a):=by split<;>omega
  refine⟨aa,λy b=>?_⟩;obtain rfl|b:=qM.1 b
  .omega
  .exact j y b
def aO5(s:aJ):Int:=((cN s.aA.aQ).length:Int)
def aZ2(s:aJ):Int:=(lO s.aA 24).getD 4 0
def aE0{l:bh}{F:aJ->Int}{body:Int×Int->Option (Step (Int×Int) Int)}(d:∀(k:Nat) (b:k<l.length) (a:Int),body (a,(k:Int))=some (.next (if a<F l[k] then F l[k] else a,((k+1:Nat):Int))))(c:∀a:Int,body (a,(l.length:Int))=some (.stop a)) :
  loop body (0,0)=some (mxL F l):=by
 have:=kL (f:=body) l.length (λk=>(mxL F (l.take k),(k:Int))) (mxL F l) (λk b=>by
  unfold mxL;rw[d k b,UR b,List.foldl_append];rfl) (by rw[List.take_length];exact c _)
 simpa[mxL] using this
def aTW{b:aA}(h:tS b.aQ):nC b.aQ=some ((cN b.aQ).length:Int)/\nB b.aQ=some ((cN b.aQ).length:Int):=by
 have a:=h.2.1;have c:=h.1;constructor
 .unfold nC;rw[CM aa (by simp only[maxLen];omega)];rfl
 .rw[MD aa aa]
def aZ3(b:aA):idx (lO b 24) 4=some ((lO b 24).getD 4 0):=by have a:=aHC b 24;rw[eQ aa aa];simp[MQ,mA (show 4<(lO b 24).length by omega)]
section
variable {x:iD} (hx:aD9 x.aY) (hp:x.bG.length<=5000) (ha:∀y∈stA x,SOk y)
include hx hp ha
theorem a3H:(LQ x=some (mxL aO5 (stA x))/\BW x=some (mxL aO5 (stA x)))/\OS x=some (mxL aZ2 (stA x))/\OE x=some (mxL aZ2 (stA x)):=by
 obtain⟨f,e,_⟩:=aTV hx hp;have g:(stA x).length<=5001:=by
  unfold stA;split
  .have:=aZZ (x.bG.take 400) (wG x.aY);rw[XB] at this;simp only[UQ];omega
  .simp
 unfold LQ BW OS OE;rw[f,e];simp only[aE];generalize stA x=l at *;have c:∀k (b:k<l.length),lD l[k].aA:=λk b=>(ha _ (dO b)).1;have d:∀k,k<l.length->bB ((k:Int)+1)=((k+1:Nat):Int):=λk b=>by rw[cY];rfl
 rw[aE0 (l:=l) (F:=aO5) (body:=AR l) (λk b a=>by
   simp only[AR];rw[cX,aZ b,d k b,aE,(aTW (c k b).1.2.2.1).1];rfl) (λa=>by simp[AR]),
  aE0 (l:=l) (F:=aO5) (body:=AK l) (λk b a=>by
   simp only[AK];rw[cX,aZ b,d k b,aE,(aTW (c k b).1.2.2.1).2];rfl) (λa=>by simp[AK]),
  aE0 (l:=l) (F:=aZ2) (body:=DW l) (λk b a=>by
   simp only[DW];rw[cX,aZ b,d k b,aE,aTO (c k b),aE,aZ3];rfl) (λa=>by simp[DW]),
  aE0 (l:=l) (F:=aZ2) (body:=DJ l) (λk b a=>by
   simp only[DJ];rw[cX,aZ b,d k b,aE,a5U (c k b),aE,aZ3];rfl) (λa=>by simp[DJ])]
 exact⟨⟨rfl,rfl⟩,rfl,rfl⟩
end
def cUq(m:Mem):Nat:=Y3 (λi=>decide (fX m i=3)) 24
def a8B{p q:Nat->Bool}:∀{n:Nat},(∀i,i<n->p i=true->q i=true)->Y3 p n<=Y3 q n
 |0,_=>jR _
 |n + 1,h=>by have i:=a8B (n:=n) λi c=>h i aa;have:=h n aa;rw[I2,I2];cases b:p n<;>cases a:q n<;>simp_all<;>omega
def a3I{p q:Nat->Bool}{x:Int}:∀{n:Nat},(∀i:Nat,i<n->p i=true->q i=true\/(i:Int)=x)->Y3 p n<=Y3 q n+if 0<=x/\x<n then 1 else 0
 |0,_=>lR _
 |n + 1,h=>by
  have i:=a3I (n:=n) λi c=>h i aa;have k:=h n aa;rw[I2,I2];by_cases e:(n:Int)=x
  .rw[qU] at i;rw[aM (show 0<=x/\x<((n+1:Nat):Int) by omega)];split<;>split<;>omega
  .have b:(0<=x/\x<((n+1:Nat):Int))↔(0<=x/\x<(n:Int)):=aa
   simp only[b];have:p n=true->q n=true:=λa=>(k a).resolve_right e;by_cases a:p n=true
   .rw[aM a,aM (this a)];omega
   .rw[aO a];omega
def bFZ{b:aA}(d:lD b):Y3 (λi=>decide (qX b i=3)) 24+Y3 (λi=>decide (qX b i=4)) 24=cUq b.Mem:=by
 unfold cUq;have a:∀n,Y3 (λi=>decide (qX b i=3)) n+Y3 (λi=>decide (qX b i=4)) n=Y3 (λi=>decide (fX b.Mem i=3)) n:=λn=>by
  induction n with
  |zero=>rfl
  |succ n c=>
   have:=aHB b.Mem n;rw[I2,I2,I2];grind[qX]
 exact a 24
def bJ2{m m':Mem}(h:∀t,fX m' t=3->fX m t=3):cUq m'<=cUq m:=a8B λi _ a=>by have:=of_decide_eq_true a;exact cB (h _ this)
def bI8{m m':Mem}{x:Int}(h:a5Y m m' x):cUq m'<=cUq m+1:=by
 have:=a3I (p:=λi=>decide (fX m' i=3)) (q:=λi=>decide (fX m i=3)) (x:=x) (n:=24) λi _ a=>by
  by_cases e:(i:Int)=x
  .exact .inr e
  .exact .inl (cB ((h.rest _ e).1 (of_decide_eq_true a)))
 unfold cUq;split at this<;>omega
def bF0{b:aA}(a:lD b)(c:0<=w/\w<=2){s:Sub}(l:s.Kind≠1):cUq (gZ b w s).1.Mem<=cUq b.Mem:=by
 have k:=a.1.1;unfold gZ;split
 .exact jR _
 try rw[aO l]
 split
 .refine QM (dL cUq ?_);unfold aJT;grind
 split
 .refine QM (dL cUq ?_);unfold aD5;grind
 split
 .unfold aD7;split
  .exact jR _
  split
  .split<;>exact jR _
  split
  .split
   .split<;>exact jR _
   .exact jR _
  split
  .split
   .rename_i q;obtain⟨⟨h,g,f⟩,_⟩:=q;have j:=aMK a.1.2.2.1 c (a14 ⟨h,g⟩);have d:lE b.Mem s.H:=by rw[<-f];exact(a.2 _ j).1
    refine bJ2 λt i=>?_;by_cases e:t=s.H % 32
    .rw[e];exact d.2.1
    .rwa [a5W k c d e] at i
   .exact jR _
  .exact jR _
 split
 .refine QM (dL cUq ?_);unfold bEV;grind
 .exact jR _
def pj(j:fE):Nat:=if j.gW=true/\j.Op.Kind=1/\j.Pc=0 then 1 else 0
def JK(j:fE):Prop:=j.gW=true->(j.Op.Kind=1->j.Pc=0->j.Sub.Kind=1/\j.Sub.eG=false/\0<=j.Sub.Pc/\j.Sub.Pc<=3)/\(j.Op.Kind≠1\/j.Pc=3->j.Sub.Kind≠1)
def GdR(U:Mem->Nat)(s:aJ)(j:fE)(r:JR):Prop:=U r.b.Mem<=U s.aA.Mem/\r.j.Op=j.Op/\r.j.Sub.Kind≠1
def bP8{U:Mem->Nat}{c:Prop}[Decidable c]{p q:JR}(b:c->GdR U s j p)(a:¬c->GdR U s j q):GdR U s j (if c then p else q):=by
 split
 .exact b (by assumption)
 .exact a (by assumption)
def bI9{U:Mem->Nat}(b:j.Op.Kind≠1)(c:U (gZ s.aA w j.Sub).1.Mem<=U s.aA.Mem)(d:(gZ s.aA w j.Sub).2.Kind≠1)(a:j.Sub.Kind≠1):GdR U s j (aZK s w j):=by
 have lr:=jR (U s.aA.Mem);unfold aZK;rw[aO b];unfold bIN bIO a72 aZJ;generalize gZ s.aA w j.Sub=x at *
 repeat' (refine bP8 (λ_=>?_) (λ_=>?_))
 all_goals first|exact⟨lr,rfl,a⟩|exact⟨c,rfl,d⟩|(refine⟨?_,?_,?_⟩<;>grind[tU,aTA,UC])
def bOL(h:SOk s)(m:0<=w/\w<=2)(n:j.gW=true)(D:tT j.Op)(k:JK j):cUq (aZK s w j).b.Mem+pj (aZK s w j).j<=cUq s.aA.Mem+pj j/\JK (aZK s w j).j:=by
 obtain⟨z,kb⟩:=k n;have p:=a9Z s.aA w j.Sub;by_cases a:j.Op.Kind=1
 .unfold aZK bIM;rw[aM a];by_cases f:j.Pc=0
  .obtain⟨I,H,G⟩:=z a f;have e:=(bI1 h.1.1.1 m I H G).two;have i:pj j=1:=aM ⟨n,a,f⟩;rw[aM f,i];generalize gZ s.aA w j.Sub=r at *;obtain⟨e,⟨d,c⟩|⟨d,c1,F⟩⟩|⟨d,c,o,l,y⟩:=e
   .rw[aM d,aM c];simp[pj,JK,tU,e,a]
   .rw[aO (by simp[d])];simp[pj,JK,e,a,f,n,d,c1,F]
   .have:=bI8 y;rw[aM d,aO (by simp[c]),aM o];simp[pj,JK,tU,a];omega
  rw[aO f];have i:pj j=0:=aO λq=>f q.2.2;have A:0<=j.Op.cT/\j.Op.cT<=65535:=by have:=D.2.2.2;rw[aM a] at this;exact this.2
  by_cases v:j.Pc=1
  .rw[aM v];have J:cUq (NM s.aA.Mem j.H j.Op.cT).1<=cUq s.aA.Mem:=by
    by_cases l:lE s.aA.Mem j.H
    .exact bJ2 λt C=>by rwa [(a2T h.1.1.1 l A).2.state] at C
    .unfold NM;rw[aO l];exact jR _
   split<;>simp[pj,JK,tU]<;>omega
  rw[aO v];by_cases u:j.Pc=2
  .rw[aM u];split<;>simp[pj,JK,tU,UC,a]
  rw[aO u];by_cases g:j.Pc=3
  .rw[aM g];have b:=kb (.inr g);have:=bF0 h.1 m b;rw[<-p] at b;split<;>simp[pj,JK,tU,g,b]<;>omega
  rw[aO g];simp[pj,JK,tU,a]
 .have b:=kb (.inl a);have B:=bF0 h.1 m b;rw[<-p] at b;have i:pj j=0:=aO λq=>a q.2.1;obtain⟨K,x,E⟩:=bI9 (U:=cUq) a B b (kb (.inl a));have:pj (aZK s w j).j=0:=aO λq=>a (by rw[<-x];exact q.2.1);exact⟨aa,λ_=>⟨λq=>absurd (by rw[<-x];exact q) a,λ_=>E⟩⟩
def nS(l:bm):Nat:=l.countP λo=>o.Kind == 1
def su3(f:Int->Nat):Nat:=f 0+f 1+f 2
def a8C{f g:Int->Nat}(b:0<=w/\w<=2)(a:∀v,0<=v/\v<=2->v≠w->g v=f v):su3 g+f w=su3 f+g w:=by
 unfold su3;rcases(by omega:w=0\/w=1\/w=2) with rfl|rfl|rfl
 .rw[a 1 aa aa,a 2 aa aa];omega
 .rw[a 0 aa aa,a 2 aa aa];omega
 .rw[a 0 aa aa,a 1 aa aa];omega
def Pot(s:aJ):Nat:=cUq s.aA.Mem+su3 (λv=>nS (qO s.aY v))+su3 (λv=>pj (mR s v))
def a3J(n:Nat)(s:aJ):Prop:=Pot s<=n/\∀v,0<=v/\v<=2->JK (mR s v)
def aXC{t:av}(c:t.length=3){v:Int}(a:0<=w/\w<=2)(b:0<=v/\v<=2)(r:bm):qO (t.set w.toNat ⟨r⟩) v=if v=w then r else qO t v:=by
 unfold qO;simp only[MQ,List.getElem?_set];by_cases q:v=w
 .subst q;rw[aM rfl,aM aa,aM rfl];rfl
 .rw[aO q,qU]
def bF1{n:Nat}(m:SOk s)(d:0<=w/\w<=2)(h:a3J n s):a3J n (PK s w):=by
 obtain⟨x,u⟩:=h;have B:=m.2.2.1;have y:∀(b:aA) (c:al) (j:fE) (t:av) (l:bw) (z:Int),JK j->cUq b.Mem+su3 (λv=>nS (qO t v))+pj j<=cUq s.aA.Mem+su3 (λv=>nS (qO s.aY v))+pj (mR s w)->a3J n ⟨b,c,s.aH.set w.toNat j,t,l,z⟩:=λb c j t l z p D=>by
  have e:=λv i=>a90 B d (v:=v) i b c j t l z;refine⟨?_,λv i=>?_⟩
  .have:=a8C (f:=λv=>pj (mR s v)) (g:=λv=>pj (mR ⟨b,c,s.aH.set w.toNat j,t,l,z⟩ v)) d λv i q=>by show pj _=pj _;rw[e v i,upJ,aO q]
   simp only[e w d,upJ,aM] at this;unfold Pot at x ⊢;simp only at x ⊢;omega
  .rw[e v i];unfold upJ;split
   .exact p
   .exact u v i
 have k:JK aJZ/\pj aJZ=0:=⟨λq=>(by cases q),rfl⟩;unfold PK;cases A:(mR s w).gW with
 |false=>
  rw[aM rfl];unfold aZL;split
  .exact⟨x,u⟩
  .rename_i o r C;split
   .exact⟨x,u⟩
   .have q:=a8C (f:=λv=>nS (qO s.aY v)) (g:=λv=>nS (qO (s.aY.set w.toNat ⟨r⟩) v)) d λv i q=>by show nS _=nS _;rw[aXC m.2.2.2.1.1 d i,aO q]
    simp only[aXC m.2.2.2.1.1 d d,aM,C] at q;have en:nS (o::r)=nS r+if o.Kind=1 then 1 else 0:=by unfold nS;rw[List.countP_cons];simp
    refine y _ _ _ _ _ _ ?_ ?_
    .unfold aTB JK;split
     .simp[UC, *]
     .split
      .split<;>simp[UC, *]
      .split<;>simp[UC, *]
    .have:pj (aTB s.aA.aI w o (s.aG+1))=if o.Kind=1 then 1 else 0:=by
      unfold aTB pj;split
      .simp[*]
      .split
       .split<;>simp[*]
       .split<;>simp[*]
     omega
 |true=>
  rw[fF];split
  .refine y _ _ _ _ _ _ k.1 ?_;rw[k.2];omega
  .have p:=m.2.2.2.2.2.2 (mR s w) (by grind[mR]);rw[aD8 A] at p;obtain⟨a,b⟩:=bOL m d A p.1 (u w d);refine y _ _ _ _ _ _ b ?_;omega
def a8D{n:Nat}(d:SOk s)(h:a3J n s):aO5 s<=n/\aZ2 s<=n:=by have a:=bFZ d.1;have b:=a2R d.1;have c:(lO s.aA 24).getD 4 0=(Y3 (λi=>decide (qX s.aA i=4)) 24:Int):=a98 s.aA 24 4 aa;have:=h.1;unfold aO5 aZ2 Pot at *;rw[c];omega
def a3K(t:av):a3J (su3 λv=>nS (qO t v)) (wG t):=by
 have e:∀v,mR (wG t) v=aJZ:=λv=>by unfold mR wG;grind
 refine⟨?_,λv b=>by rw[e];exact λq=>by cases q⟩;unfold Pot;simp only[e];have:cUq (wG t).aA.Mem=0:=by show cUq aW2.Mem=0;decide
 have a:su3 (λ_=>pj aJZ)=0:=rfl;rw[this,a];show 0+su3 (λv=>nS (qO t v))+0<=_;omega
def bJA{x:iD}(h:Y0 x.aY)(s:aJ):loop (rQ x) (0,0,s)=some (((su3 λv=>nS (qO x.aY v):Nat):Int),s):=by
 have o:=h.1;have ix:∀w:Int,0<=w/\w<=2->idx x.aY w=some ⟨qO x.aY w⟩/\(qO x.aY w).length<=12:=λw d=>by
  have b:w.toNat<x.aY.length:=aa
  have e:x.aY[w.toNat]=⟨qO x.aY w⟩:=by unfold qO;rw[MQ,mA b];rfl
  rw[eQ d.1 aa,e];have:=(h.2 _ (dO b)).1;rw[e] at this;exact⟨rfl,this⟩
 have c:∀(l:bm),nS l<=l.length:=λl=>List.countP_le_length;have one:∀(w:Int),0<=w/\w<=2->∀n:Nat,n<=100->rQ x ((n:Int),w,s)=some (.next (((n+nS (qO x.aY w):Nat):Int),w+1,s)):=λw d n t=>by
  obtain⟨g,p⟩:=ix w d;generalize qO x.aY w=l at *;have a:loop (y9 x w) ((n:Int),0,s)=some (((n+nS l:Nat):Int),s):=by
   have:=kL (f:=y9 x w) l.length (λk=>(((n+nS (l.take k):Nat):Int),(k:Int),s)) (((n+nS l:Nat):Int),s) (λk i=>by
    have m:nS (l.take (k+1))=nS (l.take k)+if l[k].Kind=1 then 1 else 0:=by unfold nS;rw[UR i,List.countP_append,List.countP_singleton];simp
    have j:=c (l.take k);rw[XB] at j;simp only[y9,HE,g,aE];rw[cX,aZ i,aE,m,cY (x:=(k:Int)+1),cY];by_cases q:l[k].Kind=1
    .rw[aM (by simp[q]),aM q];rfl
    .rw[aO (by simp[q]),aO q];rfl) (by simp[y9,g])
   simpa[nS] using this
  simp only[rQ];rw[cX,a,aE];simp only[aBP,aBO];rw[cY]
 have y:=c (qO x.aY 0);have u:=c (qO x.aY 1);have c0:=(ix 0 aa).2;have c1:=(ix 1 aa).2;show loop (rQ x) (((0:Nat):Int),0,s)=_;rw[bO (one 0 aa 0 aa),Int.zero_add,bO (one 1 aa _ aa),show(1:Int)+1=2 from rfl,bO (one 2 aa _ aa),bR (r:=(((su3 λv=>nS (qO x.aY v):Nat):Int),s)) (by simp[rQ,su3])]
def bJB{code:aF}(c:code.length<=1048576){n:Int}(hn:0<=n/\n<=5000):∃v,ZH code 0 n=some v/\0<=v/\v<=n:=by unfold ZH;obtain⟨a,e,b⟩:=at_eq c (show(0:Int)<=0/\(0:Int)<=1000 by omega);rw[e,aE];have d:0<=a*(n+1)/\a*(n+1)<=255*(n+1):=⟨Int.mul_nonneg b.1 aa,Int.mul_le_mul_of_nonneg_right b.2 aa⟩;refine⟨_,rfl,?_⟩;rw[cY (x:=n+1),cY (x:=a*(n+1)),Int.tdiv_eq_ediv_of_nonneg d.1,cY];omega
def a3L{code:aF}(_:fit code):ZX code=some true:=by
 unfold ZX aQP;rw[aE];by_cases u:1048576<(code.length:Int)
 .grind
 rw[aO aj];obtain⟨x,ex,r,o⟩:=a5K (code:=code) aa;obtain⟨y,ey,c,U⟩:=a56 (code:=code) aa;obtain⟨v,ev,T,S⟩:=bJB (code:=code) aa (n:=(x.bG.length:Int)) aa;rw[show wX code=mF code by unfold wX;cases mF code<;>rfl,ex,aE,ev,aE,b7 (by split<;>omega),QL];generalize O:(if v<(x.bG.length:Int) then v else(x.bG.length:Int)).toNat=a;have p:∀z:iD,z.aY=x.aY->z.bG.length<=5000->(aD9 z.aY/\∀s∈stA z,SOk s)/\∀s∈stA z,a3J (su3 λv=>nS (qO x.aY v)) s:=λz i V=>by
  have all:∀s∈stA z,SOk s/\a3J (su3 λv=>nS (qO x.aY v)) s:=λs b=>by
   unfold stA at b;split at b
   .rename_i q;obtain rfl|b:=qM.1 b
    .exact⟨aLS q,by rw[i];exact a3K _⟩
    .have:=aZ1 (P:=a3J (su3 λv=>nS (qO x.aY v))) (λs w b N h=>bF1 b N h) (z.bG.take 400) (aLS q) (by simp[wG];omega) (by rw[i];exact a3K _) s b;exact⟨this.1,this.2.2⟩
   .cases b
  exact⟨⟨by rw[i];exact r,λs b=>(all s b).1⟩,λs b=>(all s b).2⟩
 obtain⟨⟨A,g⟩,m⟩:=p x rfl o;obtain⟨⟨l,j⟩,R⟩:=p ⟨x.aY,x.bG.take a⟩ rfl ah;obtain⟨_,_,s,Q,K⟩:=aTV l (show(x.bG.take a).length<=5000 by simp;omega);obtain⟨⟨J,I⟩,H,G⟩:=a3H A o g;obtain⟨⟨_,E⟩,_,_⟩:=a3H l (show(x.bG.take a).length<=5000 by simp;omega) j;rw[Q,aE,I,aE,G,aE,bE8 r,aE];by_cases f:Y0 x.aY
 .rw[cB f,fF,bJA f,aE];simp only[aBQ,aBN];have d:=K f;have sub:∀s∈stA ⟨x.aY,x.bG.take a⟩,s∈stA x:=λs b=>by
   unfold stA at b ⊢;rw[aM f] at b ⊢;obtain h|h:=qM.1 b
   .rw[h];exact aFH ..
   .refine uI _ ?_;have e:x.bG.take 400=(x.bG.take a).take 400++(x.bG.take 400).drop (min a 400):=by grind[aL2]
    rw[e];exact aZ0 _ _ h
  have u1:((cN s.aA.aQ).length:Int)<=mxL aO5 (stA x):=(a3G (F:=aO5)).2 _ (sub s d);have u2:(lO s.aA 24).getD 4 0<=mxL aZ2 (stA x):=(a3G (F:=aZ2)).2 _ (sub s d);have D:mxL aO5 (stA ⟨x.aY,x.bG.take a⟩)<=mxL aO5 (stA x):=a8A (λy c=>(a3G (F:=aO5)).2 _ (sub y c)) a3G.1;have C:mxL aO5 (stA x)<=((su3 λv=>nS (qO x.aY v):Nat):Int):=a8A (λy c=>(a8D (g y c) (m y c)).1) aa;have B:mxL aZ2 (stA x)<=((su3 λv=>nS (qO x.aY v):Nat):Int):=a8A (λy c=>(a8D (g y c) (m y c)).2) aa;have t:=(j s d).1;obtain⟨k,M,L⟩:=bFX (x:=y) c.fit;rw[show xK code=mK code by unfold xK;cases mK code<;>rfl,ey,aE,(aTW t.1.2.2.1).1,aE,aM (cB u1),aTO t,aE,aZ3,aE,aM (cB u2),b7 (by split<;>omega),O,QL,E,aE,aM (cB D),aM (cB C),aM (cB B),L,aE,M,aE,aM ae,J,aE,aM ae,H];simp[jO]
 .rw[dV f,aM ak];have e:stA x=[]:=aO f;rw[e];rfl
end Go.Gv
end
