import Derived.Test.YtonmnllkifmclaaGreatXVD
set_option linter.unusedVariables false
set_option linter.unusedSimpArgs false
set_option linter.unusedSectionVars false
set_option linter.constructorNameAsVariable false
set_option linter.unnecessarySimpa false
noncomputable section
namespace Go.Gv
section
variable {O:Type} {p:O->Bool}
theorem TN{f:Int->Option (Step Int (Out Unit Int))}{s:List O}(hl:s.length<=4611686018427387904)
  (hf:∀k:Nat,f (k:Int)=if h:k<s.length then(if p s[k] then some (.stop (Out.ret (k:Int))) else some (.next ((k+1:Nat):Int))) else some (.stop (Out.brk ()))) :
  ∀d k,k+d=s.length->(∃j,∃h:j<s.length,k<=j/\(∀i (h:i<s.length),k<=i->i<j->p s[i]=false)/\p s[j]=true/\loop f (k:Int)=some (Out.ret (j:Int)))\/((∀i (h:i<s.length),k<=i->p s[i]=false)/\loop f (k:Int)=some (Out.brk ()))
 |0,k,hk=>.inr ⟨λi h h2=>by omega,bD (by grind)⟩
 |d + 1,k,hk=>by
  have hks:k<s.length:=by omega
  by_cases hp:p s[k]=true
  ·exact .inl ⟨k,hks,iE _,λi h h1 h2=>by omega,hp,bD (by rw[hf k,dif_pos hks,aL hp])⟩
  ·have hp:p s[k]=false:=by simpa using hp
   have hn:f (k:Int)=some (.next ((k+1:Nat):Int)):=by rw[hf k,dif_pos hks,aP (by simp[hp])]
   rcases TN hl hf d (k+1) (by omega) with ⟨j,h,h1,h2,h3,h4⟩|⟨h1,h2⟩
   ·refine .inl ⟨j,h,by omega,λi hi a b=>?_,h3,by rw[bG hn];exact h4⟩;by_cases e:i=k
    ·subst e;exact hp
    ·exact h2 i hi (by omega) b
   ·refine .inr ⟨λi hi a=>?_,by rw[bG hn];exact h2⟩;by_cases e:i=k
    ·subst e;exact hp
    ·exact h1 i hi (by omega)
theorem aFE{f:List O×Int×Int->Option (Step (List O×Int×Int) (List O×Int))}{n:Nat}(hl:n<=4611686018427387904)
  (hf:∀(L:List O) (i j:Nat) (h:j<L.length),L.length=n->i<=j->f (L,(i:Int),(j:Int))=if p L[j] then some (.next (L,(i:Int),((j+1:Nat):Int))) else some (.next (L.set i L[j],((i+1:Nat):Int),((j+1:Nat):Int))))
  (he:∀(L:List O) (i j:Nat),j=L.length->f (L,(i:Int),(j:Int))=some (.stop (L,(i:Int)))) :
  ∀d (L:List O) (i j:Nat),j+d=L.length->L.length=n->i<=j->∃(M:List O) (k:Nat),loop f (L,(i:Int),(j:Int))=some (M,(k:Int))/\M.length=n/\k<=n/\M.take k=L.take i++(L.drop j).filter (λx=>!p x)
 |0,L,i,j,hj,hn,hi=>⟨L,i,bD (he L i j (by omega)),hn,by omega,by grind⟩
 |d + 1,L,i,j,hj,hn,hi=>by
  have hjl:j<L.length:=by omega
  have hd:L.drop j=L[j]::L.drop (j+1):=AG hjl;by_cases hp:p L[j]=true
  ·obtain⟨M,k,h1,h2,h3,h4⟩:=aFE hl hf he d L i (j+1) (by omega) hn (by omega);refine⟨M,k,by rw[bG (by rw[hf L i j hjl hn hi,aL hp])];exact h1,h2,h3,by grind⟩
  ·have hp:p L[j]=false:=by grind
   obtain⟨M,k,h1,h2,h3,h4⟩:=aFE hl hf he d (L.set i L[j]) (i+1) (j+1) (by simp;omega) (by grind) (by omega);refine⟨M,k,by rw[bG (by rw[hf L i j hjl hn hi,aP (by simp[hp])])];exact h1,h2,h3,?_⟩;rw[h4,hd,List.filter_cons_of_pos (by simp[hp])];have e1:(L.set i L[j]).take (i+1)=L.take i++[L[j]]:=by rw[MF (by simp;omega),List.take_set_of_le (iE _)];simp
   grind[List.drop_set_of_lt]
end
theorem aG8{O:Type}{l xs:List O}{a:Nat}(h:a<=l.length):((cW l a xs).take a).drop 0=l.take a:=by grind[cW]
theorem aNL{O:Type}{q:O->Bool}{s:List O}{j:Nat}(h:j<s.length)(h1:∀i (h:i<s.length),i<j->q s[i]=true)(h2:q s[j]=false):s.take j++(s.drop (j+1)).filter q=s.filter q:=by
 have e:s=s.take j++s[j]::s.drop (j+1):=by simp
 have e3:(s.take j).filter q=s.take j:=by grind[List.filter_eq_self,SG]
 grind
theorem aY7{s:List Int}{p:Int->Bool}(hl:s.length<=4611686018427387904) :
  (∃j,∃h:j<s.length,(∀i (h:i<s.length),i<j->p s[i]=false)/\p s[j]=true/\gI s (λy=>some (p y))=some (j:Int))\/((∀i (h:i<s.length),p s[i]=false)/\gI s (λy=>some (p y))=some (-1)):=by
 rcases TN (f:=gC s (λy=>some (p y))) (p:=p) hl (λk=>by
  simp only[gC];by_cases h:k<s.length
  ·rw[dif_pos h,dM,aV h,aJ,aJ,eB];rfl
  grind) s.length 0 (by omega) with ⟨j,h,_,h2,h3,h4⟩|⟨h1,h2⟩
 ·refine .inl ⟨j,h,λi hi a=>h2 i hi (iY _) a,h3,?_⟩;unfold gI;rw[show(0:Int)=((0:Nat):Int) from rfl,h4];rfl
 ·refine .inr ⟨λi hi=>h1 i hi (iY _),?_⟩;unfold gI;rw[show(0:Int)=((0:Nat):Int) from rfl,h2];rfl
theorem aV8{s:List Int}{p:Int->Bool}(hl:s.length<=4611686018427387904):oG s (λy=>some (p y))=some (s.filter λx=>!p x):=by
 unfold oG;rcases aY7 (p:=p) hl with ⟨j,h,h1,h2,h3⟩|⟨h1,h3⟩
 ·have ne:¬(((j:Int) == -1)=true):=by simp
  rw[h3,aJ,aP ne,eB];obtain⟨M,k,g1,g2,g3,g4⟩:=aFE (p:=p) (n:=s.length) (f:=lP (λy=>some (p y))) hl (λL i j h hn hi=>by
   simp only[lP];rw[dM,aV h,aJ,aJ];by_cases hp:p L[j]=true
   ·rw[aL hp,aP (by simp[hp])];grind[jB,cC]
   ·rw[aP hp,aL (by grind),O0,aJ];grind[jB,cC]) (λL i j h=>by
   simp_all[lP]) (s.length-(j+1)) s j (j+1) (by omega) rfl (by omega)
  grind[B5,B4,bY,eN,aG8,aNL]
 ·rw[h3,aJ,aL (by rfl),List.filter_eq_self.2];grind[SG]
theorem aV9(x y:Int):cmp_Less_int x y=some (decide (x<y)):=by simp[cmp_Less_int,cmp_isNaN_int,uY]
theorem aTL{A B:List Int}{x:Int}{k:Int}(h:k=(A.length:Int)):idx (A++x::B) k=some x:=by grind[aV]
theorem aWA{data:List Int}(hd:data.length<=4611686018427387904):∀(j:Nat) (A B C:List Int) (x:Int),A.length=j->(A++x::(B++C)).length=data.length->(A++B).Pairwise (·<=·)->(∀b∈B,x<=b) ->
  ∃M:List Int,loop (dU data 0) (A++x::(B++C),(j:Int))=some (M++C)/\M.Perm (A++x::B)/\M.Pairwise (·<=·)
 |0,A,B,C,x,hj,hn,hs,hx=>by obtain rfl:A=[]:=uM hj;refine⟨x::B,bD ?_,.refl _,aHT.2 ⟨hx,hs⟩⟩;simp only[dU,dS];rw[bY hn,g7,bY hn,g7];rfl
 |j + 1,A,B,C,x,hj,hn,hs,hx=>by
  obtain⟨A,y,rfl⟩:∃A' y,A=A'++[y]:=by
   rcases aDT A with h|⟨A',y,h⟩
   ·rw[h] at hj;cases hj
   ·exact⟨A',y,by rw[h,aQU]⟩
  have hjA:A.length=j:=by grind
  have e0:A++[y]++x::(B++C)=A++y::(x::(B++C)):=by simp
  have ew:bA (((j+1:Nat):Int)-1)=(j:Int):=by grind[cC]
  have i1:idx (A++y::(x::(B++C))) ((j+1:Nat):Int)=some x:=by grind[aTL]
  have i2:idx (A++y::(x::(B++C))) (j:Int)=some y:=aTL (by omega);rw[e0] at hn ⊢;have hyB:∀b∈B,y<=b:=λb hb=>(List.pairwise_append.1 hs).2.2 y (by simp) b hb;by_cases hlt:x<y
  ·have st:dU data 0 (A++y::(x::(B++C)),((j+1:Nat):Int))=some (.next (A++x::((y::B)++C),(j:Int))):=by simp_all[dU,bY,aV9,dS,jQ,aTL]
   obtain⟨M,h1,h2,h3⟩:=aWA hd j A (y::B) C x hjA (by grind) (by grind) (λb hb=>by
    grind)
   refine⟨M,by grind[bG],h2.trans ?_,h3⟩;grind
  ·refine⟨A++[y]++x::B,bD ?_,.refl _,?_⟩
   ·simp_all[dU,bY,aV9,dS,aP]
   grind
theorem aRE{data:List Int}(hd:data.length<=4611686018427387904):∀d (S R:List Int),R.length=d->S≠[]->(S++R).length=data.length->S.Pairwise (·<=·) ->
  ∃M:List Int,loop (cZ data 0 (data.length:Int)) (S++R,(S.length:Int))=some M/\M.Perm (S++R)/\M.Pairwise (·<=·)
 |0,S,R,hR,h0,hn,hs=>by simp_all[bD,cZ,bY]
 |d+1,S,[],hR,h0,hn,hs=>by cases hR
 |d + 1,S,x::R,hR,h0,hn,hs=>by
  obtain⟨M,h1,h2,h3⟩:=aWA hd S.length S [] R x rfl (by grind) (by grind) (λb hb=>by cases hb);have hl:=h2.length_eq;simp at hl;have hn':=hn;simp at hn';have st:cZ data 0 (data.length:Int) (S++x::R,(S.length:Int))=some (.next (M++R,((S.length+1:Nat):Int))):=by simp only[cZ];rw[bY hn,dM];grind[nY,nX,bY,cC]
  obtain⟨N,g1,g2,g3⟩:=aRE hd d M R (by grind) (by grind) (by simp;omega) h3;refine⟨N,by grind[bG],g2.trans ?_,g3⟩;grind
theorem aWB{x:List Int}(h:x.length<=12)(hb:∃n,BM (IntKind.u64.wrap (x.length:Int))=some n):∃y:List Int,vA x=some y/\y.Perm x/\y.Pairwise (·<=·):=by
 have key:∃y:List Int,iC x 0 (x.length:Int)=some y/\y.Perm x/\y.Pairwise (·<=·):=by
  unfold iC;rw[eB];cases x with
  |nil=>
   simp[bD,cZ,bY,jR,jP]
  |cons a r=>
   obtain⟨M,h1,h2,h3⟩:=aRE (data:=a::r) (by omega) r.length [a] r rfl (by simp) (by simp) (List.pairwise_singleton _ _);refine⟨M,?_,by grind,h3⟩;have h1':loop (cZ (a::r) 0 ((a::r).length:Int)) (a::r,(0:Int)+1)=some M:=h1;rw[h1',aJ];simp only[jR,jP];have h4:=h2.length_eq;grind[bY]
 obtain⟨y,h1,h2,h3⟩:=key;obtain⟨n,hn⟩:=hb;refine⟨y,?_,h2,h3⟩;unfold vA oW;rw[hn,aJ,bD (r:=y) (by
  simp only[uZ];rw[eB,dM,h1];rfl),aJ]
 rfl
def bIH(n:Nat):Bool:=(BM (IntKind.u64.wrap (n:Int))).isSome
theorem a9A:(List.range 13).all bIH=true:=by kernel_rfl
theorem aNM(n:Nat)(h:n<=12):∃m,BM (IntKind.u64.wrap (n:Int))=some m:=
 aHV.1 (aBB.1 a9A n (List.mem_range.2 (by omega)))
theorem aH2{l:List Int}(h:l.Pairwise (·<=·)):(DP l).Pairwise (· < ·)/\∀a,a∈DP l↔a∈l:=by
 obtain⟨n,hn⟩:∃n,l.length=n:=⟨_,rfl⟩
 revert l
 induction n with
 |zero=>intro l h hn;obtain rfl:l=[]:=uM hn;exact⟨.nil,λa=>Iff.rfl⟩
 |succ n ih=>
 intro l h hn;obtain⟨l,x,rfl⟩:∃L z,l=L++[z]:=by
  rcases aDT l with h0|⟨L,z,h0⟩
  ·rw[h0] at hn;cases hn
  ·exact⟨L,z,by rw[h0,aQU]⟩
 rw[List.pairwise_append] at h;obtain⟨i1,i2⟩:=ih h.1 (by grind);rw[aGE];split
 ·grind
 ·rename_i hx;refine⟨List.pairwise_append.2 ⟨i1,List.pairwise_singleton _ _,λa ha b hb=>?_⟩,λa=>by grind⟩;simp at hb;subst hb;have hle:a<=b:=h.2.2 a ((i2 a).1 ha) b (by simp);by_cases e:a=b
  ·subst e;exfalso;obtain⟨L,z,hz⟩:∃L z,DP l=L++[z]:=by
    rcases aDT (DP l) with h0|⟨L,z,h0⟩
    ·rw[h0] at ha;cases ha
    ·exact⟨L,z,by rw[h0,aQU]⟩
   rw[hz] at ha hx i1;have hz':z<=a:=h.2.2 z ((i2 z).1 (by grind)) a (by simp);rcases eD.1 ha with ha'|ha'
   ·have:=(List.pairwise_append.1 i1).2.2 a ha' z (by simp);omega
   grind
  ·omega
theorem aTM{l:List Int}(h:l.length<=12):∃y:List Int,yR l=some y/\y.Pairwise (· < ·)/\∀a,a∈y↔a∈l/\a≠0:=by unfold yR eQ;rw[R0,aJ,VX];have hd:=aV8 (s:=l) (p:=λx=>x == 0) (by omega);rw[show(λy0=>I5 y0)=(λy=>some (y == 0)) from rfl,hd,aJ];have hfl:(l.filter λx=>!(x == 0)).length<=12:=mC (List.length_filter_le _ _) h;obtain⟨y,h1,h2,h3⟩:=aWB hfl (aNM _ hfl);obtain⟨c1,c2⟩:=aH2 h3;refine⟨DP y,by rw[h1,aJ];rfl,c1,λa=>?_⟩;grind
theorem aNN:∀{a b:List Int},a.Pairwise (· < ·)->b.Pairwise (· < ·)->(∀x,x∈a↔x∈b)->a=b
 |[],[],_,_,_=>rfl
 |[],y::b,_,_,h=>by have:=(h y).2 (by simp);cases this
 |x::a,[],_,_,h=>by have:=(h x).1 (by simp);cases this
 |x::a,y::b,ha,hb,h=>by
  have ha':=aHT.1 ha;have hb':=aHT.1 hb;have e:x=y:=by have h1:=(h x).1 (by simp);have h2:=(h y).2 (by simp);grind
  subst e;congr 1;refine aNN ha'.2 hb'.2 λz=>?_;grind
theorem dI(n a b:Int):bV n a b=some (decide (a<=n/\n<=b)):=by grind[bV,FG]
theorem dO(n a b:Int):cS n a b=some (decide (a<=n/\n<=b)):=by grind[cS,MV]
theorem map_take{O β:Type}(f:O->β){l:List O}{k:Nat}(h:k<l.length):(l.take (k+1)).map f=(l.take k).map f++[f l[k]]:=by grind[MF]
def jC(c:Int):Int:=if c=0 then 8 else if c=1 then 16 else if c=2 then 40 else 0
def aX(c:Int):Int:=if c=0 then 12 else if c=1 then 20 else if c=2 then 44 else 0
def cM(c:Int):Int:=if c=0 then 4 else if c=1 then 2 else if c=2 then 1 else 0
theorem nS{c:Int}(h:0<=c/\c<=2):c=0\/c=1\/c=2:=by omega
theorem a9B{c:Int}(h:¬(0<=c/\c<=2)):jC c=0:=by unfold jC;omega
theorem aNO{c:Int}(h:¬(0<=c/\c<=2)):aX c=0:=by unfold aX;omega
theorem aTN{c:Int}(h:¬(0<=c/\c<=2)):cM c=0:=by unfold cM;omega
theorem nE(c:Int):0<=cM c/\cM c<=4:=by grind[cM]
theorem aY8(c:Int):0<=aX c/\aX c<=44:=by grind[aX]
theorem j6{c:Int}:0<cM c↔0<=c/\c<=2:=by grind[cM]
theorem Y5(c:Int):KY c=some (jC c):=by grind[KY,jC]
theorem kR(c:Int):lM c=some (decide (0<=c/\c<=2)):=by simp[lM,dI]
theorem Y6(c:Int):EJ c=some (jC c):=by
 unfold EJ;rw[kR];by_cases h:0<=c/\c<=2
 ·rcases nS h with rfl|rfl|rfl<;>rfl
 grind[a9B]
theorem aG9(c:Int):BQ c=some (aX c):=by
 unfold BQ;rw[dO];by_cases h:0<=c/\c<=2
 ·rcases nS h with rfl|rfl|rfl<;>rfl
 grind[aNO]
theorem TO(c:Int):vY c=some (aX c):=by
 unfold vY;rw[kR];by_cases h:0<=c/\c<=2
 ·rcases nS h with rfl|rfl|rfl<;>rfl
 grind[aNO]
theorem jI(c:Int):nD c=some (cM c):=by
 unfold nD;rw[dO];by_cases h:0<=c/\c<=2
 ·rcases nS h with rfl|rfl|rfl<;>rfl
 grind[aTN]
theorem DJ(c:Int):pQ c=some (cM c):=by
 unfold pQ;rw[kR];by_cases h:0<=c/\c<=2
 ·rcases nS h with rfl|rfl|rfl<;>rfl
 grind[aTN]
theorem Y7(s:Int):EN s=some (if 0<=s/\s<=23 then s/4 else -1):=by grind[EN,dO,cC]
theorem W5(s:Int):zX s=some (if 0<=s/\s<=23 then s % 4 else -1):=by grind[zX,dO]
def iS(s c:Int):Int:=if(0<=s/\s<=23)/\s % 4<cM c then s/4*64+8+s % 4*aX c else -1
theorem VF{i c:Int}(h0:0<=i)(h1:i<cM c):0<=i*aX c/\i*aX c+aX c<=56:=by unfold cM at h1;unfold aX;grind
theorem wH(s c:Int):yI s c=some (iS s c):=by
 unfold yI J6 iS;rw[Y7,W5,jI,aG9];by_cases h:0<=s/\s<=23
 ·have hp:=nE c;have h1:¬s/4<0:=by omega
  have h2:bA (cM c-1)=cM c-1:=eB;by_cases h3:s % 4<cM c
  ·have hm:=VF (by omega) h3;have hs:=aY8 c;have h4:0<=s % 4/\s % 4<=cM c-1:=by omega
   have h5:¬cM c-1<s % 4:=by omega
   have e1:bA (s/4*64)=s/4*64:=eB;have e2:bA (s/4*64+8)=s/4*64+8:=eB;have e3:bA (s % 4*aX c)=s % 4*aX c:=eB;have e4:bA (s/4*64+8+s % 4*aX c)=s/4*64+8+s % 4*aX c:=eB;simp[h,h1,h2,h3,h4,h5,dO,e1,e2,e3,e4]
  grind[dO]
 ·simp[h]
theorem zA(s:Int):tC s=some (decide (0<=s/\s<=23)):=by simp[tC,dI]
theorem CD(s c:Int):xT s c=some (iS s c):=by
 unfold xT BG iS;rw[zA,kR,DJ,TO];by_cases h:0<=s/\s<=23
 ·have hp:=nE c;rw[OZ h.1,aV7 h.1];grind[cM,cC,aX]
 ·simp[h]
def ldF(l:List Int):Int:=l.foldl (λn x=>n*256+x) 0
def sO(l:List Int):Prop:=∀x∈l,0<=x/\x<=255
instance (l:List Int):Decidable (sO l):=by unfold sO;infer_instance
theorem aNP{l:List Int}{k:Nat}(h:k<l.length):ldF (l.take (k+1))=ldF (l.take k)*256+l[k]:=by grind[ldF,MF]
theorem aRF{l:List Int}(h:sO l):∀k,k<=l.length->0<=ldF (l.take k)/\ldF (l.take k)<256 ^ k:=by
 intro k;induction k with
 |zero=>grind[ldF]
 |succ k ih=>
  intro hk;have h1:=ih (by omega);have h2:=h _ (dJ (show k<l.length by omega));grind[aNP]
theorem bII{k:Nat}(h:k<=6):(256:Int) ^ k<=281474976710656:=by have h1:(256:Nat) ^ k<=256 ^ 6:=Nat.pow_le_pow_right (by omega) h;grind
def ld(b:List Int)(at_ w:Nat):Int:=ldF ((b.drop at_).take w)
theorem a2B{n x:Int}{k:Nat}(hk:k<=6)(h:0<=n/\n<256 ^ k)(hx:0<=x/\x<=255):bA (bA (n*256)+x)=n*256+x/\bA (bA (256*n)+x)=n*256+x:=by have:=bII hk;grind[cC]
theorem aY9{b:List Int}{a w:Nat}(h:a+w<=b.length):((b.drop a).take w).length=w:=by simp;omega
theorem aNQ{b:List Int}{a w k:Nat}(h:k<((b.drop a).take w).length)(h':a+k<b.length):((b.drop a).take w)[k]=b[a+k]:=by simp
theorem aTO{b:List Int}(hb:sO b)(a w:Nat):sO ((b.drop a).take w):=λx hx=>hb x (VW (a51 hx))
theorem Y8{b:List Int}(hb:sO b){a w:Nat}(hw:w<=7)(h:a+w<=b.length)(hl:b.length<=100000):KZ b (a:Int) (w:Int)=some (ld b a w):=by
 unfold KZ;have hlen:=aY9 h;have hbb:=aTO hb a w;have key:loop (yH b (a:Int) (w:Int)) (0,0)=some (ld b a w):=by
  refine jG (f:=yH b (a:Int) (w:Int)) w (λk=>(ldF (((b.drop a).take w).take k),(k:Int))) _ (λk hk=>?_) ?_
  ·have hb1:=aRF hbb k (by omega);have hk':k<((b.drop a).take w).length:=by omega
   have hx:=hbb _ (dJ hk');have hs:=a2B (by omega) hb1 hx;rw[aNQ hk' (by omega)] at hs;have e1:bA ((a:Int)+k)=((a+k:Nat):Int):=by grind[cC]
   simp only[yH];rw[dM,e1,O0];simp only[aJ,hs.1,aNP hk',aNQ hk' (show a+k<b.length by omega)];grind[cC]
  grind[yH,ld]
 rw[key];rfl
theorem vQ{b:List Int}(hb:sO b){a w:Nat}(hw:w<=7)(h:a+w<=b.length)(hl:b.length<=100000):pR b (a:Int) (w:Int)=some (ld b a w):=by
 unfold pR;have hlen:=aY9 h;have hbb:=aTO hb a w;have e0:bA ((a:Int)+w)=((a+w:Nat):Int):=by grind[cC]
 have e2:(b.take (a+w)).drop a=(b.drop a).take w:=by grind
 rw[R1];have key:loop (uU b (a:Int) (w:Int)) (0,0)=some (ld b a w):=by
  refine jG (f:=uU b (a:Int) (w:Int)) w (λk=>(ldF (((b.drop a).take w).take k),(k:Int))) _ (λk hk=>?_) ?_
  ·have hb1:=aRF hbb k (by omega);have hk':k<((b.drop a).take w).length:=by omega
   have hx:=hbb _ (dJ hk');have hs:=a2B (by omega) hb1 hx;simp only[uU,e0,MR,e2];rw[dM,aV hk'];simp only[aJ,hs.2,aNP hk'];rw[eB (x:=(k:Int)+1)];rfl
  ·have:((b.drop a).take w).take w=(b.drop a).take w:=by grind
   simp only[uU,e0,MR,e2,this,ld];grind
 rw[key];rfl
theorem HM{l:List Int}(hl:l.length<=maxLen)(f:Int->Bool):fB l (λx=>some (f x))=some (l.any f):=by
 unfold fB gI;have key:∀k:Nat,k<=l.length->loop (gC l (λx=>some (f x))) (k:Int)=some (if(l.drop k).any f then Out.ret ((k+(l.drop k).findIdx f:Nat):Int) else Out.brk ()):=by
  refine aSC l.length _ λk hk=>?_;by_cases h3:k<l.length
  ·have hd:l.drop k=l[k]::l.drop (k+1):=AG h3;simp only[gC];rw[dM,aV h3,m9 (N4 h3 hl),hd];grind
  grind[gC]
 have t0:loop (gC l (λx=>some (f x))) 0=_:=key 0 (by omega);rw[t0];simp only[PO];by_cases h:l.any f=true
 ·simp[h,rP]
 grind[rP,EK]
def BOk(b:List Int):Prop:=b.length<=1000/\sO b
instance (b:List Int):Decidable (BOk b):=by unfold BOk;infer_instance
theorem aJZ{b:List Int}(hl:b.length<=maxLen):NJ b=some (decide (BOk b)):=by
 unfold NJ;have key:loop (pC b) 0=some (if ∀x∈b,0<=x/\x<=255 then Out.brk () else Out.ret false):=by
  refine mM (f:=pC b) b (λk=>(k:Int)) (λx=>0<=x/\x<=255) _ _ (λk h hp=>?_) (λk h hp=>?_) ?_
  ·simp only[pC];rw[dM,aV h,m9 (N4 h hl)];simp[dO,hp]
  ·simp only[pC];rw[dM,aV h];simp only[aJ,dO,hp,decide_false,NZ,bU]
  ·simp[pC]
 rw[key];by_cases h:∀x∈b,0<=x/\x<=255
 ·rw[aL h];have:BOk b↔b.length<=1000:=⟨λq=>q.1,λq=>⟨q,h⟩⟩;simp only[aJ,LV,WN,this];grind
 ·rw[aP h];have:¬BOk b:=λq=>h q.2;grind[LV]
theorem aAE{O:Type}{p:O->Prop}[DecidablePred p](l:List O):(l.any λx=>!decide (p x))=!decide (∀x∈l,p x):=by grind
theorem aJ0{b:List Int}(hl:b.length<=maxLen):M5 b=some (decide (BOk b)):=by
 unfold M5 CZ;have e:(λy0=>FU y0)=λy:Int=>some (!decide (0<=y/\y<=255)):=by grind[FU,X6,dI]
 rw[e,HM hl,aAE];by_cases h:b.length<=1000
 ·have:BOk b↔∀x∈b,0<=x/\x<=255:=⟨λq=>q.2,λq=>⟨h,q⟩⟩;grind
 grind[BOk]
def fO(h:Heap):Prop:=h.Bytes.length=384/\h.Class.length=6/\sO h.Bytes/\∀c∈h.Class,-1<=c/\c<=2
instance (h:Heap):Decidable (fO h):=by unfold fO;infer_instance
theorem aJ1{h:Heap}(hl:h.Bytes.length<=maxLen):NL h=some (decide (fO h)):=by
 unfold NL vG;by_cases h1:h.Bytes.length=384
 ·by_cases h2:h.Class.length=6
  ·rw[aJZ hl];have n1:((h.Bytes.length:Int) != 384)=false:=by simp;omega
   have n2:((h.Class.length:Int) != 6)=false:=by simp;omega
   simp only[n1,n2,bO,bM,aJ];by_cases h3:sO h.Bytes
   ·have b1:BOk h.Bytes:=⟨by omega,h3⟩;have key:loop (pD h) 0=some (if ∀x∈h.Class,-1<=x/\x<=2 then Out.brk () else Out.ret false):=by
     refine mM (f:=pD h) h.Class (λk=>(k:Int)) (λx=>-1<=x/\x<=2) _ _ (λk h hp=>?_) (λk h hp=>?_) ?_
     ·simp only[pD];rw[dM,aV h,eB];grind[dO]
     ·simp only[pD];rw[dM,aV h];grind[dO]
     grind[pD]
    rw[key];have:fO h↔∀x∈h.Class,-1<=x/\x<=2:=⟨λq=>q.2.2.2,λq=>⟨h1,h2,h3,q⟩⟩;simp only[b1,decide_true,i5,bO,bM,this];by_cases h4:∀x∈h.Class,-1<=x/\x<=2
    ·rw[aL h4,cD h4];rfl
    ·rw[aP h4,eU h4];rfl
   grind[BOk,fO]
  grind[fO]
 grind[fO]
theorem O1{h:Heap}(hl:h.Bytes.length<=maxLen):KM h=some (decide (fO h)):=by
 unfold KM rQ;by_cases h1:h.Bytes.length=384
 ·have n1:((h.Bytes.length:Int) == 384)=true:=by simp;omega
  rw[aJ0 hl];by_cases h3:sO h.Bytes
  ·have b1:BOk h.Bytes:=⟨by omega,h3⟩;by_cases h2:h.Class.length=6
   ·have n2:((h.Class.length:Int) == 6)=true:=by simp;omega
    have e:(λy0=>JS y0)=λy:Int=>some (!decide (-1<=y/\y<=2)):=by grind[JS,dI]
    rw[e,HM (by omega),aAE];grind[fO]
   grind[fO]
  grind[BOk,fO]
 grind[fO]
def gG(h:Heap)(p:Nat):List Int:=(h.Bytes.drop (p*64)).take 64
def cA(h:Heap)(p:Nat):Int:=h.Class.getD p 0
def oY(h:Heap)(p:Nat):Prop:=
 if cA h p<0 then ∀x∈gG h p,x=0
 else((gG h p).getD 0 0=171/\(gG h p).getD 1 0=cA h p/\(gG h p).getD 2 0=cM (cA h p))/\(∀x∈((gG h p).drop 3).take 5,x=0)/\∀i,i<(cM (cA h p)).toNat->1<=ld h.Bytes (p*64+8+i*(aX (cA h p)).toNat) 4/\ld h.Bytes (p*64+8+i*(aX (cA h p)).toNat) 4<=7
instance (h:Heap) (p:Nat):Decidable (oY h p):=by unfold oY;infer_instance
section
variable {h:Heap} (hs:fO h) {p:Nat} (hp:p<6)
include hs hp
theorem TP:(gG h p).length=64:=aY9 (by have:=hs.1;omega)
theorem Y9{k:Nat}(hk:k<64):h.Bytes[p*64+k]'(by have:=hs.1;omega)=(gG h p)[k]'(by grind[TP]):=(aNQ (show k<((h.Bytes.drop (p*64)).take 64).length by have:=TP hs hp;grind[gG]) _).symm
theorem aRG{k:Nat}(hk:k<64):h.Bytes[p*64+k]'(by have:=hs.1;omega)=(gG h p).getD k 0:=by grind[Y9]
theorem aAF:h.Class[p]'(by have:=hs.2.1;omega)=cA h p:=by grind[cA]
theorem aKX:idx h.Class (p:Int)=some (cA h p):=by rw[aV (by have:=hs.2.1;omega),aAF hs hp]
theorem aNR{k:Nat}(hk:k<64):idx h.Bytes (((p*64+k:Nat)):Int)=some ((gG h p).getD k 0):=by rw[aV (by have:=hs.1;omega),aRG hs hp hk]
theorem a4K:sO (gG h p):=aTO hs.2.2.1 _ _
theorem sP{c:Int}(hc:cA h p=c){i:Nat}(hi:i<(cM c).toNat):(8+i*(aX c).toNat)+4<=64/\0<=(i:Int)*aX c/\((8+i*(aX c).toNat:Nat):Int)=8+(i:Int)*aX c:=by grind[cM,aX]
theorem a9D{i:Nat}(hi:i<(cM (cA h p)).toNat):iS ((p:Int)*4+i) (cA h p)=((p*64+(8+i*(aX (cA h p)).toNat):Nat):Int):=by have hz:=sP hs hp rfl hi;have hle:=nE (cA h p);unfold iS;grind
theorem ZA:QH h (p:Int)=some (decide (oY h p)):=by
 have hb:=hs.1;have hl:=TP hs hp;have e0:bA ((p:Int)*64)=((p*64+0:Nat):Int):=by grind[cC]
 have e1:bA (((p*64+0:Nat):Int)+1)=((p*64+1:Nat):Int):=by grind[cC]
 have e2:bA (((p*64+0:Nat):Int)+2)=((p*64+2:Nat):Int):=by grind[cC]
 have e3:bA (((p*64+0:Nat):Int)+3)=((p*64+3:Nat):Int):=by grind[cC]
 have e8:bA (((p*64+0:Nat):Int)+8)=((p*64+8:Nat):Int):=by grind[cC]
 have e64:bA (((p*64+0:Nat):Int)+64)=((p*64+64:Nat):Int):=by grind[cC]
 unfold QH;rw[aKX hs hp];simp only[aJ];by_cases hc:cA h p<0
 ·simp only[hc,decide_true,bU,e0];have key:loop (sE h (p:Int)) (((p*64+0:Nat)):Int)=some (if ∀x∈gG h p,x=0 then Out.brk () else Out.ret false):=by
   refine mM (f:=sE h (p:Int)) (gG h p) (λk=>((p*64+k:Nat):Int)) (λx=>x=0) _ _ (λk hk hx=>?_) (λk hk hx=>?_) ?_
   ·simp only[sE,e0,e64];rw[dM,O0,Y9 hs hp (by omega),eB];grind
   ·simp only[sE,e0,e64];rw[dM,O0,Y9 hs hp (by omega)];grind
   simp_all[sE]
  rw[key];have hP:oY h p↔∀x∈gG h p,x=0:=by simp_all[oY]
  by_cases h4:∀x∈gG h p,x=0
  ·rw[aL h4,cD (hP.2 h4)];rfl
  ·rw[aP h4,eU (λq=>h4 (hP.1 q))];rfl
 ·have hP:oY h p↔((gG h p).getD 0 0=171/\(gG h p).getD 1 0=cA h p/\(gG h p).getD 2 0=cM (cA h p))/\(∀x∈((gG h p).drop 3).take 5,x=0)/\∀i,i<(cM (cA h p)).toNat->1<=ld h.Bytes (p*64+8+i*(aX (cA h p)).toNat) 4/\ld h.Bytes (p*64+8+i*(aX (cA h p)).toNat) 4<=7:=by simp_all[oY,aP]
  simp only[hc,decide_false,bO,bM,e0,e1,e2,aNR hs hp (show 0<64 by omega),aNR hs hp (show 1<64 by omega),aNR hs hp (show 2<64 by omega),aJ,jI];by_cases a0:(gG h p).getD 0 0=171
  ·by_cases a1:(gG h p).getD 1 0=cA h p
   ·by_cases a2:(gG h p).getD 2 0=cM (cA h p)
    ·have n0:((gG h p).getD 0 0 != 171)=false:=by grind
     have n1:((gG h p).getD 1 0 != cA h p)=false:=by grind
     have n2:((gG h p).getD 2 0 != cM (cA h p))=false:=by grind
     simp only[n0,n1,n2,bO,bM,lZ,e0,e3];have hl5:(((gG h p).drop 3).take 5).length=5:=by simp[hl]
     have key:loop (sH h (p:Int)) (((p*64+3:Nat)):Int)=some (if ∀x∈((gG h p).drop 3).take 5,x=0 then Out.brk () else Out.ret false):=by
      refine mM (f:=sH h (p:Int)) (((gG h p).drop 3).take 5) (λk=>((p*64+(3+k):Nat):Int)) (λx=>x=0) _ _ (λk hk hx=>?_) (λk hk hx=>?_) ?_
      ·simp only[sH,e0,e8];rw[dM,O0,Y9 hs hp (by omega),eB,<-aNQ hk (by omega),hx];simp;omega
      ·simp only[sH,e0,e8];rw[dM,O0,Y9 hs hp (by omega),<-aNQ hk (by omega)];grind
      simp_all[sH]
     rw[key];by_cases h4:∀x∈((gG h p).drop 3).take 5,x=0
     ·rw[aL h4];simp only[aJ,YF,YE];have key2:loop (sG h (p:Int) (cA h p)) 0=some (if ∀i,i<(cM (cA h p)).toNat->1<=ld h.Bytes (p*64+8+i*(aX (cA h p)).toNat) 4/\ld h.Bytes (p*64+8+i*(aX (cA h p)).toNat) 4<=7 then Out.brk () else Out.ret false):=by
       have hle:=nE (cA h p);have hst:∀k:Nat,k<(cM (cA h p)).toNat->sG h (p:Int) (cA h p) (k:Int)=if 1<=ld h.Bytes (p*64+8+k*(aX (cA h p)).toNat) 4/\ld h.Bytes (p*64+8+k*(aX (cA h p)).toNat) 4<=7 then some (.next ((k+1:Nat):Int)) else some (.stop (Out.ret false)):=by
        intro k hk;have hz:=sP hs hp rfl hk;have s1:tE (p:Int) (k:Int)=some ((p:Int)*4+k):=by
         unfold tE yN;rw[dO,dO];have g1:(0:Int)<=p/\(p:Int)<=5:=by omega
         have g2:(0:Int)<=k/\(k:Int)<=3:=by omega
         simp only[aJ,g1,g2,and_self,decide_true,i5,bO,bM];grind[cC]
        have l1:=Y8 hs.2.2.1 (a:=p*64+(8+k*(aX (cA h p)).toNat)) (w:=4) (by omega) (by omega) (by omega);simp only[sG,jI,aJ];rw[dM,s1];simp only[aJ,wH,a9D hs hp hk];rw[show((4:Nat):Int)=4 from rfl] at l1;rw[l1,EF,eB (x:=(k:Int)+1)];simp only[aJ,dO];grind
       refine y9 (f:=sG h (p:Int) (cA h p)) (cM (cA h p)).toNat (λk=>(k:Int)) (λi=>1<=ld h.Bytes (p*64+8+i*(aX (cA h p)).toNat) 4/\ld h.Bytes (p*64+8+i*(aX (cA h p)).toNat) 4<=7) _ _ (λk hk hx=>?_) (λk hk hx=>?_) ?_
       ·grind
       ·rw[hst k hk,aP hx]
       ·simp only[sG,jI,aJ];rw[Y4]
      rw[key2];by_cases h5:∀i,i<(cM (cA h p)).toNat->1<=ld h.Bytes (p*64+8+i*(aX (cA h p)).toNat) 4/\ld h.Bytes (p*64+8+i*(aX (cA h p)).toNat) 4<=7
      ·rw[aL h5,cD (hP.2 ⟨⟨a0,a1,a2⟩,h4,h5⟩)];rfl
      ·rw[aP h5,eU (λq=>h5 (hP.1 q).2.2)];rfl
     ·rw[aP h4,eU (λq=>h4 (hP.1 q).2.1)];rfl
    simp_all[lZ]
   simp_all[lZ]
  simp_all[lZ]
end
theorem ZB{l:List Int}(hl:l.length<=maxLen):KN l=some (decide (∀x∈l,x=0)):=by
 unfold KN;have e:(λy0=>JT y0)=λy:Int=>some (!decide (y=0)):=by grind[JT]
 simp_all[HM,aAE]
section
variable {h:Heap} (hs:fO h) {p:Nat} (hp:p<6)
include hs hp
theorem bF5:(h.Bytes.take ((p+1)*64)).drop (p*64)=gG h p:=by grind[gG,List.drop_take]
theorem bDY{a:Nat}(ha:a+4<=64):ld (gG h p) a 4=ld h.Bytes (p*64+a) 4:=by grind[ld,gG,List.drop_take,List.drop_drop]
theorem aZA{k:Nat}(hk:k<64):idx (gG h p) (k:Int)=some ((gG h p).getD k 0):=by grind[TP,aV]
theorem ZC:QB h (p:Int)=some (decide (oY h p)):=by
 have hb:=hs.1;have hl:=TP hs hp;have hm:(gG h p).length<=maxLen:=by grind[maxLen]
 have e0:bA ((p:Int)*64)=((p*64:Nat):Int):=by grind[cC]
 have e1:bA (bA ((p:Int)+1)*64)=(((p+1)*64:Nat):Int):=by grind[cC]
 have i0:=aZA hs hp (show 0<64 by omega);have i1:=aZA hs hp (show 1<64 by omega);have i2:=aZA hs hp (show 2<64 by omega);rw[show((0:Nat):Int)=0 from rfl] at i0;rw[show((1:Nat):Int)=1 from rfl] at i1;rw[show((2:Nat):Int)=2 from rfl] at i2;unfold QB;rw[aKX hs hp];simp only[aJ,e0,e1,MR,bF5 hs hp];rw[R1];by_cases hc:cA h p<0
 ·simp_all[oY,ZB]
 ·have hP:oY h p↔((gG h p).getD 0 0=171/\(gG h p).getD 1 0=cA h p/\(gG h p).getD 2 0=cM (cA h p))/\(∀x∈((gG h p).drop 3).take 5,x=0)/\∀i,i<(cM (cA h p)).toNat->1<=ld h.Bytes (p*64+8+i*(aX (cA h p)).toNat) 4/\ld h.Bytes (p*64+8+i*(aX (cA h p)).toNat) 4<=7:=by simp_all[oY,aP]
  simp only[hc,decide_false,bO,bM,i0,i1,i2,aJ,DJ];by_cases a0:(gG h p).getD 0 0=171
  ·by_cases a1:(gG h p).getD 1 0=cA h p
   ·by_cases a2:(gG h p).getD 2 0=cM (cA h p)
    ·have n0:((gG h p).getD 0 0 != 171)=false:=by grind
     have n1:((gG h p).getD 1 0 != cA h p)=false:=by grind
     have n2:((gG h p).getD 2 0 != cM (cA h p))=false:=by grind
     have t8:((gG h p).take (8:Int).toNat).drop (3:Int).toNat=((gG h p).drop 3).take 5:=by grind[List.drop_take]
     simp only[n0,n1,n2,bO,bM,kH,t8];rw[R1,ZB (by grind)];by_cases h4:∀x∈((gG h p).drop 3).take 5,x=0
     ·simp only[cD h4,aJ,i5,bO,bM,DJ];have key2:loop (rR h (p:Int) (cA h p) (cM (cA h p))) 0=some (if ∀i,i<(cM (cA h p)).toNat->1<=ld h.Bytes (p*64+8+i*(aX (cA h p)).toNat) 4/\ld h.Bytes (p*64+8+i*(aX (cA h p)).toNat) 4<=7 then Out.brk () else Out.ret false):=by
       have hle:=nE (cA h p);have hst:∀k:Nat,k<(cM (cA h p)).toNat->rR h (p:Int) (cA h p) (cM (cA h p)) (k:Int)=if 1<=ld h.Bytes (p*64+8+k*(aX (cA h p)).toNat) 4/\ld h.Bytes (p*64+8+k*(aX (cA h p)).toNat) 4<=7 then some (.next ((k+1:Nat):Int)) else some (.stop (Out.ret false)):=by
        intro k hk;have hz:=sP hs hp rfl hk;have e5:bA (8+bA ((k:Int)*aX (cA h p)))=((8+k*(aX (cA h p)).toNat:Nat):Int):=by grind[cC]
        have l1:=vQ (a4K hs hp) (a:=8+k*(aX (cA h p)).toNat) (w:=4) (by omega) (by omega) (by omega);rw[show((4:Nat):Int)=4 from rfl,bDY hs hp (by omega)] at l1;simp only[rR,TO,aJ,e0,e1,MR,bF5 hs hp,e5];rw[dM,l1,EF,eB (x:=(k:Int)+1)];simp only[aJ,dI];grind
       refine y9 (f:=rR h (p:Int) (cA h p) (cM (cA h p))) (cM (cA h p)).toNat (λk=>(k:Int)) (λi=>1<=ld h.Bytes (p*64+8+i*(aX (cA h p)).toNat) 4/\ld h.Bytes (p*64+8+i*(aX (cA h p)).toNat) 4<=7) _ _ (λk hk hx=>?_) (λk hk hx=>?_) ?_
       ·grind
       ·simp_all
       ·simp only[rR];rw[Y4]
      rw[key2];by_cases h5:∀i,i<(cM (cA h p)).toNat->1<=ld h.Bytes (p*64+8+i*(aX (cA h p)).toNat) 4/\ld h.Bytes (p*64+8+i*(aX (cA h p)).toNat) 4<=7
      ·rw[aL h5,cD (hP.2 ⟨⟨a0,a1,a2⟩,h4,h5⟩)];rfl
      ·rw[aP h5,eU (λq=>h5 (hP.1 q).2.2)];rfl
     grind
    ·have n0:((gG h p).getD 0 0 != 171)=false:=by grind
     have n1:((gG h p).getD 1 0 != cA h p)=false:=by grind
     have n2:((gG h p).getD 2 0 != cM (cA h p))=true:=by grind
     simp_all[kH]
   simp_all[kH]
  simp_all[kH]
end
instance (h:Heap):Decidable (∀p,p<6->oY h p):=Nat.decidableBallLT 6 λp _=>oY h p
def XN(h:Heap):Prop:=fO h/\∀p,p<6->oY h p
instance (h:Heap):Decidable (XN h):=by unfold XN;infer_instance
theorem aNS{h:Heap}(hl:h.Bytes.length<=maxLen):QI h=some (decide (XN h)):=by
 unfold QI;rw[aJ1 hl];by_cases hs:fO h
 ·have key:loop (yO h) 0=some (if ∀p,p<6->oY h p then Out.brk () else Out.ret false):=by
   refine y9 (f:=yO h) 6 (λk=>(k:Int)) (λp=>oY h p) _ _ (λk hk hx=>?_) (λk hk hx=>?_) ?_
   ·simp only[yO];rw[dM,ZA hs hk,eB,cD hx];rfl
   ·simp only[yO];rw[dM,ZA hs hk,eU hx];rfl
   ·rfl
  simp only[aJ,cD hs,i5,bO,bM];rw[key];by_cases h4:∀p,p<6->oY h p
  ·rw[aL h4,cD (show XN h from⟨hs,h4⟩)];rfl
  ·rw[aP h4,eU (λq:XN h=>h4 q.2)];rfl
 grind[XN]
theorem O2{h:Heap}(hl:h.Bytes.length<=maxLen):KO h=some (decide (XN h)):=by
 unfold KO;rw[O1 hl];by_cases hs:fO h
 ·have key:loop (xU h) 0=some (if ∀p,p<6->oY h p then Out.brk () else Out.ret false):=by
   refine y9 (f:=xU h) 6 (λk=>(k:Int)) (λp=>oY h p) _ _ (λk hk hx=>?_) (λk hk hx=>?_) ?_
   ·simp only[xU];rw[dM,ZC hs hk,eB,cD hx];rfl
   ·simp only[xU];rw[dM,ZC hs hk,eU hx];rfl
   ·rfl
  simp only[aJ,cD hs,i5,bO,bM];rw[key];by_cases h4:∀p,p<6->oY h p
  ·rw[aL h4,cD (show XN h from⟨hs,h4⟩)];rfl
  ·rw[aP h4,eU (λq:XN h=>h4 q.2)];rfl
 grind[XN]
def bJ(h:Heap)(s:Int):Int:=if(0<=s/\s<=23)/\s % 4<cM (cA h (s/4).toNat) then cA h (s/4).toNat else -1
theorem rG{h:Heap}{s:Int}(hc:0<=bJ h s):(0<=s/\s<=23)/\s % 4<cM (cA h (s/4).toNat)/\bJ h s=cA h (s/4).toNat:=by unfold bJ at hc ⊢;omega
theorem vR{h:Heap}(hs:fO h)(s:Int):tY h s=some (bJ h s):=by
 unfold tY vD bJ;rw[Y7,W5];by_cases h1:0<=s/\s<=23
 ·obtain⟨k,rfl⟩:=bBW h1.1;have hk:k/4<6:=by omega
  have e1:((k:Int)/4)=((k/4:Nat):Int):=by omega
  have hi:=aKX hs hk;have n1:¬((k/4:Nat):Int)<0:=by omega
  simp only[h1,and_self,bU,aJ,e1,n1,decide_false,bO,bM,hi,MR,true_and];grind[aTN,jI]
 ·simp[h1]
theorem kS{h:Heap}(hs:fO h)(s:Int):lN h s=some (bJ h s):=by
 unfold lN C0 bJ;rw[zA];by_cases h1:0<=s/\s<=23
 ·obtain⟨k,rfl⟩:=bBW h1.1;have hk:k/4<6:=by omega
  have e1:((k:Int)/4)=((k/4:Nat):Int):=by omega
  have hi:=aKX hs hk;have e2:bA (Int.tdiv (k:Int) 4)=((k/4:Nat):Int):=by grind[cC]
  simp only[h1,and_self,decide_true,i5,bO,bU,aJ,e1,e2,bM,hi,MR,true_and,CD];by_cases h3:(k:Int) % 4<cM (cA h (k/4))
  ·have hm:=VF (c:=cA h (k/4)) (by omega) h3;have hg:¬iS (k:Int) (cA h (k/4))<0:=by unfold iS;omega
   grind
  simp_all[iS,aP]
 ·simp[h1]
def j7(h:Heap)(s:Int):Int:=ld h.Bytes (iS s (bJ h s)).toNat 4
theorem aAG{h:Heap}{s:Int}(hc:0<=bJ h s):0<=iS s (bJ h s)/\iS s (bJ h s)+4<=384:=by
 obtain⟨h1,h2,h3⟩:=rG hc;rw[h3];have hm:=VF (c:=cA h (s/4).toNat) (by omega) h2;have hst:0<aX (cA h (s/4).toNat):=by have:0<=cA h (s/4).toNat/\cA h (s/4).toNat<=2:=j6.1 (by omega);rcases nS this with e|e|e<;>rw[e]<;>decide
 have:4<=aX (cA h (s/4).toNat):=by have:0<=cA h (s/4).toNat/\cA h (s/4).toNat<=2:=j6.1 (by omega);rcases nS this with e|e|e<;>rw[e]<;>decide
 unfold iS;omega
theorem qT{h:Heap}(hs:fO h){s:Int}(hc:0<=bJ h s):yJ h s=some (j7 h s):=by have hg:=aAG hc;unfold yJ;rw[vR hs];simp only[aJ,wH];have l1:=Y8 hs.2.2.1 (a:=(iS s (bJ h s)).toNat) (w:=4) (by omega) (by have:=hs.1;omega) (by have:=hs.1;omega);rw[show((4:Nat):Int)=4 from rfl,Int.toNat_of_nonneg hg.1] at l1;rw[l1];rfl
theorem KD{h:Heap}(hs:fO h){s:Int}(hc:0<=bJ h s):DS h s=some (j7 h s):=by
 have hg:=aAG hc;have hm:h.Bytes.length<=maxLen:=by rw[hs.1];simp[maxLen]
 unfold DS FW;rw[O1 hm,kS hs];have l1:=vQ hs.2.2.1 (a:=(iS s (bJ h s)).toNat) (w:=4) (by omega) (by have:=hs.1;omega) (by have:=hs.1;omega);grind[CD,j7]
def fI(l:List bE):List Int:=l.flatMap bE.aT
def dY(l:aD):List Int:=fI l.Global++fI l.Own
def LOk(l:aD):Prop:=l.Global.length=3/\l.Own.length=9/\(∀s∈l.Own,s.aT.length<=2)/\(∀x∈dY l,0<=x/\x<=23)/\(dY l).Nodup
instance (l:aD):Decidable (LOk l):=by unfold LOk;infer_instance
theorem TQ{l:List bE}{k:Nat}(h:k<l.length):fI (l.take (k+1))=fI (l.take k)++l[k].aT:=by grind[fI,MF]
theorem aTP(l:List bE)(k:Nat):(fI (l.take k)).length<=(fI l).length:=by grind[fI,aBH]
theorem aNT(l:List bE){k:Nat}(h:k<l.length):l[k].aT.length<=(fI l).length:=by have h1:=aTP l (k+1);grind[TQ]
theorem aB3{l:aD}(h:(dY l).length<=1073741824)(hg:l.Global.length<=maxLen)(ho:l.Own.length<=maxLen):OL l=some (dY l):=by
 have hsum:(fI l.Global).length+(fI l.Own).length<=1073741824:=by grind[dY]
 unfold OL;have k1:loop (BS l) ([],0)=some (fI l.Global):=by
  refine jG (f:=BS l) l.Global.length (λk=>(fI (l.Global.take k),(k:Int))) _ (λk hk=>?_) ?_
  ·have h1:=aTP l.Global (k+1);rw[TQ hk] at h1;simp only[BS];rw[dM,aV hk];grind[bY,TQ,m9]
  grind[BS]
 rw[k1];simp only[aJ,aBN,aBM];have k2:loop (BR l) (fI l.Global,0)=some (dY l):=by
  have:=jG (f:=BR l) l.Own.length (λk=>(fI l.Global++fI (l.Own.take k),(k:Int))) (dY l) (λk hk=>?_) ?_
  ·grind[fI]
  ·have h1:=aTP l.Own (k+1);rw[TQ hk] at h1;simp only[BR];rw[dM,aV hk];grind[bY,TQ,m9]
  grind[BR,dY]
 rw[k2];rfl
theorem R3{l:List Int}(hl:l.length<=maxLen)(x:Int):I4 l x=some (decide (x∈l)):=by
 unfold I4;have key:loop (wE l x) 0=some (if ∀y∈l,y≠x then Out.brk () else Out.ret true):=by
  refine mM (f:=wE l x) l (λk=>(k:Int)) (λy=>y≠x) _ _ (λk h hp=>?_) (λk h hp=>?_) ?_
  ·simp only[wE];rw[dM,aV h,m9 (N4 h hl)];have:(l[k] == x)=false:=by simpa using hp
   simp only[aJ,this,bO,bM]
  ·simp only[wE];rw[dM,aV h];have:(l[k] == x)=true:=by simpa using hp
   simp only[aJ,this,bU]
  ·simp[wE]
 rw[key];by_cases h:x∈l
 ·rw[aP (λq=>q x h rfl),cD h];rfl
 ·rw[aL (λy hy (e:y=x)=>h (e ▸ hy)),eU h];rfl
theorem O3(l:List Int):l.Nodup↔∀k (h:k<l.length),l[k]∉l.take k:=by grind[List.pairwise_iff_getElem,List.mem_take_iff_getElem]
theorem aJ2{l:aD}(h:(dY l).length<=1073741824):NM l=some (decide (LOk l)):=by
 unfold NM DC;by_cases hg:l.Global.length=3
 ·by_cases ho:l.Own.length=9
  ·have n1:((l.Global.length:Int) != 3)=false:=by simp;omega
   have n2:((l.Own.length:Int) != 9)=false:=by simp;omega
   simp only[n1,n2,bO,bM];have k1:loop (pG l) 0=some (if ∀s∈l.Own,s.aT.length<=2 then Out.brk () else Out.ret false):=by
    refine mM (f:=pG l) l.Own (λk=>(k:Int)) (λs=>s.aT.length<=2) _ _ (λk hk hp=>?_) (λk hk hp=>?_) ?_
    ·simp only[pG];rw[dM,aV hk,eB];simp only[aJ];rw[Y4];rfl
    ·simp only[pG];rw[dM,aV hk];simp only[aJ];rw[dM]
    ·simp[pG]
   rw[k1];by_cases h2:∀s∈l.Own,s.aT.length<=2
   ·rw[aL h2];simp only[aJ,WQ,WO];rw[aB3 h (by rw[hg];simp[maxLen]) (by rw[ho];simp[maxLen])];simp only[aJ];have k2:loop (pE (dY l)) 0=some (if ∀k,k<(dY l).length->(0<=(dY l).getD k 0/\(dY l).getD k 0<=23)/\(dY l).getD k 0∉(dY l).take k then Out.brk () else Out.ret false):=by
     have hst:∀k,k<(dY l).length->pE (dY l) (k:Int)=if(0<=(dY l).getD k 0/\(dY l).getD k 0<=23)/\(dY l).getD k 0∉(dY l).take k then some (.next ((k+1:Nat):Int)) else some (.stop (Out.ret false)):=by
      intro k hk;have e:(dY l).getD k 0=(dY l)[k]:=by rw[EE,jK hk];rfl
      rw[e];simp only[pE];rw[dM,aV hk];simp only[aJ,dO,DB];by_cases q:0<=(dY l)[k]/\(dY l)[k]<=23
      ·rw[cD q];simp only[i5,bO,bM,MR,PO];rw[R1,R3 (by simp[maxLen];omega),eB];by_cases q2:(dY l)[k]∈(dY l).take k
       ·rw[aP (λx=>x.2 q2),cD q2];rfl
       ·rw[aL ⟨q,q2⟩,eU q2];rfl
      ·rw[eU q];simp only[NZ,bU];rw[aP (λx=>q x.1)]
     refine y9 (f:=pE (dY l)) (dY l).length (λk=>(k:Int)) (λk=>(0<=(dY l).getD k 0/\(dY l).getD k 0<=23)/\(dY l).getD k 0∉(dY l).take k) _ _ (λk hk hx=>?_) (λk hk hx=>?_) ?_
     ·rw[hst k hk,aL hx]
     ·rw[hst k hk,aP hx]
     ·simp[pE]
    rw[k2];have hiff:LOk l↔∀k,k<(dY l).length->(0<=(dY l).getD k 0/\(dY l).getD k 0<=23)/\(dY l).getD k 0∉(dY l).take k:=by
     have e:∀k (hk:k<(dY l).length),(dY l).getD k 0=(dY l)[k]:=λk hk=>by grind
     constructor
     ·rintro⟨_,_,_,q1,q2⟩ k hk;rw[e k hk];exact⟨q1 _ (dJ hk),(O3 _).1 q2 k hk⟩
     ·intro q;refine⟨hg,ho,h2,λx hx=>?_,(O3 _).2 λk hk=>?_⟩
      ·obtain⟨k,hk,rfl⟩:=aBF.1 hx;have:=(q k hk).1;rw[e k hk] at this;exact this
      ·have:=(q k hk).2;rw[e k hk] at this;exact this
    by_cases q:LOk l
    ·rw[aL (hiff.1 q),cD q];rfl
    ·rw[aP (λx=>q (hiff.2 x)),eU q];rfl
   ·rw[aP h2,eU (λq:LOk l=>h2 q.2.2.1)];rfl
  ·have n1:((l.Global.length:Int) != 3)=false:=by simp;omega
   have n2:((l.Own.length:Int) != 9)=true:=by simp;omega
   simp_all[LOk]
 ·have n1:((l.Global.length:Int) != 3)=true:=by simp;omega
  simp_all[LOk]
def CE:List Bool->List Int->Option (List Bool)
 |met,[]=>some met
 |met,x::r=>if(0<=x/\x<=23)/\met.getD x.toNat true=false then CE (met.set x.toNat true) r else none
theorem aRH:∀{xs:List Int} {met m:List Bool},CE met xs=some m->m.length=met.length
 |[],met,m,h=>by grind[CE]
 |x::r,met,m,h=>by
  simp only[CE] at h;split at h
  ·have:=aRH h;grind
  ·cases h
theorem aFF:∀(a b:List Int) (met:List Bool),CE met (a++b)=(CE met a).bind λm=>CE m b
 |[],b,met=>rfl
 |x::r,b,met=>by
  simp only[KG,CE];split
  ·exact aFF r b _
  ·rfl
theorem aDA:∀(xs:List Int) (met:List Bool),met.length=24->((CE met xs).isSome=true↔(∀x∈xs,0<=x/\x<=23)/\xs.Nodup/\∀x∈xs,met.getD x.toNat true=false)
 |[],met,hm=>by simp[CE]
 |x::r,met,hm=>by
  simp only[CE];by_cases h:(0<=x/\x<=23)/\met.getD x.toNat true=false
  ·rw[aL h,aDA r _ (by grind)];grind
  grind
def aTQ:Option (List Bool)->Out (List Bool) Bool
 |some m=>.brk m
 |none=>.ret false
theorem bK2{s:bE}(hl:s.aT.length<=maxLen):∀d k (met:List Bool),k+d=s.aT.length->met.length=24->loop (uS s) ((k:Int),met)=some (aTQ (CE met (s.aT.drop k))):=by
 intro d;induction d with
 |zero=>
  intro k met hk hm;rw[bD (r:=Out.brk met) (by grind[uS]),aK7 (by omega)];rfl
 |succ d ih=>
  intro k met hk hm;have hk':k<s.aT.length:=by omega
  have hd:s.aT.drop k=s.aT[k]::s.aT.drop (k+1):=AG hk';have hst:uS s ((k:Int),met)=if(0<=s.aT[k]/\s.aT[k]<=23)/\met.getD s.aT[k].toNat true=false then some (.next (((k+1:Nat):Int),met.set s.aT[k].toNat true)) else some (.stop (Out.ret false)):=by
   simp only[uS];rw[dM,aV hk'];simp only[aJ,zA];generalize s.aT[k]=x;by_cases q:0<=x/\x<=23
   ·obtain⟨j,rfl⟩:=bBW q.1;have hj:j<met.length:=by omega
    have e:met.getD j true=met[j]:=by grind
    simp only[q,and_self,decide_true,i5,bO,bM,uR,MR,true_and,e];rw[R1,aV hj];simp only[aJ];cases met[j]
    ·simp only[bO,bM,bU];grind[bY,m9]
    ·simp
   ·rw[eU q];simp only[NZ,bU,uR];grind
  rw[hd,CE];by_cases q:(0<=s.aT[k]/\s.aT[k]<=23)/\met.getD s.aT[k].toNat true=false
  ·rw[aL q] at hst ⊢;grind[bG]
  ·rw[aP q] at hst ⊢;rw[bD hst];rfl
def aH3(l:List bE):Prop:=∀s∈l,s.aT.length<=2
instance (l:List bE):Decidable (aH3 l):=by unfold aH3;infer_instance
theorem bK3{l:aD}(ho:l.Own.length=9)(hn:(l.Own++l.Global).length<=1000)(hs:∀s∈l.Own++l.Global,s.aT.length<=maxLen):∀d k (met:List Bool),k+d=(l.Own++l.Global).length->met.length=24 ->
  loop (uT l) ((k:Int),met)=some (if aH3 (((l.Own++l.Global).drop k).take (9-k))/\(CE met (fI ((l.Own++l.Global).drop k))).isSome=true then Out.brk () else Out.ret false):=by
 intro d;induction d with
 |zero=>
  intro k met hk hm;rw[aK7 (by omega),aL ⟨by simp[aH3],rfl⟩];simp_all[bD,uT]
 |succ d ih=>
  intro k met hk hm;have hk':k<(l.Own++l.Global).length:=by omega
  have hd:(l.Own++l.Global).drop k=(l.Own++l.Global)[k]::(l.Own++l.Global).drop (k+1):=AG hk';have hsk:=hs _ (dJ hk');have hf:fI ((l.Own++l.Global).drop k)=(l.Own++l.Global)[k].aT++fI ((l.Own++l.Global).drop (k+1)):=by grind[fI]
  have hin:∀b:Bool,pA (k:Int) met (l.Own++l.Global)[k] b=if b then some (.stop (Out.ret false)) else(match CE met (l.Own++l.Global)[k].aT with|some m=>some (.next (((k+1:Nat):Int),m))|none=>some (.stop (Out.ret false))):=by
   intro b;have h4:=bK2 hsk _ 0 met (aDW _) hm;rw[show((0:Nat):Int)=0 from rfl,PO] at h4;unfold pA;rw[h4];cases b
   ·simp only[bO,bM,aJ];cases CE met (l.Own++l.Global)[k].aT with
    |none=>rfl
    |some m=>simp only[aTQ,WE,WD];rw[eB];rfl
   ·rfl
  have hst:uT l ((k:Int),met)=pA (k:Int) met (l.Own++l.Global)[k] (decide (k<9/\2<(l.Own++l.Global)[k].aT.length)):=by
   simp only[uT];rw[aL (by grind),aV hk'];simp only[aJ];by_cases h9:k<9
   ·rw[dM];congr 1
    (simp_all;omega)
   grind
  rw[hin] at hst;by_cases h2:k<9/\2<(l.Own++l.Global)[k].aT.length
  ·rw[cD h2] at hst;simp only[bU] at hst;rw[bD hst,aP];rintro⟨q,_⟩;have e:9-k=(9-(k+1))+1:=by omega
   rw[hd,e,List.take_succ_cons] at q;have:=q _ aBE;omega
  ·rw[eU h2] at hst;simp only[bO,bM] at hst;have hcond:aH3 (((l.Own++l.Global).drop k).take (9-k))↔aH3 (((l.Own++l.Global).drop (k+1)).take (9-(k+1))):=by
    unfold aH3;by_cases h9:k<9
    ·have e:9-k=(9-(k+1))+1:=by omega
     simp_all
    ·have e:9-k=0:=by omega
     have e':9-(k+1)=0:=by omega
     simp_all
   rw[hf,aFF];cases hg:CE met (l.Own++l.Global)[k].aT with
   |none=>
    simp_all[bD]
   |some m=>
    rw[hg] at hst;rw[bG hst,ih (k+1) m (by omega) (by grind[aRH])];simp_all
theorem W6{l:aD}(h:(dY l).length<=1073741824):pP l=some (decide (LOk l)):=by
 unfold pP CV;by_cases hg:l.Global.length=3
 ·by_cases ho:l.Own.length=9
  ·have n1:((l.Global.length:Int) != 3)=false:=by simp;omega
   have n2:((l.Own.length:Int) != 9)=false:=by simp;omega
   simp only[n1,n2,bO,bM];rw[R1];have hsl:∀s∈l.Own++l.Global,s.aT.length<=maxLen:=by grind[dY,maxLen,aBF,aNT]
   have key:=bK3 ho (by simp;omega) hsl (l.Own++l.Global).length 0 (List.replicate 24 false) (by omega) rfl;rw[show((0:Nat):Int)=0 from rfl,PO,Nat.sub_zero] at key;rw[key];have et:(l.Own++l.Global).take 9=l.Own:=by grind
   have ef:fI (l.Own++l.Global)=fI l.Own++fI l.Global:=by simp[fI]
   have hm0:∀j:Nat,j<24->(List.replicate 24 false).getD j true=false:=by decide
   have hiff:LOk l↔aH3 ((l.Own++l.Global).take 9)/\(CE (List.replicate 24 false) (fI (l.Own++l.Global))).isSome=true:=by
    rw[aDA _ _ rfl,et,ef];have hp:(fI l.Own++fI l.Global).Perm (dY l):=List.perm_append_comm;constructor
    ·rintro⟨_,_,q1,q2,q3⟩;exact⟨q1,λx hx=>q2 x (hp.mem_iff.1 hx),hp.nodup_iff.2 q3,λx hx=>hm0 _ (by grind)⟩
    ·rintro⟨q1,q2,q3,_⟩;exact⟨hg,ho,q1,λx hx=>q2 x (hp.mem_iff.2 hx),hp.nodup_iff.1 q3⟩
   by_cases q:LOk l
   ·rw[aL (hiff.1 q),cD q];rfl
   ·rw[aP (λx=>q (hiff.2 x)),eU q];rfl
  ·have n1:((l.Global.length:Int) != 3)=false:=by simp;omega
   have n2:((l.Own.length:Int) != 9)=true:=by simp;omega
   simp_all[LOk]
 ·have n1:((l.Global.length:Int) != 3)=true:=by simp;omega
  simp_all[LOk]
def HN(h:Heap)(l:List Int)(c:Int):Prop:=∀x∈l,bJ h x=c/\j7 h x<=6
instance (h:Heap) (l:List Int) (c:Int):Decidable (HN h l c):=by unfold HN;infer_instance
theorem TS{h:Heap}(hs:fO h){l:List Int}(hl:l.length<=maxLen){c:Int}(hc:0<=c):BT h l c=some (decide (HN h l c)):=by
 unfold BT;have key:loop (nR h l c) 0=some (if ∀x∈l,bJ h x=c/\j7 h x<=6 then Out.brk () else Out.ret false):=by
  have hst:∀k (hk:k<l.length),nR h l c (k:Int)=if bJ h l[k]=c/\j7 h l[k]<=6 then some (.next ((k+1:Nat):Int)) else some (.stop (Out.ret false)):=by
   intro k hk;simp only[nR];rw[dM,aV hk];generalize l[k]=x;simp only[aJ,vR hs,zY];by_cases q:bJ h x=c
   ·have n1:(bJ h x != c)=false:=by simp only[bne_eq_false_iff_eq];exact q
    simp only[n1,bO,bM,qT hs (show 0<=bJ h x by omega),aJ,m9 (N4 hk hl)];by_cases q2:j7 h x<=6
    ·rw[Y4,aL ⟨q,q2⟩]
    ·rw[dM,aP (λx=>q2 x.2)]
   ·have n1:(bJ h x != c)=true:=by simp only[bne_iff_ne];exact q
    simp only[n1,bU];rw[aP (λx=>q x.1)]
  refine mM (f:=nR h l c) l (λk=>(k:Int)) (λx=>bJ h x=c/\j7 h x<=6) _ _ (λk hk hp=>?_) (λk hk hp=>?_) ?_
  ·rw[hst k hk,aL hp]
  ·rw[hst k hk,aP hp]
  ·simp[nR]
 rw[key];by_cases q:∀x∈l,bJ h x=c/\j7 h x<=6
 ·rw[aL q,cD (show HN h l c from q)];rfl
 ·rw[aP q,eU (show ¬HN h l c from q)];rfl
theorem TU{h:Heap}(hs:fO h){s:bE}(hl:s.aT.length<=maxLen){c:Int}(hc:0<=c):BN h s c=some (decide (HN h s.aT c)):=by
 unfold BN;have key:loop (nP h s c) 0=some (if ∀x∈s.aT,bJ h x=c/\j7 h x<=6 then Out.brk () else Out.ret false):=by
  have hst:∀k (hk:k<s.aT.length),nP h s c (k:Int)=if bJ h s.aT[k]=c/\j7 h s.aT[k]<=6 then some (.next ((k+1:Nat):Int)) else some (.stop (Out.ret false)):=by
   intro k hk;simp only[nP];rw[dM,aV hk];generalize s.aT[k]=x;simp only[aJ,kS hs,zT];by_cases q:bJ h x=c
   ·have n1:(bJ h x != c)=false:=by simp only[bne_eq_false_iff_eq];exact q
    simp only[n1,bO,bM,KD hs (show 0<=bJ h x by omega),aJ,m9 (N4 hk hl)];by_cases q2:j7 h x<=6
    ·rw[Y4,aL ⟨q,q2⟩]
    ·rw[dM,aP (λx=>q2 x.2)]
   ·have n1:(bJ h x != c)=true:=by simp only[bne_iff_ne];exact q
    simp only[n1,bU];rw[aP (λx=>q x.1)]
  refine mM (f:=nP h s c) s.aT (λk=>(k:Int)) (λx=>bJ h x=c/\j7 h x<=6) _ _ (λk hk hp=>?_) (λk hk hp=>?_) ?_
  ·rw[hst k hk,aL hp]
  ·rw[hst k hk,aP hp]
  ·simp[nP]
 rw[key];by_cases q:∀x∈s.aT,bJ h x=c/\j7 h x<=6
 ·rw[aL q,cD (show HN h s.aT c from q)];rfl
 ·rw[aP q,eU (show ¬HN h s.aT c from q)];rfl
def eT(l:List bE)(k:Nat):List Int:=(l.getD k ⟨[]⟩).aT
theorem dK{l:List bE}{k:Nat}(h:k<l.length):l[k].aT=eT l k:=by grind[eT]
def R4(m:Mem)(k:Nat):Prop:=HN m.Heap (eT m.aD.Global k) (k:Int)
def IA(m:Mem)(k:Nat):Prop:=HN m.Heap (eT m.aD.Own k) ((k % 3:Nat):Int)
instance (m:Mem) (k:Nat):Decidable (R4 m k):=by unfold R4;infer_instance
instance (m:Mem) (k:Nat):Decidable (IA m k):=by unfold IA;infer_instance
instance (m:Mem):Decidable (∀k,k<3->R4 m k):=Nat.decidableBallLT 3 λk _=>R4 m k
instance (m:Mem):Decidable (∀k,k<9->IA m k):=Nat.decidableBallLT 9 λk _=>IA m k
instance (m:Mem) (c:Nat):Decidable (∀w,w<3->IA m (w*3+c)):=Nat.decidableBallLT 3 λw _=>IA m (w*3+c)
instance (m:Mem):Decidable (∀k,k<3->R4 m k/\∀w,w<3->IA m (w*3+k)):=Nat.decidableBallLT 3 λk _=>R4 m k/\∀w,w<3->IA m (w*3+k)
def lC(m:Mem):Prop:=(XN m.Heap/\LOk m.aD)/\(∀k,k<3->R4 m k)/\∀k,k<9->IA m k
instance (m:Mem):Decidable (lC m):=by unfold lC;infer_instance
theorem LOk.aRI{l:aD}(h:LOk l)(hb:(dY l).length<=1073741824):(∀s∈l.Global,s.aT.length<=1073741824)/\∀s∈l.Own,s.aT.length<=1073741824:=by grind[dY,aBF,aNT]
theorem a2C{m:Mem}:(∀k,k<3->R4 m k/\∀w,w<3->IA m (w*3+k))↔(∀k,k<3->R4 m k)/\∀k,k<9->IA m k:=by
 constructor
 ·intro h;refine⟨λk hk=>(h k hk).1,λk hk=>?_⟩;have:=(h (k % 3) (by omega)).2 (k/3) (by omega);grind
 grind
theorem aQK{m:Mem}(hb:m.Heap.Bytes.length<=maxLen)(hl:(dY m.aD).length<=1073741824):UQ m=some (decide (lC m)):=by
 unfold UQ J7;rw[aNS hb,aJ2 hl];by_cases h1:XN m.Heap
 ·by_cases h2:LOk m.aD
  ·have hmx:(1073741824:Nat)<=maxLen:=by simp[maxLen]
   have hsl:=LOk.aRI h2 hl;simp only[cD h1,cD h2,aJ,i5,bO,bM];have k3:∀c:Nat,c<3->loop (BV m (c:Int)) 0=some (if ∀w,w<3->IA m (w*3+c) then Out.brk () else Out.ret false):=by
    intro c hc;have hst:∀w:Nat,w<3->BV m (c:Int) (w:Int)=if IA m (w*3+c) then some (.next ((w+1:Nat):Int)) else some (.stop (Out.ret false)):=by
     intro w hw;have hk:w*3+c<m.aD.Own.length:=by rw[h2.2.1];omega
     have e:yP (w:Int) (c:Int)=some ((w*3+c:Nat):Int):=by unfold yP BU;rw[dO,dO,cD (by omega),cD (by omega)];simp only[aJ,i5,bO,bM];grind[cC]
     have hlen:=hsl.2 _ (dJ hk);simp only[BV];rw[dM,e];simp only[aJ,aV hk];rw[TS h1.1 (by omega) (by omega),dK hk];have em:(w*3+c) % 3=c:=by omega
     have ho:IA m (w*3+c)↔HN m.Heap (eT m.aD.Own (w*3+c)) (c:Int):=by grind[IA]
     rw[eB];grind
    refine y9 (f:=BV m (c:Int)) 3 (λk=>(k:Int)) (λw=>IA m (w*3+c)) _ _ (λk hk hx=>?_) (λk hk hx=>?_) ?_
    ·grind
    ·grind
    ·rfl
   have k2:loop (BW m) 0=some (if ∀k,k<3->R4 m k/\∀w,w<3->IA m (w*3+k) then Out.brk () else Out.ret false):=by
    have hst:∀c:Nat,c<3->BW m (c:Int)=if R4 m c/\∀w,w<3->IA m (w*3+c) then some (.next ((c+1:Nat):Int)) else some (.stop (Out.ret false)):=by
     intro c hc;have hk:c<m.aD.Global.length:=by rw[h2.1];omega
     have hlen:=hsl.1 _ (dJ hk);simp only[BW];rw[dM];simp only[aJ,aV hk];rw[TS h1.1 (by omega) (by omega),dK hk,k3 c hc];by_cases q:R4 m c
     ·have q':HN m.Heap (eT m.aD.Global c) (c:Int):=q;rw[cD q'];simp only[aJ,i5,bO,bM];by_cases q2:∀w,w<3->IA m (w*3+c)
      ·rw[aL q2,aL ⟨q,q2⟩];simp only[aBP,aBO];grind[cC]
      ·rw[aP q2,aP (λx=>q2 x.2)];rfl
     ·have q':¬HN m.Heap (eT m.aD.Global c) (c:Int):=q;grind
    refine y9 (f:=BW m) 3 (λk=>(k:Int)) (λk=>R4 m k/\∀w,w<3->IA m (w*3+k)) _ _ (λk hk hx=>?_) (λk hk hx=>?_) ?_
    ·grind
    ·grind
    ·rfl
   rw[k2];by_cases q:∀k,k<3->R4 m k/\∀w,w<3->IA m (w*3+k)
   ·rw[aL q,cD (show lC m from⟨⟨h1,h2⟩,a2C.1 q⟩)];rfl
   ·rw[aP q,eU (λx:lC m=>q (a2C.2 x.2))];rfl
  grind[lC]
 grind[lC]
theorem CF{m:Mem}(hb:m.Heap.Bytes.length<=maxLen)(hl:(dY m.aD).length<=1073741824):yC m=some (decide (lC m)):=by
 unfold yC JY;rw[O2 hb,W6 hl];by_cases h1:XN m.Heap
 ·by_cases h2:LOk m.aD
  ·have hmx:(1073741824:Nat)<=maxLen:=by simp[maxLen]
   have hsl:=LOk.aRI h2 hl;simp only[cD h1,cD h2,aJ,i5,bO,bM];have k3:loop (wB m) 0=some (if ∀k,k<9->IA m k then Out.brk () else Out.ret false):=by
    have hst:∀w:Nat,w<9->wB m (w:Int)=if IA m w then some (.next ((w+1:Nat):Int)) else some (.stop (Out.ret false)):=by
     intro w hw;have hk:w<m.aD.Own.length:=by rw[h2.2.1];omega
     have hlen:=hsl.2 _ (dJ hk);have em:Int.tmod (w:Int) 3=((w % 3:Nat):Int):=by grind
     simp only[wB];rw[dM];simp only[aJ,aV hk,em];rw[TU h1.1 (by omega) (by omega),dK hk,eB];by_cases q:IA m w
     ·rw[aL q,cD (show HN m.Heap (eT m.aD.Own w) ((w % 3:Nat):Int) from q)];rfl
     ·rw[aP q,eU (show ¬HN m.Heap (eT m.aD.Own w) ((w % 3:Nat):Int) from q)];rfl
    refine y9 (f:=wB m) 9 (λk=>(k:Int)) (λw=>IA m w) _ _ (λk hk hx=>?_) (λk hk hx=>?_) ?_
    ·grind
    ·grind
    ·simp[wB,h2.2.1]
   have k2:loop (wC m) 0=some (if ∀k,k<3->R4 m k then Out.brk () else Out.ret false):=by
    have hst:∀w:Nat,w<3->wC m (w:Int)=if R4 m w then some (.next ((w+1:Nat):Int)) else some (.stop (Out.ret false)):=by
     intro w hw;have hk:w<m.aD.Global.length:=by rw[h2.1];omega
     have hlen:=hsl.1 _ (dJ hk);simp only[wC];rw[dM];simp only[aJ,aV hk];rw[TU h1.1 (by omega) (by omega),dK hk,eB];by_cases q:R4 m w
     ·rw[aL q,cD (show HN m.Heap (eT m.aD.Global w) (w:Int) from q)];rfl
     ·rw[aP q,eU (show ¬HN m.Heap (eT m.aD.Global w) (w:Int) from q)];rfl
    refine y9 (f:=wC m) 3 (λk=>(k:Int)) (λw=>R4 m w) _ _ (λk hk hx=>?_) (λk hk hx=>?_) ?_
    ·grind
    ·grind
    ·simp[wC,h2.1]
   rw[k2];by_cases q:∀k,k<3->R4 m k
   ·rw[aL q];simp only[aJ,aBL,aBK];rw[k3];by_cases q2:∀k,k<9->IA m k
    ·rw[aL q2,cD (show lC m from⟨⟨h1,h2⟩,q,q2⟩)];rfl
    ·rw[aP q2,eU (λx:lC m=>q2 x.2.2)];rfl
   ·rw[aP q,eU (λx:lC m=>q x.2.1)];rfl
  grind[lC]
 grind[lC]
theorem K9{l:List bE}{s:bE}(h:s∈l):s.aT.length<=(fI l).length:=by grind[aBF,aNT]
theorem vS(l:aD):(dY l).length=(fI l.Global).length+(fI l.Own).length:=by simp[dY]
def D7(m:Mem):Prop:=m.Heap.Bytes.length<=1048576/\m.Heap.Class.length<=1048576/\m.aD.Global.length<=1048576/\m.aD.Own.length<=1048576/\(dY m.aD).length<=1048576
theorem D7.aRI{m:Mem}(h:D7 m):(∀s∈m.aD.Global,s.aT.length<=1048576)/\∀s∈m.aD.Own,s.aT.length<=1048576:=by have:=vS m.aD;have h5:=h.2.2.2.2;exact⟨λs hm=>by have:=K9 hm;omega,λs hm=>by have:=K9 hm;omega⟩
def POk(e:Int)(p:vW):Prop:=(0<=p.aE/\p.aE<=e)/\(0<=p.Seen/\p.Seen<=2)/\(p.On=false->p=⟨false,0,false,0⟩)
instance (e:Int) (p:vW):Decidable (POk e p):=by unfold POk;infer_instance
def JC(c:aC):Prop:=(0<=c.aE/\c.aE<=100000)/\c.cQ.length=3/\∀p∈c.cQ,POk c.aE p
instance (c:aC):Decidable (JC c):=by unfold JC;infer_instance
theorem jJ(c:aC):qE c=some (decide (JC c)):=by
 unfold qE;rw[dO];by_cases h1:0<=c.aE/\c.aE<=100000
 ·by_cases h2:c.cQ.length=3
  ·simp only[aJ,h1,h2,pH];have key:∀k:Nat,k<=3->loop (vH c) (k:Int)=some (if ∀p∈c.cQ.drop k,POk c.aE p then Out.brk () else Out.ret false):=by
    refine aSC 3 _ λk hk=>?_;by_cases h3:k<3
    ·have hd:c.cQ.drop k=c.cQ[k]::c.cQ.drop (k+1):=AG (by omega);simp only[vH];rw[dM,O0];simp only[aJ,dO,mS,hd];rw[m9 (by simp[maxLen];omega)];generalize c.cQ[k]=p;have hp:POk c.aE p↔decide (0<=p.aE/\p.aE<=c.aE)=true/\decide (0<=p.Seen/\p.Seen<=2)=true/\(p.On=false->decide (p=⟨false,0,false,0⟩)=true):=by simp only[POk,decide_eq_true_eq]
     simp only[List.forall_mem_cons,hp];generalize decide (0<=p.aE/\p.aE<=c.aE)=b1;generalize decide (0<=p.Seen/\p.Seen<=2)=b2;generalize decide (p=⟨false,0,false,0⟩)=b3;generalize p.On=b4;cases b1<;>cases b2<;>cases b3<;>cases b4<;>simp[h3]
    ·left;obtain rfl:k=3:=by omega
     simp[vH,aK7 (show c.cQ.length<=3 by omega)]
   have:=key 0 (by omega);simp only[Int.ofNat_zero,PO] at this;have e:decide (JC c)=if ∀p∈c.cQ,POk c.aE p then true else false:=by have:JC c↔∀p∈c.cQ,POk c.aE p:=⟨λh=>h.2.2,λh=>⟨h1,h2,h⟩⟩;simp[this]
   rw[e];simp only[Int.cast_ofNat_Int] at *;have t0:loop (vH c) 0=_:=this;by_cases h5:∀p∈c.cQ,POk c.aE p
   ·rw[aL h5] at t0 ⊢;rw[t0];simp[LW,WR]
   ·rw[aP h5] at t0 ⊢;rw[t0];simp[LW]
  grind[pH,JC]
 grind[pH,JC]
theorem aWD(p:vW)(c:aC):xY p c=some (!decide (POk c.aE p)):=by
 unfold xY mF;rw[dI,dI];have hp:decide (POk c.aE p)=(decide (0<=p.aE/\p.aE<=c.aE) && (decide (0<=p.Seen/\p.Seen<=2) && (p.On || decide (p=⟨false,0,false,0⟩)))):=by rw[KF];simp only[POk,decide_eq_true_eq,DM,Bool.or_eq_true];grind
 grind
theorem aTR{l:List vW}(hl:l.length<=maxLen)(f:vW->Bool):mE l (λx=>some (f x))=some (l.any f):=by
 unfold mE xX;have key:∀k:Nat,k<=l.length->loop (jX l (λx=>some (f x))) (k:Int)=some (if(l.drop k).any f then Out.ret ((k+(l.drop k).findIdx f:Nat):Int) else Out.brk ()):=by
  refine aSC l.length _ λk hk=>?_;by_cases h3:k<l.length
  ·have hd:l.drop k=l[k]::l.drop (k+1):=AG h3;simp only[jX];rw[dM,aV h3,m9 (N4 h3 hl),hd];grind
  grind[jX]
 have t0:loop (jX l (λx=>some (f x))) 0=_:=key 0 (by omega);rw[t0];simp only[PO];by_cases h:l.any f=true
 ·simp[h,rT]
 grind[rT,EL]
theorem vT{c:aC}(hc:c.cQ.length<=maxLen):pT c=some (decide (JC c)):=by
 unfold pT uX;rw[dI];have e:(λy0=>xY y0 c)=λy0=>some (!decide (POk c.aE y0)):=funext λy=>aWD y c;rw[e,aTR hc];by_cases h1:0<=c.aE/\c.aE<=100000
 ·by_cases h2:c.cQ.length=3
  ·have:JC c↔∀p∈c.cQ,POk c.aE p:=⟨λh=>h.2.2,λh=>⟨h1,h2,h⟩⟩;grind
  grind[JC]
 grind[JC]
def bX(l:List bN):List dR:=l.flatMap bN.Rows
theorem O4{l:List bN}{k:Nat}(h:k<l.length):bX (l.take (k+1))=bX (l.take k)++l[k].Rows:=by grind[bX,MF]
theorem aNU(l:List bN)(k:Nat):(bX (l.take k)).length<=(bX l).length:=by grind[bX,aBH]
theorem a4L(l:List bN){k:Nat}(h:k<l.length):l[k].Rows.length<=(bX l).length:=by have h1:=aNU l (k+1);grind[O4]
theorem aAH{l:List bN}{s:bN}(h:s∈l):s.Rows.length<=(bX l).length:=by grind[aBF,a4L]
theorem HO{l:List bN}(h:(bX l).length<=1073741824)(hl:l.length<=maxLen):yL l=some (bX l):=by
 unfold yL;have k1:loop (yK l) ([],0)=some (bX l):=by
  refine jG (f:=yK l) l.length (λk=>(bX (l.take k),(k:Int))) _ (λk hk=>?_) ?_
  ·have h1:=aNU l (k+1);rw[O4 hk] at h1;simp only[yK];rw[dM,aV hk];grind[bY,O4,m9]
  grind[yK]
 rw[k1];rfl
def kU(h:Int):Prop:=(32<=h/\h<=223)/\h % 32<24
instance (h:Int):Decidable (kU h):=by unfold kU;infer_instance
theorem nT(h:Int):nI h=some (decide (kU h)):=by grind[nI,zW,kU,dO,OZ]
theorem g8(h:Int):iN h=some (decide (kU h)):=by grind[iN,zL,kU,dI,OZ]
theorem kU.mod{h:Int}(q:kU h):Int.tmod h 32=h % 32/\0<=h % 32/\h % 32<=23:=by grind[kU]
theorem iJ(h:Int):jE h=some (if kU h then h % 32 else -1):=by grind[jE,nT,kU]
def CG(r:dR):Prop:=kU r.Handle/\0<=r.aE/\r.aE<=100000
instance (r:dR):Decidable (CG r):=by unfold CG;infer_instance
def oD(r:dR):Int:=r.Handle % 32
def qV(l:List bN):Prop:=l.length=3/\(bX l).length<=24/\(∀r∈bX l,CG r)/\((bX l).map oD).Nodup
instance (l:List bN):Decidable (qV l):=by unfold qV;infer_instance
def rowAt(l:List dR)(k:Nat):dR:=l.getD k ⟨0,0⟩
theorem aAI{l:List dR}{k:Nat}(h:k<l.length):rowAt l k=l[k]:=by grind[rowAt]
theorem aJ3{l:List bN}(h:(bX l).length<=1073741824)(hl:l.length<=maxLen):NN l=some (decide (qV l)):=by
 unfold NN DD;rw[HO h hl];simp only[aJ];by_cases h3:l.length=3
 ·have n1:((l.length:Int) != 3)=false:=by simp;omega
  simp only[n1,bO,bM];by_cases h24:(bX l).length<=24
  ·rw[Y4];have hst:∀k,k<(bX l).length->vJ (bX l) (((bX l).take k).map oD,(k:Int))=if CG (rowAt (bX l) k)/\oD (rowAt (bX l) k)∉((bX l).take k).map oD then some (.next (((bX l).take (k+1)).map oD,((k+1:Nat):Int))) else some (.stop (Out.ret false)):=by
    intro k hk;simp only[vJ,vI];rw[dM,aV hk,aAI hk];simp only[aJ,iJ,dO];by_cases q:kU (bX l)[k].Handle
    ·have hm:=q.mod;rw[aL q,Y4];by_cases q2:0<=(bX l)[k].aE/\(bX l)[k].aE<=100000
     ·rw[cD q2];simp only[i5,bO,bM];rw[R3 (by grind[maxLen])];simp only[aJ];by_cases q3:(bX l)[k].Handle % 32∈((bX l).take k).map oD
      ·simp_all[oD]
      ·rw[eU q3];simp only[bO,bM];rw[aL (show CG (bX l)[k]/\oD (bX l)[k]∉((bX l).take k).map oD from⟨⟨q,q2⟩,q3⟩),R0,eB,map_take _ hk];rfl
     ·rw[eU q2];simp only[NZ,bU];rw[aP (λx:CG _/\_=>q2 x.1.2)]
    simp_all[CG]
   have key:=y9 (f:=vJ (bX l)) (bX l).length (λk=>(((bX l).take k).map oD,(k:Int))) (λk=>CG (rowAt (bX l) k)/\oD (rowAt (bX l) k)∉((bX l).take k).map oD) (Out.brk ()) (Out.ret false) (λk hk hx=>by grind) (λk hk hx=>by grind) (by simp[vJ]);rw[List.take_zero,List.map_nil,show((0:Nat):Int)=0 from rfl] at key;rw[key];have hiff:qV l↔∀k,k<(bX l).length->CG (rowAt (bX l) k)/\oD (rowAt (bX l) k)∉((bX l).take k).map oD:=by
    constructor
    ·rintro⟨_,_,q1,q2⟩ k hk;grind[aAI,O3,List.map_take]
    ·intro q;refine⟨h3,h24,λx hx=>?_,(O3 _).2 λk hk=>?_⟩
     ·obtain⟨k,hk,rfl⟩:=aBF.1 hx;grind[aAI]
     grind[aAI,List.map_take]
   by_cases q:qV l
   ·rw[aL (hiff.1 q),cD q];rfl
   ·rw[aP (λx=>q (hiff.2 x)),eU q];rfl
  ·rw[dM,eU (λq:qV l=>h24 q.2.1)]
 ·have n1:((l.length:Int) != 3)=true:=by simp;omega
  simp_all[qV]
def goR:List Bool->List dR->Option (List Bool)
 |met,[]=>some met
 |met,r::t=>if CG r/\met.getD (oD r).toNat true=false then goR (met.set (oD r).toNat true) t else none
theorem a2D:∀{xs:List dR} {met m:List Bool},goR met xs=some m->m.length=met.length
 |[],met,m,h=>by grind[goR]
 |x::r,met,m,h=>by
  simp only[goR] at h;split at h
  ·have:=a2D h;grind
  ·cases h
theorem aNV:∀(a b:List dR) (met:List Bool),goR met (a++b)=(goR met a).bind λm=>goR m b
 |[],b,met=>rfl
 |x::r,b,met=>by
  simp only[KG,goR];split
  ·exact aNV r b _
  ·rfl
theorem aWE:∀(xs:List dR) (met:List Bool),(goR met xs).isSome=true↔(∀r∈xs,CG r)/\(CE met (xs.map oD)).isSome=true
 |[],met=>by simp[goR,CE]
 |x::r,met=>by
  simp only[goR,KH,CE];by_cases h:CG x
  ·have hm:=h.1.mod;have hs:0<=oD x/\oD x<=23:=hm.2;by_cases h2:met.getD (oD x).toNat true=false
   ·rw[aL ⟨h,h2⟩,aL ⟨hs,h2⟩,aWE r _];simp[h]
   grind
  grind
theorem a4M{s:bN}(hl:s.Rows.length<=maxLen):∀d k (met:List Bool),k+d=s.Rows.length->met.length=24->loop (uV s) ((k:Int),met)=some (aTQ (goR met (s.Rows.drop k))):=by
 intro d;induction d with
 |zero=>
  intro k met hk hm;rw[bD (r:=Out.brk met) (by grind[uV]),aK7 (by omega)];rfl
 |succ d ih=>
  intro k met hk hm;have hk':k<s.Rows.length:=by omega
  have hd:s.Rows.drop k=s.Rows[k]::s.Rows.drop (k+1):=AG hk';have hst:uV s ((k:Int),met)=if CG s.Rows[k]/\met.getD (oD s.Rows[k]).toNat true=false then some (.next (((k+1:Nat):Int),met.set (oD s.Rows[k]).toNat true)) else some (.stop (Out.ret false)):=by
   simp only[uV];rw[dM,aV hk'];simp only[aJ,g8,dI];generalize s.Rows[k]=x;by_cases q:kU x.Handle
   ·by_cases q2:0<=x.aE/\x.aE<=100000
    ·have hm2:=q.mod;obtain⟨j,hj0⟩:=bBW hm2.2.1;have hj:j<met.length:=by omega
     have e:met.getD j true=met[j]:=by grind
     have hr:CG x:=⟨q,q2⟩;simp only[q,q2,and_self,decide_true,i5,bO,bM,mR,hm2.1,hj0,MR,hr,true_and,oD,e];rw[R1,aV hj];simp only[aJ];cases met[j]
     ·simp only[bO,bM,bU];grind[bY,m9]
     ·simp
    ·rw[cD q,eU q2];simp only[i5,NZ,bO,bM,bU,mR];rw[aP (λy:CG x/\_=>q2 y.1.2)]
   simp_all[mR,CG]
  rw[hd,goR];by_cases q:CG s.Rows[k]/\met.getD (oD s.Rows[k]).toNat true=false
  ·rw[aL q] at hst ⊢;grind[bG]
  ·rw[aP q] at hst ⊢;rw[bD hst];rfl
theorem a4N{l:List bN}(hn:l.length<=1000)(hs:∀s∈l,s.Rows.length<=maxLen):∀d k (met:List Bool),k+d=l.length->met.length=24 ->
  loop (uW l) ((k:Int),met)=some (if(goR met (bX (l.drop k))).isSome=true then Out.brk () else Out.ret false):=by
 intro d;induction d with
 |zero=>
  simp_all[goR,bX,bD,uW]
 |succ d ih=>
  intro k met hk hm;have hk':k<l.length:=by omega
  have hd:l.drop k=l[k]::l.drop (k+1):=AG hk';have hsk:=hs _ (dJ hk');have hf:bX (l.drop k)=l[k].Rows++bX (l.drop (k+1)):=by grind[bX]
  have h4:=a4M hsk _ 0 met (aDW _) hm;rw[show((0:Nat):Int)=0 from rfl,PO] at h4;have hst:uW l ((k:Int),met)=(match goR met l[k].Rows with|some m=>some (.next (((k+1:Nat):Int),m))|none=>some (.stop (Out.ret false))):=by
   simp only[uW];rw[dM,aV hk'];simp only[aJ];rw[h4];cases goR met l[k].Rows with
   |none=>rfl
   |some m=>simp only[aJ,aTQ,WI,WH];grind[cC]
  rw[hf,aNV];cases hg:goR met l[k].Rows with
  |none=>
   simp_all[bD]
  |some m=>
   rw[hg] at hst;rw[bG hst,ih (k+1) m (by omega) (by grind[a2D])];simp
theorem aFG{l:List bN}(hn:l.length<=1000)(h:(bX l).length<=1073741824):F6 l=some ((bX l).length:Int):=by
 unfold F6;have key:loop (pS l) (0,0)=some ((bX l).length:Int):=by
  refine jG (f:=pS l) l.length (λk=>(((bX (l.take k)).length:Int),(k:Int))) _ (λk hk=>?_) ?_
  ·have h1:=aNU l (k+1);rw[O4 hk,BA] at h1;simp only[pS];rw[dM,aV hk];grind[cC,O4]
  grind[pS]
 rw[key];rfl
theorem DK{l:List bN}(h:(bX l).length<=1073741824):tN l=some (decide (qV l)):=by
 unfold tN;by_cases h3:l.length=3
 ·have n1:((l.length:Int) != 3)=false:=by simp;omega
  have hb:(1073741824:Nat)<=maxLen:=by simp[maxLen]
  simp only[n1,bO,bM];have key:=a4N (l:=l) (by omega) (λs hs=>by have:=aAH hs;omega) l.length 0 (List.replicate 24 false) (by omega) rfl;rw[show((0:Nat):Int)=0 from rfl,PO] at key;rw[key];have hm0:∀j:Nat,j<24->(List.replicate 24 false).getD j true=false:=by decide
  have hiff:qV l↔(bX l).length<=24/\(goR (List.replicate 24 false) (bX l)).isSome=true:=by
   rw[aWE,aDA _ _ rfl];have hr:(∀r∈bX l,CG r)->∀x∈(bX l).map oD,0<=x/\x<=23:=by intro q x hx;obtain⟨r,hr,rfl⟩:=N0.1 hx;exact(q r hr).1.mod.2
   constructor
   ·rintro⟨_,q1,q2,q3⟩;grind
   ·rintro⟨q1,q2,_,q3,_⟩;exact⟨h3,q1,q2,q3⟩
  by_cases q:(goR (List.replicate 24 false) (bX l)).isSome=true
  ·rw[aL q];simp only[aJ,WJ,WG];rw[aFG (by omega) h];grind
  ·rw[aP q,eU (λx=>q (hiff.1 x).2)];rfl
 ·have n1:((l.length:Int) != 3)=true:=by simp;omega
  simp_all[qV]
def kV(h:Int):Prop:=h=0\/kU h
instance (h:Int):Decidable (kV h):=by unfold kV;infer_instance
def aA6(z:List Int):Prop:=z.length=3/\∀h∈z,kV h
instance (z:List Int):Decidable (aA6 z):=by unfold aA6;infer_instance
theorem aQL{z:List Int}(hl:z.length<=maxLen):UR z=some (decide (aA6 z)):=by
 unfold UR;have hst:∀k (hk:k<z.length),BX z (k:Int)=if kV z[k] then some (.next ((k+1:Nat):Int)) else some (.stop (Out.ret false)):=by
  intro k hk;simp only[BX,J8];rw[dM,aV hk,m9 (N4 hk hl)];simp only[aJ,nT];generalize z[k]=x;by_cases q:x=0
  ·have n:(x != 0)=false:=by simp only[bne_eq_false_iff_eq];exact q
   rw[n,aL (show kV x from .inl q)];rfl
  ·have n:(x != 0)=true:=by simp only[bne_iff_ne];exact q
   by_cases q2:kU x
   ·rw[n,cD q2,aL (show kV x from .inr q2)];rfl
   ·rw[n,eU q2,aP (λa:kV x=>a.elim q q2)];rfl
 have key:=mM (f:=BX z) z (λk=>(k:Int)) kV (Out.brk ()) (Out.ret false) (λk hk hx=>by grind) (λk hk hx=>by grind) (by simp[BX]);rw[show((0:Nat):Int)=0 from rfl] at key;rw[key];by_cases q:∀x∈z,kV x
 ·rw[aL q];have:aA6 z↔z.length=3:=⟨λa=>a.1,λa=>⟨a,q⟩⟩;simp only[aJ,aBR,aBQ,this];congr 1;grind
 ·rw[aP q,eU (λa:aA6 z=>q a.2)];rfl
theorem aQM{z:List Int}(hl:z.length<=maxLen):UP z=some (decide (aA6 z)):=by
 unfold UP J1;have e:(λy0=>NI y0)=λy:Int=>some (!decide (kV y)):=by
  funext y;unfold NI nH yD;rw[g8];by_cases q:y=0
  ·simp_all[kV]
  grind[kV]
 rw[e,HM hl,aAE];by_cases h3:z.length=3
 ·have n:((z.length:Int) == 3)=true:=by simp;omega
  have:aA6 z↔∀h∈z,kV h:=⟨λa=>a.2,λa=>⟨h3,a⟩⟩;grind
 ·have n:((z.length:Int) == 3)=false:=by simp;omega
  simp_all[aA6]
theorem aFH{O:Type}(l:List O)(f:O->Bool){body:Int->Option (Step Int (Out Unit Int))}(hb:∀k (hk:k<l.length),body (k:Int)=if f l[k] then some (.stop (.ret (k:Int))) else some (.next ((k+1:Nat):Int)))(he:body (l.length:Int)=some (.stop (.brk ()))) :
  ∃o,loop body 0=some o/\match o with|.brk _=>l.any f=false|.ret r=>0<=r/\l.any f=true:=by
 have key:=a4J (f:=body) l.length (λk=>(k:Int)) (λk=>if(l.drop k).any f then Out.ret ((k+(l.drop k).findIdx f:Nat):Int) else Out.brk ()) (λk hk=>by
  by_cases h:k<l.length
  ·have hd:l.drop k=l[k]::l.drop (k+1):=AG h;grind
  grind) 0 (iY _)
 grind
theorem aB4{l:List dR}(hl:l.length<=maxLen)(f:dR->Bool):i7 l (λx=>some (f x))=some (l.any f):=by
 obtain⟨o,e,h⟩:=aFH l f (body:=lO l (λx=>some (f x))) (λk hk=>by
  simp only[lO];rw[dM,aV hk,m9 (N4 hk hl)];rfl) (by simp[lO])
 grind[i7,wL,BJ,BI]
theorem ZD{l:List bN}(hl:l.length<=maxLen)(f:bN->Bool)(g:bN->Option Bool)(hg:∀x∈l,g x=some (f x)):iU l g=some (l.any f):=by
 obtain⟨o,e,h⟩:=aFH l f (body:=kZ l g) (λk hk=>by
  simp only[kZ];rw[dM,aV hk,m9 (N4 hk hl)];grind) (by simp[kZ])
 grind[iU,tM,AM,AL]
theorem ZE{l:List bE}(hl:l.length<=maxLen)(f:bE->Bool)(g:bE->Option Bool)(hg:∀x∈l,g x=some (f x)):iT l g=some (l.any f):=by
 obtain⟨o,e,h⟩:=aFH l f (body:=kY l g) (λk hk=>by
  simp only[kY];rw[dM,aV hk,m9 (N4 hk hl)];grind) (by simp[kY])
 grind[iT,tL,AK,AJ]
theorem contains_eq{l:List Int}(hl:l.length<=maxLen)(v:Int):iW l v=some (decide (v∈l)):=by
 obtain⟨o,e,h⟩:=aFH l (λx=>v == x) (body:=fF l v) (λk hk=>by
  simp only[fF];rw[dM,aV hk,m9 (N4 hk hl)];rfl) (by simp[fF])
 have ha:l.any (λx=>v == x)=decide (v∈l):=by grind
 grind[iW,nN,AQ,MH]
theorem aAJ{l:List bE}{x:Int}:x∈fI l↔∃s∈l,x∈s.aT:=aHS
section
variable {m:Mem} (hsh:fO m.Heap) (hl:(dY m.aD).length<=1073741824) (hg:m.aD.Global.length<=maxLen) (ho:m.aD.Own.length<=maxLen)
include hl hg ho
theorem aNW(s:Int):QG m.aD s=some (decide (s∈dY m.aD)):=by grind[maxLen,QG,aB3,R3]
theorem ZF(s:Int):KP m.aD s=some (decide (s∈dY m.aD)):=by
 have hb:(1073741824:Nat)<=maxLen:=by simp[maxLen]
 have hal:=vS m.aD;have e1:∀x∈m.aD.Global,qN x s=some (decide (s∈x.aT)):=λx hx=>by have:=K9 hx;grind[qN,contains_eq]
 have e2:∀x∈m.aD.Own,qN x s=some (decide (s∈x.aT)):=λx hx=>by have:=K9 hx;grind[qN,contains_eq]
 unfold KP FX;rw[ZE hg (λx=>decide (s∈x.aT)) _ e1,ZE ho (λx=>decide (s∈x.aT)) _ e2];have a1:(m.aD.Global.any λx=>decide (s∈x.aT))=decide (s∈fI m.aD.Global):=by rw[KF];simp[aAJ]
 have a2:(m.aD.Own.any λx=>decide (s∈x.aT))=decide (s∈fI m.aD.Own):=by rw[KF];simp[aAJ]
 grind[dY]
def dW(m:Mem)(s:Int):Int:=if bJ m.Heap s<0 then 0 else if s∈dY m.aD then 1 else if 6<j7 m.Heap s then 2 else 3
include hsh
theorem W7(s:Int):GW m s=some (dW m s):=by grind[GW,dW,vR,aNW,qT]
theorem aJ4(s:Int):M7 m s=some (dW m s):=by grind[M7,dW,kS,ZF,KD]
def mN(m:Mem)(h:Int):Prop:=kU h/\dW m (h % 32)=3/\j7 m.Heap (h % 32)=h/32
instance (m:Mem) (h:Int):Decidable (mN m h):=by unfold mN;infer_instance
omit hl hg ho hsh in
theorem dL{m:Mem}{s:Int}(h:dW m s=3):0<=bJ m.Heap s:=by grind[dW]
theorem L7(h:Int):GY m h=some (decide (mN m h)):=by
 unfold GY vF;rw[nT,iJ];by_cases q:kU h
 ·have hm:=q.mod;rw[cD q,aL q];simp only[aJ,bU,W7 hsh hl hg ho];by_cases q2:dW m (h % 32)=3
  ·have n:(dW m (h % 32) == 3)=true:=by grind
   have eg:GX h=some (h/32):=by grind[GX,kU,nT,cC]
   rw[n,qT hsh (dL q2),eg];simp only[bU,aJ];congr 1;rw[KF];simp only[beq_iff_eq,decide_eq_true_eq];exact⟨λa=>⟨q,q2,a⟩,λa=>a.2.2⟩
  grind[mN]
 grind[mN]
theorem HP(h:Int):xW m h=some (decide (mN m h)):=by
 unfold xW xV;rw[g8];by_cases q:kU h
 ·have hm:=q.mod;rw[cD q,hm.1];simp only[aJ,bU,aJ4 hsh hl hg ho];by_cases q2:dW m (h % 32)=3
  ·have n:(dW m (h % 32) == 3)=true:=by grind
   have eg:bA (Int.tdiv h 32)=h/32:=by grind[kU,cC]
   rw[n,KD hsh (dL q2),eg];simp only[bU,aJ];congr 1;rw[KF];simp only[beq_iff_eq,decide_eq_true_eq];exact⟨λa=>⟨q,q2,a⟩,λa=>a.2.2⟩
  grind[mN]
 grind[mN]
end
def HQ(b:aA)(r:dR):Prop:=mN b.Mem r.Handle/\r.aE<=b.aC.aE
instance (b:aA) (r:dR):Decidable (HQ b r):=by unfold HQ;infer_instance
def kW(b:aA):Prop:=(lC b.Mem/\JC b.aC/\qV b.aM/\aA6 b.oR)/\∀r∈bX b.aM,HQ b r
instance (b:aA):Decidable (kW b):=by unfold kW;infer_instance
def VG(b:aA):Prop:=D7 b.Mem/\b.aC.cQ.length<=1048576/\b.aM.length<=1048576/\(bX b.aM).length<=1048576/\b.oR.length<=1048576
theorem VG.rows{b:aA}(h:VG b):∀s∈b.aM,s.Rows.length<=1048576:=λs hs=>by have:=aAH hs;have:=h.2.2.2.1;omega
section
variable {b:aA} (hf:b.Mem.Heap.Bytes.length<=maxLen/\(dY b.Mem.aD).length<=1073741824/\b.aC.cQ.length<=maxLen/\b.aM.length<=maxLen/\(bX b.aM).length<=1073741824/\b.oR.length<=maxLen)
include hf
theorem aNX:QJ b=some (decide (kW b)):=by
 obtain⟨f1,f2,f3,f4,f5,f6⟩:=hf;unfold QJ sI;rw[aQK f1 f2,jJ,aJ3 f5 f4,aQL f6];by_cases q1:lC b.Mem
 ·by_cases q2:JC b.aC
  ·by_cases q3:qV b.aM
   ·by_cases q4:aA6 b.oR
    ·have hg:b.Mem.aD.Global.length<=maxLen:=by rw[q1.1.2.1];simp[maxLen]
     have ho:b.Mem.aD.Own.length<=maxLen:=by rw[q1.1.2.2.1];simp[maxLen]
     have hmx:(1073741824:Nat)<=maxLen:=by simp[maxLen]
     simp only[cD q1,cD q2,cD q3,cD q4,aJ,i5,bO,bM];rw[HO f5 f4];simp only[aJ];have hst:∀k (hk:k<(bX b.aM).length),yQ b (bX b.aM) (k:Int)=if HQ b (bX b.aM)[k] then some (.next ((k+1:Nat):Int)) else some (.stop (Out.ret false)):=by
      intro k hk;simp only[yQ,GZ];rw[dM,aV hk,m9 (show k<maxLen by omega)];generalize (bX b.aM)[k]=r;simp only[aJ,L7 q1.1.1.1 f2 hg ho];by_cases a1:mN b.Mem r.Handle
      ·rw[cD a1];simp only[i5,bO,bM];by_cases a2:r.aE<=b.aC.aE
       ·rw[Y4,aL ⟨a1,a2⟩]
       ·rw[dM,aP (λx=>a2 x.2)]
      ·rw[eU a1];simp only[NZ,bU];rw[aP (λx=>a1 x.1)]
     have key:=mM (f:=yQ b (bX b.aM)) (bX b.aM) (λk=>(k:Int)) (HQ b) (Out.brk ()) (Out.ret false) (λk hk hx=>by grind) (λk hk hx=>by grind) (by simp[yQ]);rw[show((0:Nat):Int)=0 from rfl] at key;rw[key];by_cases q:∀r∈bX b.aM,HQ b r
     ·rw[aL q,cD (show kW b from⟨⟨q1,q2,q3,q4⟩,q⟩)];rfl
     ·rw[aP q,eU (λx:kW b=>q x.2)];rfl
    grind[kW]
   grind[kW]
  grind[kW]
 grind[kW]
theorem aNY:QF b=some (decide (kW b)):=by
 obtain⟨f1,f2,f3,f4,f5,f6⟩:=hf;unfold QF sA;rw[CF f1 f2,vT f3,DK f5,aQM f6];by_cases q1:lC b.Mem
 ·by_cases q2:JC b.aC
  ·by_cases q3:qV b.aM
   ·by_cases q4:aA6 b.oR
    ·have hg:b.Mem.aD.Global.length<=maxLen:=by rw[q1.1.2.1];simp[maxLen]
     have ho:b.Mem.aD.Own.length<=maxLen:=by rw[q1.1.2.2.1];simp[maxLen]
     have hmx:(1073741824:Nat)<=maxLen:=by simp[maxLen]
     simp only[cD q1,cD q2,cD q3,cD q4,aJ,i5,bO,bM];have e1:(λy0=>DA y0 b)=λr:dR=>some (!decide (HQ b r)):=by funext r;unfold DA tV;rw[HP q1.1.1.1 f2 hg ho];grind[HQ]
     have e2:∀l∈b.aM,(λy0=>J2 y0 b) l=some (!decide (∀r∈l.Rows,HQ b r)):=λl hl=>by have:=aAH hl;simp only[J2];rw[e1,aB4 (by omega),aAE];rfl
     rw[ZD f4 _ _ e2,aAE];have hiff:kW b↔∀l∈b.aM,∀r∈l.Rows,HQ b r:=by
      constructor
      ·intro x l hl r hr;exact x.2 r (aHS.2 ⟨l,hl,hr⟩)
      ·intro x;refine⟨⟨q1,q2,q3,q4⟩,λr hr=>?_⟩;obtain⟨l,hl,hr⟩:=aHS.1 hr;grind
     grind
    grind[kW]
   grind[kW]
  grind[kW]
 grind[kW]
end
theorem VH{s:List aW}{p:aW->Bool}(hl:s.length<=4611686018427387904) :
  (∃j,∃h:j<s.length,(∀i (h:i<s.length),i<j->p s[i]=false)/\p s[j]=true/\cY s (λy=>some (p y))=some (j:Int))\/((∀i (h:i<s.length),p s[i]=false)/\cY s (λy=>some (p y))=some (-1)):=by
 rcases TN (f:=oV s (λy=>some (p y))) (p:=p) hl (λk=>by
  simp only[oV];by_cases h:k<s.length
  ·rw[dif_pos h,dM,aV h,aJ,aJ,eB];rfl
  grind) s.length 0 (by omega) with ⟨j,h,_,h2,h3,h4⟩|⟨h1,h2⟩
 ·refine .inl ⟨j,h,λi hi a=>h2 i hi (iY _) a,h3,?_⟩;unfold cY;rw[show(0:Int)=((0:Nat):Int) from rfl,h4];rfl
 ·refine .inr ⟨λi hi=>h1 i hi (iY _),?_⟩;unfold cY;rw[show(0:Int)=((0:Nat):Int) from rfl,h2];rfl
theorem aH4{s:List Seen}{p:Seen->Bool}(hl:s.length<=4611686018427387904) :
  (∃j,∃h:j<s.length,(∀i (h:i<s.length),i<j->p s[i]=false)/\p s[j]=true/\eY s (λy=>some (p y))=some (j:Int))\/((∀i (h:i<s.length),p s[i]=false)/\eY s (λy=>some (p y))=some (-1)):=by
 rcases TN (f:=jA s (λy=>some (p y))) (p:=p) hl (λk=>by
  simp only[jA];by_cases h:k<s.length
  ·rw[dif_pos h,dM,aV h,aJ,aJ,eB];rfl
  grind) s.length 0 (by omega) with ⟨j,h,_,h2,h3,h4⟩|⟨h1,h2⟩
 ·refine .inl ⟨j,h,λi hi a=>h2 i hi (iY _) a,h3,?_⟩;unfold eY;rw[show(0:Int)=((0:Nat):Int) from rfl,h4];rfl
 ·refine .inr ⟨λi hi=>h1 i hi (iY _),?_⟩;unfold eY;rw[show(0:Int)=((0:Nat):Int) from rfl,h2];rfl
theorem aQN{s:List aW}{p:aW->Bool}(hl:s.length<=4611686018427387904):jY s (λy=>some (p y))=some (s.filter λx=>!p x):=by
 unfold jY;rcases VH (p:=p) hl with ⟨j,h,h1,h2,h3⟩|⟨h1,h3⟩
 ·have ne:¬(((j:Int) == -1)=true):=by simp
  rw[h3,aJ,aP ne,eB];obtain⟨M,k,g1,g2,g3,g4⟩:=aFE (p:=p) (n:=s.length) (f:=kI (λy=>some (p y))) hl (λL i j h hn hi=>by
   simp only[kI];rw[dM,aV h,aJ,aJ];by_cases hp:p L[j]=true
   ·rw[aL hp,aP (by simp[hp])];grind[iG,cC]
   ·rw[aP hp,aL (by grind),O0,aJ];grind[iG,cC]) (λL i j h=>by
   simp_all[kI]) (s.length-(j+1)) s j (j+1) (by omega) rfl (by omega)
  grind[yA,xZ,bY,eN,aG8,aNL]
 ·rw[h3,aJ,aL (by rfl),List.filter_eq_self.2];grind[SG]
theorem aTS{O:Type}{q:O->Bool}:∀{s:List O} {j:Nat} (h:j<s.length),(∀i (h:i<s.length),i<j->q s[i]=true)->q s[j]=false->s.takeWhile q=s.take j/\s.dropWhile q=s.drop j
 |[],j,h,_,_=>by cases h
 |x::r,0,h,_,h2=>by simp_all
 |x::r,j + 1,h,h1,h2=>by have hx:q x=true:=h1 0 (Nat.zero_lt_succ _) (Nat.zero_lt_succ _);have:=aTS (s:=r) (j:=j) (by grind) (λi hi hj=>h1 (i+1) (by omega) (by omega)) h2;simp_all
theorem bIJ{O:Type}{q:O->Bool}{s:List O}(h:∀i (h:i<s.length),q s[i]=true):s.takeWhile q=s/\s.dropWhile q=[]:=by
 have h':∀x∈s,q x=true:=λx hx=>by grind[SG]
 clear h;induction s with
 |nil=>simp
 |cons x r ih=>
  simp_all
def MP(l:List aW)(x:aW):List aW:=
 (l.filter λy=>!(y.Key == x.Key)).takeWhile (λy=>!decide (x.Key<y.Key))++[x]++(l.filter λy=>!(y.Key == x.Key)).dropWhile (λy=>!decide (x.Key<y.Key))
theorem aHA{l:List aW}(hl:l.length<=1000)(x:aW):JX l x=some (MP l x):=by
 unfold JX nW MP;rw[R0];simp only[aJ,VX];have hd:jY l (λy0=>LN y0 x)=some (l.filter λy=>!(y.Key == x.Key)):=aQN (p:=λy=>y.Key == x.Key) (by omega);rw[hd,aJ];have hlen:(l.filter λy=>!(y.Key == x.Key)).length<=1000:=mC (List.length_filter_le _ _) hl;generalize (l.filter λy=>!(y.Key == x.Key))=o at hlen ⊢;have hi:(∃j,∃h:j<o.length,(∀i (h:i<o.length),i<j->decide (x.Key<o[i].Key)=false)/\decide (x.Key<o[j].Key)=true/\cY o (λy0=>C2 y0 x)=some (j:Int))\/((∀i (h:i<o.length),decide (x.Key<o[i].Key)=false)/\cY o (λy0=>C2 y0 x)=some (-1)):=VH (p:=λy=>decide (x.Key<y.Key)) (by omega);rcases hi with ⟨j,h,h1,h2,h3⟩|⟨h1,h3⟩
 ·obtain⟨t1,t2⟩:=aTS (q:=λy:aW=>!decide (x.Key<y.Key)) h (λi hi a=>by grind) (by simp[h2]);rw[h3,aJ,g7,t1,t2];grind[rV,rC,bY]
 ·obtain⟨t1,t2⟩:=bIJ (s:=o) (q:=λy:aW=>!decide (x.Key<y.Key)) (λi hi=>by grind);rw[h3,aJ,aL (by decide),t1,t2];grind[rV,rC,bY,List.drop_length]
def aJ5(l:List aW)(k:Int):aW×Bool:=match l.find? (λy=>y.Key == k) with|some x=>(x,true)|none=>(⟨0,false,0⟩,false)
theorem aNZ{O:Type}{p:O->Bool}{s:List O}{j:Nat}(h:j<s.length)(h1:∀i (h:i<s.length),i<j->p s[i]=false)(h2:p s[j]=true):s.find? p=some s[j]:=by grind[List.find?_eq_some_iff_getElem]
theorem a2E{O:Type}{p:O->Bool}{s:List O}(h1:∀i (h:i<s.length),p s[i]=false):s.find? p=none:=by grind[SG]
theorem aJ6{l:List aW}(hl:l.length<=1000)(k:Int):NA l k=some (aJ5 l k):=by
 unfold NA aJ5;have hi:(∃j,∃h:j<l.length,(∀i (h:i<l.length),i<j->(l[i].Key == k)=false)/\(l[j].Key == k)=true/\cY l (λy0=>GB y0 k)=some (j:Int))\/((∀i (h:i<l.length),(l[i].Key == k)=false)/\cY l (λy0=>GB y0 k)=some (-1)):=VH (p:=λy=>y.Key == k) (by omega);rcases hi with ⟨j,h,h1,h2,h3⟩|⟨h1,h3⟩
 ·rw[h3,aJ,g7,aV h,aNZ (p:=λy:aW=>y.Key == k) h h1 h2];rfl
 simp_all[a2E]
def IM(l:List Seen)(b v:Int):List Seen×Bool:=match l.find? (λy=>y.cR == b) with|some x=>(l,x.kC == v)|none=>(l++[⟨b,v⟩],true)
theorem aJ7{l:List Seen}(hl:l.length<=1000)(b v:Int):NC l b v=some (IM l b v):=by
 unfold NC p5 IM;rw[R0];simp only[aJ,VX];have hi:(∃j,∃h:j<l.length,(∀i (h:i<l.length),i<j->(l[i].cR == b)=false)/\(l[j].cR == b)=true/\eY l (λy0=>GH y0 b)=some (j:Int))\/((∀i (h:i<l.length),(l[i].cR == b)=false)/\eY l (λy0=>GH y0 b)=some (-1)):=aH4 (p:=λy=>y.cR == b) (by omega);rcases hi with ⟨j,h,h1,h2,h3⟩|⟨h1,h3⟩
 ·rw[h3,aJ,g7,aV h,aNZ (p:=λy:Seen=>y.cR == b) h h1 h2];rfl
 ·rw[h3,aJ,aL (by decide),R0,a2E (p:=λy:Seen=>y.cR == b) h1]
def fX(l:List aW)(n:Int):Int:=(((l.take n.toNat).filter λx=>!x.KJ).length:Int)
theorem aZB(l:List aW)(n:Int):(l.take ((if(if(l.length:Int)<n then(l.length:Int) else n)<0 then 0 else(if(l.length:Int)<n then(l.length:Int) else n)).toNat)).drop 0=l.take n.toNat:=by
 (simp_all;omega)
theorem aFI{l:List aW}(hl:l.length<=1000)(n:Int):S8 l n=some (fX l n):=by
 unfold S8 fX;rw[R1];have hc:=aZB l n;obtain⟨s,hs⟩:∃s,s=l.take n.toNat:=⟨_,rfl⟩;have hsl:s.length<=1000:=by grind
 rw[show((0:Int),(0:Int))=((((s.take 0).filter λx=>!x.KJ).length:Int),((0:Nat):Int)) from rfl,
  jG s.length (λk=>((((s.take k).filter λx=>!x.KJ).length:Int),(k:Int))) (((s.filter λx=>!x.KJ).length:Nat):Int) (λk hk=>by
   have ht:s.take (k+1)=s.take k++[s[k]]:=MF hk;have hle:((s.take k).filter λx=>!x.KJ).length<=1000:=mC (List.length_filter_le _ _) (by grind);simp only[UN,hc,<-hs];rw[dM,aV hk,aJ,ht,List.filter_append];cases hd:s[k].KJ
   ·rw[aL (by rfl),eB];simp only[GI];rw[eB];simp[hd]
   ·rw[g7];grind[GI,cC]) (by
   simp only[UN,hc,<-hs];simp)]
 rw[hs];rfl
def oJ(k:Int):Int:=if 0<=k/\k<=99 then k % 2 else -1
theorem R5(k:Int):IW k=some (oJ k):=by unfold IW oJ;rw[dI,aJ];grind
def qX(l:List aW):List Int:=(if l.any (λx=>x.Key % 2 == 0) then [0] else [])++(if l.any (λx=>x.Key % 2 == 1) then [1] else [])
theorem aZC{l:List Int}(hs:l.Pairwise (· < ·))(hm:∀x∈l,x=0\/x=1):l=(if 0∈l then [0] else [])++(if 1∈l then [1] else []):=by
 match l,hs,hm with
 |[],_,_=>rfl
 |[x],_,hm=>rcases hm x (by simp) with rfl|rfl<;>rfl
 |[x,y],hs,hm=>
  have hxy:x<y:=by grind
  rcases hm x (by simp) with rfl|rfl<;>rcases hm y (by simp) with rfl|rfl<;>first|omega|rfl
 |x::y::z::r,hs,hm=>
  (simp_all;omega)
theorem aJ8{l:List aW}(hl:l.length<=12)(hk:∀x∈l,0<=x.Key/\x.Key<=99):ND l=some (qX l):=by
 unfold ND;rw[show(([]:List Int),(0:Int))=((l.take 0).map (λx=>x.Key % 2),((0:Nat):Int)) from rfl,
  jG l.length (λk=>((l.take k).map (λx=>x.Key % 2),(k:Int))) (l.map λx=>x.Key % 2) (λk hlt=>by
   have ht:l.take (k+1)=l.take k++[l[k]]:=MF hlt;have hkk:=hk l[k] (dJ hlt);simp only[LQ];rw[dM,aV hlt,aJ,R5,aJ];unfold oJ;rw[aL hkk,dM,R0,ht,uN];grind[C4,cC]) (by
   simp[LQ]),aJ]
 simp only[WL,LP];obtain⟨y,h1,h2,h3⟩:=aWB (x:=l.map λx=>x.Key % 2) (by grind) (by grind[aNM]);rw[h1,aJ];obtain⟨c1,c2⟩:=aH2 h3;have hmem:∀a,a∈DP y↔∃x∈l,x.Key % 2=a:=λa=>by grind
 have h01:∀a∈DP y,a=0\/a=1:=λa ha=>by grind
 show some (DP y)=_;rw[aZC c1 h01];grind[qX]
theorem aTT(l:List aW):(qX l).length<=2:=by grind[qX]
theorem ZG{l:List aW}{b:Int}(h:b∈qX l):b=0\/b=1:=by grind[qX]
theorem aN0{O:Type}{f:(List O×Int)->Option (Step (List O×Int) (List O))}(l:List O)
  (h:∀k (hk:k<l.length),f (l.take k,(k:Int))=some (.next (l.take k++[l[k]],((k+1:Nat):Int)))) (he:f (l,(l.length:Int))=some (.stop l)):loop f ([],0)=some l:=by
 have:=jG (f:=f) l.length (λk=>(l.take k,(k:Int))) l (λk hk=>by simp_all) (by grind);grind
theorem aAK{O:Type}{f:(Int×List O)->Option (Step (Int×List O) (List O))}(l:List O)
  (h:∀k (hk:k<l.length),f ((k:Int),l.take k)=some (.next (((k+1:Nat):Int),l.take k++[l[k]]))) (he:f ((l.length:Int),l)=some (.stop l)):loop f (0,[])=some l:=by
 have:=jG (f:=f) l.length (λk=>((k:Int),l.take k)) l (λk hk=>by simp_all) (by grind);grind
theorem qH{l:List Int}(h:l.length<=1073741824):eQ l=some l:=by grind[eQ,bY]
theorem aTU{l:List vW}(h:l.length<=1073741824):zO l=some l:=by grind[zO,bY]
theorem aQO{l:List dR}(h:l.length<=1073741824):wT l=some l:=by grind[wT,bY]
theorem R6{l:aD}(h1:l.Global.length<=1048576)(h2:l.Own.length<=1048576)(h3:∀s∈l.Global,s.aT.length<=1048576)(h4:∀s∈l.Own,s.aT.length<=1048576):i6 l=some l:=by
 unfold i6;rw[aAK l.Global]
 ·simp only[aJ,QA,P9];rw[aAK l.Own]
  ·rfl
  ·intro k hk;have:=h4 _ (dJ hk);simp only[FO];rw[dM,aV hk];simp only[aJ];rw[qH (by omega),aJ,R0,FN,eB];rfl
  grind[FO]
 ·intro k hk;have:=h3 _ (dJ hk);simp only[FQ];rw[dM,aV hk];simp only[aJ];rw[qH (by omega),aJ,R0,FP,eB];rfl
 grind[FQ]
theorem VJ{h:Heap}(h1:h.Bytes.length<=1048576)(h2:h.Class.length<=1048576):wA h=some h:=by unfold wA;rw[qH (by omega),qH (by omega)];rfl
theorem QQ{m:Mem}(h:D7 m):qB m=some m:=by have a:=VJ h.1 h.2.1;have b:=R6 h.2.2.1 h.2.2.2.1 h.aRI.1 h.aRI.2;simp_all[qB]
theorem nK{c:aC}(h:c.cQ.length<=1048576):z7 c=some c:=by unfold z7;rw[R0];rfl
theorem CH{c:aC}(h:c.cQ.length<=1048576):lW c=some c:=by unfold lW;rw[aTU (by omega)];rfl
theorem R7{l:List bN}(hl:l.length<=1048576)(hs:∀s∈l,s.Rows.length<=1048576):lV l=some l:=by
 unfold lV;rw[aN0 l]
 ·rfl
 ·intro k hk;have:=hs _ (dJ hk);simp only[F5];rw[dM,aV hk];simp only[aJ];rw[aQO (by omega),aJ,R0,eB];rfl
 grind[F5]
theorem aTV{b:aA}(h:VG b):JZ b=some b:=by have m:=QQ h.1;have c:=CH h.2.1;have l:=R7 h.2.2.1 h.rows;have:=h.2.2.2.2;unfold JZ;rw[m,c,l,qH (by omega)];rfl
theorem nL(w:Int):gY w=some (decide (0<=w/\w<=2)):=by grind[gY,dI]
section
variable {c:aC} (hc:JC c) {w:Int} (hw:0<=w/\w<=2)
include hc
theorem JC.small:c.cQ.length<=1048576/\c.cQ.length<=maxLen:=by have:=hc.2.1;grind[maxLen]
theorem JC.aTW{k:Nat}{p:vW}(hp:POk c.aE p):JC ⟨c.aE,c.cQ.set k p⟩:=⟨hc.1,by simpa using hc.2.1,λq hq=>(rJ hq).elim (hc.2.2 q) (λe=>e ▸ hp)⟩
theorem JC.later(h:c.aE+1<=100000):JC ⟨c.aE+1,c.cQ⟩:=by
 have h1:=hc.1;exact⟨⟨by grind,h⟩,hc.2.1,λq hq=>by
  obtain⟨a,b,d⟩:=hc.2.2 q hq;exact⟨⟨a.1,by grind⟩,b,d⟩⟩
include hw
theorem aZD:∃p,idx c.cQ w=some p/\POk c.aE p:=by have h3:=hc.2.1;rw[gX hw.1 (by omega)];exact⟨_,rfl,hc.2.2 _ (dJ _)⟩
theorem a4O(e:Int):∃r,K2 c w e=some r/\QD c w e=some r/\JC r.1/\r.1.aE=c.aE:=by
 obtain⟨p,hp,h1,⟨hs0,hs1⟩,h2⟩:=aZD hc hw;have h3:=hc.2.1;unfold K2 QD;rw[nK hc.small.1,CH hc.small.1,jJ,vT hc.small.2,nL,dO,cD hc,cD hw];simp only[aJ,i5,bO,bM,HB,F7,hp];cases h4:p.On
 ·exact⟨_,rfl,rfl,hc,rfl⟩
 ·cases h5:p.gU
  ·by_cases h6:p.aE=e
   ·simp_all[sJ,rU]
   ·have h6':(p.aE == e)=false:=by grind
    simp only[sJ,rU,h6',i5,bO,bM,hp,aJ];by_cases h7:p.Seen=2
    ·simp only[h7,beq_self_eq_true,bU,show ¬((2:Int)<2) by omega,decide_false,bO,bM];exact⟨_,rfl,rfl,hc.aTW ⟨h1,by simp,λq=>by grind⟩,rfl⟩
    ·have h7':(p.Seen == 2)=false:=by grind
     simp only[h7',show p.Seen<2 by omega,decide_true,bU,bO,bM];have hw7:bA (p.Seen+1)=p.Seen+1:=eB;exact⟨_,rfl,rfl,hc.aTW ⟨h1,by grind,λq=>by grind⟩,rfl⟩
  ·exact⟨_,rfl,rfl,hc,rfl⟩
theorem a9E(e:Int):∃r,OQ c w e=some r/\UM c w e=some r/\(JC r.1/\r.1.aE=c.aE)/\(r.2=false->r.1=c):=by
 obtain⟨p,hp,hpk⟩:=aZD hc hw;have h3:=hc.2.1;unfold OQ UM;rw[nK hc.small.1,CH hc.small.1,jJ,vT hc.small.2,nL,dO,dO,dI,cD hc,cD hw];simp only[aJ,i5,bO,bM,B8,BK,hp];by_cases h:0<=e/\e<=c.aE
 ·simp only[cD h,i5,bO,bM];exact⟨_,rfl,rfl,⟨hc.aTW ⟨h,by simp,λq=>by cases q⟩,rfl⟩,λq=>by cases q⟩
 simp_all[eU]
omit hw in
theorem bDZ(e:Int):∃r,TD c e=some r/\aAD c e=some r/\JC r.1/\c.aE<=r.1.aE:=by
 have h3:=hc.2.1;unfold TD aAD;rw[nK hc.small.1,CH hc.small.1,jJ,vT hc.small.2,cD hc];simp only[aJ,i5,bO,bM,HC,F8];by_cases h:c.aE=e
 ·subst h;simp only[bne_self_eq_false,bO,bM];by_cases h:c.aE=100000
  ·simp_all
  ·have h':(c.aE == 100000)=false:=by grind
   have hE:=hc.1;have hw7:bA (c.aE+1)=c.aE+1:=eB;simp only[h',bO,bM,hw7];exact⟨_,rfl,rfl,hc.later (by omega),by grind⟩
 simp_all
end
theorem bIK{b:aA}(hc:JC b.aC){w:Int}(hw:0<=w/\w<=2)(s:Sub) :
  ∃x y,K3 b w s=some (x,y)/\zQ s b w=some (y,x)/\∃cl,x=⟨b.Mem,cl,b.aM,b.oR⟩/\JC cl/\b.aC.aE<=cl.aE:=by
 obtain⟨r,e1,e2,h3,h4⟩:=a9E hc hw s.E;unfold K3 zQ;rw[e1,e2];simp only[bT,bL,AR,aJ];by_cases p0:s.Pc=0
 ·simp only[p0,beq_self_eq_true,bU];exact⟨_,_,rfl,rfl,_,rfl,hc,by omega⟩
 ·have p0':(s.Pc == 0)=false:=by grind
  simp only[p0',bO,bM];by_cases p1:s.Pc=1
  ·simp only[p1,beq_self_eq_true,bU];cases h:r.2
   ·rw[h4 h];exact⟨_,_,rfl,rfl,_,rfl,hc,by omega⟩
   ·exact⟨_,_,rfl,rfl,_,rfl,h3.1,by omega⟩
  ·have p1':(s.Pc == 1)=false:=by grind
   simp only[p1',bO,bM];by_cases p2:s.Pc=2
   ·simp only[p2,beq_self_eq_true,bU];by_cases q:b.aC.aE=s.E
    ·simp only[q,beq_self_eq_true,bU];exact⟨_,_,rfl,rfl,_,rfl,hc,by omega⟩
    ·have q':(b.aC.aE == s.E)=false:=by grind
     simp only[q',bO,bM];exact⟨_,_,rfl,rfl,_,rfl,hc,by omega⟩
   ·have p2':(s.Pc == 2)=false:=by grind
    simp only[p2',bO,bM];exact⟨_,_,rfl,rfl,_,rfl,hc,by omega⟩
theorem aZE{b:aA}(hc:JC b.aC)(s:Sub) :
  ∃x y,vM b s=some (x,y)/\pU s b=some (y,x)/\∃cl,x=⟨b.Mem,cl,b.aM,b.oR⟩/\JC cl/\b.aC.aE<=cl.aE:=by
 obtain⟨r2,e3,e4,h4⟩:=bDZ hc s.E;unfold vM pU mH;rw[e3,e4,dO,nL];simp only[bT,bL,uD,uE,mG,aJ];by_cases p0:s.Pc=0
 ·simp only[p0,beq_self_eq_true,bU];exact⟨_,_,rfl,rfl,_,rfl,hc,by omega⟩
 ·have p0':(s.Pc == 0)=false:=by grind
  simp only[p0',bO,bM];by_cases p1:s.Pc=1
  ·simp only[p1,beq_self_eq_true,bU,show((1:Int) == 2)=false from rfl,bO,bM];by_cases hB:0<=s.B/\s.B<=2
   ·obtain⟨r,e1,e2,h3,h3'⟩:=a4O hc hB s.E;simp only[cD hB,i5,bO,bM,bU,e1,e2,aJ];cases h:r.2
    ·exact⟨_,_,rfl,rfl,_,rfl,h3,by omega⟩
    ·by_cases q:bA (s.B+1)=3
     ·simp only[q,beq_self_eq_true,bU,i5,bO,bM];exact⟨_,_,rfl,rfl,_,rfl,h3,by omega⟩
     ·have q':(bA (s.B+1) == 3)=false:=by grind
      simp only[q',i5,bO,bM];exact⟨_,_,rfl,rfl,_,rfl,h3,by omega⟩
   ·simp only[eU hB,NZ,bO,bM,bU];exact⟨_,_,rfl,rfl,_,rfl,hc,by omega⟩
  ·have p1':(s.Pc == 1)=false:=by grind
   simp only[p1',bO,bM];by_cases p2:s.Pc=2
   ·simp only[p2,beq_self_eq_true,bU];cases h:r2.2
    ·simp only[bO,bM];exact⟨_,_,rfl,rfl,_,rfl,h4⟩
    ·simp only[bU];exact⟨_,_,rfl,rfl,_,rfl,h4⟩
   ·have p2':(s.Pc == 2)=false:=by grind
    simp only[p2',bO,bM];exact⟨_,_,rfl,rfl,_,rfl,hc,by omega⟩
theorem aZF:∀(n:Nat) (l:List Int),l.Nodup->(∀x∈l,0<=x/\x<(n:Int))->l.length<=n
 |0,l,_,h=>by
  cases l with
  |nil=>simp
  |cons a t=>(simp_all;omega)
 |n + 1,l,hn,h=>by
  have ih:=aZF n (l.erase (n:Int)) (hn.erase _) (λx hx=>by
   grind)
  grind
theorem NX{l:List bN}{k:Nat}(hk:k<l.length)(x:bN):bX (l.set k x)=bX (l.take k)++(x.Rows++bX (l.drop (k+1))):=by simp_all[List.set_eq_take_append_cons_drop,bX]
theorem LA{l:List bN}{k:Nat}(hk:k<l.length):bX l=bX (l.take k)++(l[k].Rows++bX (l.drop (k+1))):=by grind[aLA,NX]
theorem JD{l:List bE}{k:Nat}(hk:k<l.length)(x:bE):fI (l.set k x)=fI (l.take k)++(x.aT++fI (l.drop (k+1))):=by simp_all[List.set_eq_take_append_cons_drop,fI]
theorem EW{l:List bE}{k:Nat}(hk:k<l.length):fI l=fI (l.take k)++(l[k].aT++fI (l.drop (k+1))):=by grind[aLA,JD]
def bI(l:List bN)(s:Int):Prop:=∃r∈bX l,kU r.Handle/\r.Handle % 32=s
instance (l:List bN) (s:Int):Decidable (bI l s):=by unfold bI;infer_instance
section
variable {l:List bN} (hl:qV l)
include hl
theorem qV.small:(bX l).length<=1073741824/\l.length<=maxLen/\l.length<=1048576/\∀s∈l,s.Rows.length<=24:=by have:=hl.1;have h2:=hl.2.1;refine⟨by omega,by grind[maxLen],by omega,λs hs=>?_⟩;have:=aAH hs;omega
theorem L8(s:Int):G0 l s=some (decide (bI l s)):=by
 have hm:=hl.small;unfold G0;rw[HO hm.1 hm.2.1,aJ];have key:=mM (f:=pI s (bX l)) (bX l) (λk=>(k:Int)) (λr=>¬(kU r.Handle/\r.Handle % 32=s)) (Out.brk ()) (Out.ret true)
  (λk hk hp=>by
   have hk':=hl.2.1;simp only[pI,vK];rw[dM,aV hk,m9 (show k<maxLen by grind[maxLen])];grind[nT,iJ])
  (λk hk hp=>by
   simp_all[pI,vK,aV,nT,iJ])
  (by simp[pI])
 have key':loop (pI s (bX l)) 0=_:=key;rw[key'];by_cases q:bI l s
 ·rw[aP (λa=>by obtain⟨r,hr,e⟩:=q;grind),cD q];rfl
 ·rw[aL (λr hr e=>q ⟨r,hr,e⟩),eU q];rfl
theorem W8(s:Int):FZ l s=some (decide (bI l s)):=by
 have hm:=hl.small;unfold FZ;have e1:∀(r:dR),rS r s=some (decide (kU r.Handle/\r.Handle % 32=s)):=by
  intro r;unfold rS rA;rw[g8];by_cases q:kU r.Handle
  ·rw[q.mod.1];grind
  ·simp[q]
 have e2:∀x∈l,FY x s=some (x.Rows.any λr=>decide (kU r.Handle/\r.Handle % 32=s)):=by
  intro x hx;unfold FY;have:x.Rows.length<=maxLen:=by grind[maxLen]
  rw[show(λy0=>rS y0 s)=λr=>some (decide (kU r.Handle/\r.Handle % 32=s)) from funext e1,aB4 this];rfl
 rw[ZD hm.2.1 (λx=>x.Rows.any λr=>decide (kU r.Handle/\r.Handle % 32=s)) _ e2];simp only[aJ];congr 1;rw[KF,decide_eq_true_iff];simp only[List.any_eq_true,decide_eq_true_eq,bI,bX,aHS];grind
theorem qV.more{k:Nat}(hk:k<l.length){r:dR}(hr:CG r)(hn:¬bI l (r.Handle % 32)):qV (l.set k ⟨l[k].Rows++[r]⟩):=by
 have e:=NX hk (⟨l[k].Rows++[r]⟩:bN);have p:(bX (l.set k ⟨l[k].Rows++[r]⟩)).Perm (r::bX l):=by grind[LA]
 have h1:∀x∈bX (l.set k ⟨l[k].Rows++[r]⟩),CG x:=λx hx=>by
  rcases kD.1 (p.mem_iff.1 hx) with rfl|h
  ·exact hr
  ·exact hl.2.2.1 x h
 have h2:((bX (l.set k ⟨l[k].Rows++[r]⟩)).map oD).Nodup:=by refine(List.Perm.nodup_iff (p.map oD)).2 ?_;rw[KH,aBG];refine⟨λh=>hn ?_,hl.2.2.2⟩;obtain⟨x,hx,e⟩:=N0.1 h;exact⟨x,hx,(hl.2.2.1 x hx).1,e⟩
 refine⟨by simpa using hl.1,?_,h1,h2⟩;have:=aZF 24 _ h2 (λx hx=>by
  obtain⟨y,hy,rfl⟩:=N0.1 hx;have:=(h1 y hy).1.mod;grind[oD])
 grind
end
theorem a4P{b:aA}(hb:kW b)(hs:VG b){w:Int}(hw:0<=w/\w<=2)(s:Sub) :
  ∃x y,yU b w s=some (x,y)/\rB s b w=some (y,x)/\∃L,x=⟨b.Mem,b.aC,L,b.oR⟩/\qV L/\∀r∈bX L,HQ b r:=by
 have hL:=hb.1.2.2.1;have hm:=hb.1.1;have hlen:w.toNat<b.aM.length:=by have:=hL.1;omega
 have hx:idx b.aM w=some b.aM[w.toNat]:=gX hw.1 (by omega);have hg:b.Mem.aD.Global.length<=maxLen:=by rw[hm.1.2.1];simp[maxLen]
 have ho:b.Mem.aD.Own.length<=maxLen:=by rw[hm.1.2.2.1];simp[maxLen]
 have hall:(dY b.Mem.aD).length<=1073741824:=by have:=hs.1.2.2.2.2;omega
 have hrow:=hL.small.2.2.2 _ (dJ hlen);have he:=hb.1.2.1.1;unfold yU rB nC;rw[dO,dI,L7 hm.1.1.1 hall hg ho,HP hm.1.1.1 hall hg ho,iJ];simp only[bT,bL,aJ,xB,HA,nB];by_cases p0:s.Pc=0
 ·simp only[p0,beq_self_eq_true,bU];exact⟨_,_,rfl,rfl,_,rfl,hL,hb.2⟩
 ·have p0' : (s.Pc == 0) = false:=by grind
  simp only[p0',bO,bM];by_cases p1:s.Pc=1
  ·simp only[p1,beq_self_eq_true,bne_self_eq_false,bO,bM,bU];by_cases q1:0<=s.E/\s.E<=b.aC.aE
   ·simp only[cD q1,i5,bO,bM];by_cases q2:mN b.Mem s.A
    ·have hh:=q2.1;simp only[cD q2,i5,bO,bM,aL hh,hh.mod.1,L8 hL,W8 hL,aJ];by_cases q3:bI b.aM (s.A % 32)
     ·simp only[cD q3,bU];exact⟨_,_,rfl,rfl,_,rfl,hL,hb.2⟩
     ·have hmore:=hL.more hlen (r:=⟨s.A,s.E⟩) ⟨hh,q1.1,by grind⟩ q3;have e:JW b.aM w s.A s.E=some (b.aM.set w.toNat ⟨b.aM[w.toNat].Rows++[⟨s.A,s.E⟩]⟩,true):=by unfold JW zN;rw[DK hL.small.1,nL,R7 hL.small.2.2.1 (λs h=>by have:=hL.small.2.2.2 s h;omega)];simp only[cD hL,cD hw,aJ,i5,bO,bM,hx];rw[R0,DK hmore.small.1,cD hmore];rfl
      simp only[eU q3,bO,bM,hx,e,aJ];rw[R0];refine⟨_,_,rfl,rfl,_,rfl,hmore,λr hr=>?_⟩;rw[NX hlen] at hr;have hsp:=LA hlen;rcases eD.1 hr with h|h
      ·exact hb.2 r (by grind)
      ·rcases eD.1 h with h|h
       ·rcases eD.1 h with h|h
        ·exact hb.2 r (by grind)
        ·simp at h;subst h;exact⟨q2,q1.2⟩
       ·exact hb.2 r (by grind)
    ·simp only[eU q2,NZ,bU];exact⟨_,_,rfl,rfl,_,rfl,hL,hb.2⟩
   ·simp only[eU q1,NZ,bU];exact⟨_,_,rfl,rfl,_,rfl,hL,hb.2⟩
  ·have p1':(s.Pc == 1)=false:=by grind
   have p1'':(s.Pc != 1)=true:=by grind
   simp only[p1',p1'',bO,bM,bU];exact⟨_,_,rfl,rfl,_,rfl,hL,hb.2⟩
def st4(b:List Int)(a:Nat)(n:Int):List Int:=(((b.set a 0).set (a+1) 0).set (a+2) 0).set (a+3) n
theorem HR(b:List Int)(a:Nat)(n:Int):(st4 b a n).length=b.length:=by simp[st4]
theorem aWF{b:List Int}(h:sO b)(a:Nat){n:Int}(hn:0<=n/\n<=255):sO (st4 b a n):=by
 have key:∀{l:List Int} (i:Nat) (v:Int),sO l->0<=v/\v<=255->sO (l.set i v):=λi v hl hv x hx=>by
  rcases rJ hx with h|rfl
  ·exact hl x h
  ·exact hv
 exact key _ _ (key _ _ (key _ _ (key _ _ h (by omega)) (by omega)) (by omega)) hn
theorem a9F{n:Int}(hn:0<=n/\n<=255):((u8 n).toNat:Int)=n:=by grind[u8,UInt8.toNat_ofNat']
theorem aWG{l:List Int}(i:Nat){v:Int}(hl:sO l)(hv:0<=v/\v<=255):sO (l.set i v):=λx hx=>by
 rcases rJ hx with h|rfl
 ·exact hl x h
 ·exact hv
def R8(b:List Int)(a:Nat)(n:Int):List Int:=(((b.set a (n/16777216)).set (a+1) (n/65536 % 256)).set (a+2) (n/256 % 256)).set (a+3) (n % 256)
theorem aFJ(b:List Int)(a:Nat)(n:Int):(R8 b a n).length=b.length:=by simp[R8]
theorem a4Q{b:List Int}(h:sO b)(a:Nat){n:Int}(hn:0<=n/\n<=4294967295):sO (R8 b a n):=by grind[R8,aWG]
theorem a4R(b:List Int)(a:Nat)(x y z u:Int):(((b.set (a+3) u).set (a+2) z).set (a+1) y).set a x=(((b.set a x).set (a+1) y).set (a+2) z).set (a+3) u:=by refine List.ext_getElem (by simp) λj h1 h2=>?_;grind
theorem a4S{b:List Int}{a:Nat}(h:a+4<=b.length)(hl:b.length<=100000){n:Int}(hn:0<=n/\n<=4294967295):G8 b (a:Int) 4 n=some (R8 b a n):=by
 have st:∀(c:List Int) (m:Int) (i:Nat),c.length=b.length->0<=m->m<=4294967295->i<4->DG (a:Int) (c,m,(i:Int))=some (.next (c.set (a+i) (m % 256),m/256,(i:Int)-1)):=λc m i hc h0 h1 hi=>by simp only[DG];rw[aL (by simp),eB (x:=(a:Int)+i),show(a:Int)+i=((a+i:Nat):Int) by omega,O0,aJ,OZ h0,aV7 h0,eB (x:=m/256),eB (x:=(i:Int)-1),MR]
 unfold G8;rw[show bA (4-1)=((3:Nat):Int) from by grind[cC]];rw[bG (st b n 3 rfl hn.1 hn.2 (by omega)),show((3:Nat):Int)-1=((2:Nat):Int) by rfl,
  bG (st _ _ 2 (by simp) (by omega) (by omega) (by omega)),show((2:Nat):Int)-1=((1:Nat):Int) by rfl,
  bG (st _ _ 1 (by simp) (by omega) (by omega) (by omega)),show((1:Nat):Int)-1=((0:Nat):Int) by rfl,
  bG (st _ _ 0 (by simp) (by omega) (by omega) (by omega)),bD (r:=R8 b a n)]
 ·rfl
 ·simp only[DG];rw[g7];have e1:n/256/256=n/65536:=by omega
  have e2:n/256/256/256=n/16777216:=by omega
  have e3:n/16777216 % 256=n/16777216:=by omega
  simp_all[R8,a4R]
def oN(n:Int):List UInt8:=[u8 (n/16777216),u8 (n/65536),u8 (n/256),u8 n]
theorem VK{n:Int}(hn:0<=n/\n<=4294967295):mQ n 4=some (oN n):=by
 have hw:zJ 4=some true:=by grind[zJ,dI]
 unfold mQ;rw[hw];have e1:IntKind.u64.wrap (bA (8*4))=32:=by decide
 have e2:aLC .i64 1 32=4294967296:=by decide
 simp only[aJ,i5,bO,bM,e1,e2];rw[Y4,R1,eU (by omega)];simp only[vZ,bO,bM];rw[R1,show bA (4-1)=((3:Nat):Int) from by grind[cC]];have st:∀(m:Int) (c:List UInt8) (i:Nat),i<c.length->i<4->0<=m->qM (m,c,(i:Int))=some (.next (m/256,c.set i (u8 m),(i:Int)-1)):=λm c i hc hi h0=>by simp only[qM];rw[aL (by simp),aV hc,aJ,show(8:Int)=((8:Nat):Int) from rfl,a2A h0 (by omega),eB,MR];rfl
 rw[bG (st n _ 3 (by simp) (by omega) hn.1),show((3:Nat):Int)-1=((2:Nat):Int) by rfl,
  bG (st _ _ 2 (by simp) (by omega) (by omega)),show((2:Nat):Int)-1=((1:Nat):Int) by rfl,
  bG (st _ _ 1 (by simp) (by omega) (by omega)),show((1:Nat):Int)-1=((0:Nat):Int) by rfl,
  bG (st _ _ 0 (by simp) (by omega) (by omega)),bD (r:=oN n)]
 ·rfl
 ·simp only[qM];rw[g7];have e1:n/256/256=n/65536:=by omega
  rw[e1,show n/65536/256=n/16777216 by omega];rfl
theorem aTX{n:Int}(hn:0<=n):((u8 n).toNat:Int)=n % 256:=by
 have:u8 n=u8 (n % 256):=by grind[u8]
 grind[a9F]
theorem aZG{b:List Int}{a:Nat}(h:a+4<=b.length)(hl:b.length<=100000){n:Int}(hn:0<=n/\n<=4294967295):nG b (a:Int) (oN n)=some (R8 b a n):=by
 have st:∀(c:List Int) (i:Nat) (v:UInt8),c.length=b.length->i<4->idx (oN n) (i:Int)=some v->lU b (a:Int) (oN n) (c,(i:Int))=some (.next (c.set (a+i) (v.toNat:Int),((i+1:Nat):Int))):=λc i v hc hi hv=>by simp only[lU];rw[bY hc,aL (by grind[oN]),hv,aJ,eB (x:=(a:Int)+i),show(a:Int)+i=((a+i:Nat):Int) by omega,O0,aJ,eB,MR];rfl
 unfold nG;rw[show(0:Int)=((0:Nat):Int) from rfl,bG (st b 0 _ rfl (by omega) rfl),bG (st _ 1 _ (by simp) (by omega) rfl),bG (st _ 2 _ (by simp) (by omega) rfl),bG (st _ 3 _ (by simp) (by omega) rfl),bD (r:=R8 b a n)]
 ·grind[OD,OC,bY,aFJ]
 ·simp only[lU];rw[bY (by simp),aP (by simp[oN])];simp only[aTX hn.1,aTX (show 0<=n/16777216 by omega),aTX (show 0<=n/65536 by omega),aTX (show 0<=n/256 by omega)];rw[show n/16777216 % 256=n/16777216 by omega];rfl
theorem a9G{b:List Int}{a:Nat}{n:Int}(hn:0<=n/\n<=255):R8 b a n=st4 b a n:=by grind[R8,st4]
theorem L9{b:List Int}{a:Nat}(h:a+4<=b.length)(hl:b.length<=100000){n:Int}(hn:0<=n/\n<=255):G8 b (a:Int) 4 n=some (st4 b a n):=by grind[a4S,a9G]
theorem bK4{n:Int}(hn:0<=n/\n<=255):oN n=[0,0,0,u8 n]:=by unfold oN;rw[show n/16777216=0 by omega,show n/65536=0 by omega,show n/256=0 by omega];rfl
theorem aB5{n:Int}(hn:0<=n/\n<=255):mQ n 4=some [0,0,0,u8 n]:=by grind[VK,bK4]
theorem ZH{b:List Int}{a:Nat}(h:a+4<=b.length)(hl:b.length<=100000){n:Int}(hn:0<=n/\n<=255):nG b (a:Int) [0,0,0,u8 n]=some (st4 b a n):=by rw[<-bK4 hn,aZG h hl ⟨hn.1,by omega⟩,a9G hn]
theorem bF6{x y z:Int}:∀(a:Nat) (l:List Int),a+3<=l.length->cW l a [x,y,z]=((l.set a x).set (a+1) y).set (a+2) z
 |0,l,h=>by
  match l,h with
  |_::_::_::t,_=>simp[cW]
 |a + 1,l,h=>by
  match l,h with
  |u::t,h=>
   have ih:=bF6 (x:=x) (y:=y) (z:=z) a t (by grind);grind[cW]
def a9H(p k:Nat)(c:Int):Nat:=(iS ((p:Int)*4+k) c).toNat
def gB(b:List Int)(p:Nat)(c:Int):Nat->List Int
 |0=>((b.set (p*64) 171).set (p*64+1) c).set (p*64+2) (cM c)
 |k+1=>st4 (gB b p c k) (a9H p k c) 1
theorem MA(b:List Int)(p:Nat)(c:Int):∀k,(gB b p c k).length=b.length
 |0=>by simp[gB]
 |k+1=>by rw[gB,HR,MA b p c k]
theorem aN1{l:List Int}(i:Nat){v:Int}(hl:sO l)(hv:0<=v/\v<=255):sO (l.set i v):=λx hx=>by
 rcases rJ hx with h|rfl
 ·exact hl x h
 ·exact hv
theorem aTY{b:List Int}(hb:sO b)(p:Nat){c:Int}(hc:0<=c/\c<=2):∀k,sO (gB b p c k)
 |0=>by have:=nE c;exact aN1 _ (aN1 _ (aN1 _ hb (by omega)) (by omega)) (by omega)
 |k+1=>aWF (aTY hb p hc k) _ (by omega)
def gS(p:Nat)(n:Nat):List Int:=(List.range n).map λ(i:Nat)=>(p:Int)*4+(i:Int)
theorem aHB(p n:Nat):(gS p n).length=n:=by simp[gS]
theorem a2F(p n:Nat):gS p (n+1)=gS p n++[(p:Int)*4+(n:Int)]:=by simp[gS,List.range_succ]
theorem aTZ{p k:Nat}{c:Int}(hp:p<6)(hk:(k:Int)<cM c):iS ((p:Int)*4+k) c=(a9H p k c:Int)/\a9H p k c+4<=384:=by
 have h4:=nE c;have hm:=VF (c:=c) (i:=(k:Int)) (by omega) hk;have hst:4<=aX c:=by have:0<=c/\c<=2:=j6.1 (by omega);rcases nS this with e|e|e<;>rw[e]<;>decide
 have e:iS ((p:Int)*4+k) c=(p:Int)*64+8+(k:Int)*aX c:=by unfold iS;grind
 grind[a9H]
theorem aRK{p k:Nat}(hp:p<6)(hk:k<4):tE (p:Int) (k:Int)=some ((p:Int)*4+k)/\QC (p:Int) (k:Int)=some ((p:Int)*4+k):=by grind[cC,tE,yN,dO,QC,FV,dI]
section
variable {b:List Int} (hb:b.length=384) {p:Nat} (hp:p<6) {c:Int} (hc:0<=c/\c<=2)
include hb hp hc
theorem aN2:loop (DH c (p:Int)) ([],0,gB b p c 0)=some (gS p (cM c).toNat,gB b p c (cM c).toNat):=by
 have h4:=nE c;refine jG (cM c).toNat (λk=>(gS p k,(k:Int),gB b p c k)) _ (λk hk=>?_) ?_
 ·have ho:=aTZ (c:=c) hp (k:=k) (by omega);simp only[DH,WS,jI,aJ];rw[dM,(aRK hp (by omega)).1];simp only[aJ,wH,ho.1];rw[L9 (by grind[MA]) (by grind[MA]) (by omega)];simp only[aJ];rw[bY (by grind[aHB]),eB,a2F];rfl
 ·simp only[DH,jI,aJ];grind
theorem aZH:loop (JU c (p:Int) (cM c)) ([],0,gB b p c 0)=some (gS p (cM c).toNat,gB b p c (cM c).toNat):=by
 have h4:=nE c;refine jG (cM c).toNat (λk=>(gS p k,(k:Int),gB b p c k)) _ (λk hk=>?_) ?_
 ·have ho:=aTZ (c:=c) hp (k:=k) (by omega);simp only[JU,RH];rw[dM,(aRK hp (by omega)).2];simp only[aJ,CD,ho.1];rw[aB5 (by omega),aJ,ZH (by grind[MA]) (by grind[MA]) (by omega)];simp only[aJ];rw[bY (by grind[aHB]),eB,a2F];rfl
 ·simp only[JU];grind
end
theorem a9I{h:Heap}(hh:XN h){c:Int}(hc:0<=c/\c<=2) :
  (uC h c=some (h,[])/\IV h c=some (h,[])) \/
  ∃p,p<6/\cA h p<0/\uC h c=some (⟨gB h.Bytes p c (cM c).toNat,h.Class.set p c⟩,gS p (cM c).toNat)/\IV h c=some (⟨gB h.Bytes p c (cM c).toNat,h.Class.set p c⟩,gS p (cM c).toNat):=by
 have hs:=hh.1;have h6:=hs.2.1;have h384:=hs.1;have hp4:=nE c;have hcp:=VJ (h:=h) (by omega) (by omega);have hne:∀j (hj:j<6),j<h.Class.findIdx (λx=>decide (x = -1))->h.Class[j]≠-1:=λj hj hlt=>by grind
 generalize hq:h.Class.findIdx (λx=>decide (x = -1))=q at hne;have hq6:q<=6:=by grind
 have s1:∀k (hk:k<q),fJ h c (k:Int)=some (.next ((k+1:Nat):Int)):=λk hk=>by
  have:=hne k (by omega) hk;have n:(h.Class[k] != -1)=true:=by grind
  simp only[fJ,LY];rw[dM,O0,aJ,n,aL rfl,eB];rfl
 have s2:∀k (hk:k<q),fF h.Class (-1) (k:Int)=some (.next ((k+1:Nat):Int)):=λk hk=>by
  have:=hne k (by omega) hk;have n:((-1:Int) == h.Class[k])=false:=by grind
  simp only[fF];rw[dM,O0,aJ,n,eB];rfl
 have hm:h.Bytes.length<=maxLen:=by grind[maxLen]
 by_cases h5:q=6
 ·left;have a1:loop (fJ h c) 0=some (Out.brk ()):=jG q (λk=>(k:Int)) _ s1 (by simp_all[fJ]);have a2:loop (fF h.Class (-1)) 0=some (Out.brk ()):=jG q (λk=>(k:Int)) _ s2 (by simp_all[fF]);constructor
  ·unfold uC;rw[a1];rfl
  ·unfold IV nN;rw[a2,hcp,O2 hm,kR,cD hh,cD hc];rfl
 ·right;have hq5:q<6:=by omega
  have he:h.Class[q] = -1:=by grind
  refine⟨q,hq5,by grind[aAF],?_,?_⟩
  ·have a1:loop (fJ h c) 0=some (Out.ret (⟨gB h.Bytes q c (cM c).toNat,h.Class.set q c⟩,gS q (cM c).toNat)):=jG q (λk=>(k:Int)) _ s1 (by
    have e0:bA ((q:Int)*64)=((q*64:Nat):Int):=by grind[cC]
    have e1:bA (((q*64:Nat):Int)+1)=((q*64+1:Nat):Int):=by grind[cC]
    have e2:bA (((q*64:Nat):Int)+2)=((q*64+2:Nat):Int):=by grind[cC]
    have n:(h.Class[q] != -1)=false:=by grind
    simp only[fJ,e0,e1,e2,MR];rw[dM,O0,aJ,n,g7,O0,aJ,aV (by simp;omega),aJ,jI,aJ,aV (by simp;omega),aJ];have:=aN2 h384 hq5 hc;simp only[gB] at this;rw[this];rfl)
   unfold uC;rw[a1];rfl
  ·have a2:loop (fF h.Class (-1)) 0=some (Out.ret (q:Int)):=jG q (λk=>(k:Int)) _ s2 (by
    have n:((-1:Int) == h.Class[q])=true:=by rw[he];rfl
    simp only[fF];rw[dM,O0,aJ,n];rfl)
   unfold IV nN;rw[a2,hcp,O2 hm,kR,cD hh,cD hc];have e0:bA ((q:Int)*64)=((q*64:Nat):Int):=by grind[cC]
   simp only[aJ,AQ,i5,bO,bM,BH,e0,DJ,RI,MR];rw[eU (by omega),g7,O0,aJ,R1,bF6 _ _ (by omega)];have:=aZH h384 hq5 hc;simp only[gB] at this;rw[this];rfl
theorem LOk.count{l:aD}(h:LOk l):(dY l).length<=24:=aZF 24 _ h.2.2.2.2 (λx hx=>by have:=h.2.2.2.1 x hx;omega)
theorem a4T{m:Mem}(hs:fO m.Heap){s:Int}(hc:0<=bJ m.Heap s):∃h,B6 m s=some h/\JV m s=some h:=by
 unfold B6 JV RS RJ z6 zK;rw[qT hs hc,KD hs hc,aJ,aJ,dO,dO,zA,dI];have h1:=(rG hc).1;simp only[cD h1,aJ,i5,bO,bM];by_cases q:1<=j7 m.Heap s/\j7 m.Heap s<=6
 ·simp only[cD q,i5,bO,bM];exact⟨_,rfl,rfl⟩
 ·simp only[eU q,NZ,bU];exact⟨_,rfl,rfl⟩
theorem aDB{l:List bE}{k:Nat}(hk:k<l.length)(t:List Int):(fI (l.set k ⟨l[k].aT++t⟩)).length=(fI l).length+t.length:=by grind[JD,EW]
def bt(b:List Int)(i:Nat):Int:=b.getD i 0
theorem aN3{b:List Int}{i:Nat}(h:i<b.length):b[i]=bt b i:=by grind[bt]
theorem ld4{b:List Int}{a:Nat}(h:a+4<=b.length):ld b a 4=((bt b a*256+bt b (a+1))*256+bt b (a+2))*256+bt b (a+3):=by grind[ld,AG,ldF,aN3]
theorem O5{b:List Int}{i j:Nat}{v:Int}(hi:i<b.length):bt (b.set i v) j=if j=i then v else bt b j:=by grind[bt]
theorem JE{b:List Int}{a:Nat}{n:Int}(h:a+4<=b.length)(j:Nat):bt (st4 b a n) j=if j=a+3 then n else if a<=j/\j<a+3 then 0 else bt b j:=by unfold st4;rw[O5 (by simp;omega),O5 (by simp;omega),O5 (by simp;omega),O5 (by omega)];omega
theorem aZI{b:List Int}{a:Nat}{n:Int}(h:a+4<=b.length):ld (st4 b a n) a 4=n:=by simp_all[ld4,HR,JE]
theorem KE{b b':List Int}{a:Nat}(h:a+4<=b.length)(hl:b'.length=b.length)(hs:∀j,a<=j->j<a+4->bt b' j=bt b j):ld b' a 4=ld b a 4:=by simp_all[ld4]
def aDC(h:Heap)(p:Nat):Prop:=
 if cA h p<0 then ∀k,k<64->bt h.Bytes (p*64+k)=0
 else((bt h.Bytes (p*64)=171/\bt h.Bytes (p*64+1)=cA h p/\bt h.Bytes (p*64+2)=cM (cA h p))/\(∀k,3<=k->k<8->bt h.Bytes (p*64+k)=0)/\∀i,i<(cM (cA h p)).toNat->1<=ld h.Bytes (p*64+8+i*(aX (cA h p)).toNat) 4/\ld h.Bytes (p*64+8+i*(aX (cA h p)).toNat) 4<=7)
theorem aRL{h:Heap}(hs:fO h){p:Nat}(hp:p<6){k:Nat}(hk:k<64):(gG h p).getD k 0=bt h.Bytes (p*64+k):=by rw[<-aRG hs hp hk,aN3 (by have:=hs.1;omega)]
theorem aFK{l:List Int}{x:Int}:x∈l↔∃k,k<l.length/\l.getD k 0=x:=by
 rw[aBF];constructor
 ·rintro⟨k,hk,e⟩;exact⟨k,hk,by grind⟩
 grind
theorem HT{h:Heap}(hs:fO h){p:Nat}(hp:p<6):oY h p↔aDC h p:=by
 unfold oY aDC;have hl:=TP hs hp;split
 ·constructor
  ·intro q k hk;rw[<-aRL hs hp hk];exact q _ (aFK.2 ⟨k,by omega,rfl⟩)
  grind[aFK,aRL]
 ·rw[aRL hs hp (by omega),aRL hs hp (by omega),aRL hs hp (by omega)];have e:(∀x∈((gG h p).drop 3).take 5,x=0)↔∀k,3<=k->k<8->bt h.Bytes (p*64+k)=0:=by
   have g:∀j,j<5->(((gG h p).drop 3).take 5).getD j 0=bt h.Bytes (p*64+(3+j)):=λj hj=>by rw[<-aRL hs hp (by omega),EE,EE,aDU,aL hj,aHQ]
   constructor
   ·intro q k h3 h8;have:=q _ (aFK.2 ⟨k-3,by grind,rfl⟩);grind
   ·intro q x hx;obtain⟨k,hk,rfl⟩:=aFK.1 hx;simp[hl] at hk;rw[g _ hk];exact q _ (by omega) (by omega)
  rw[e];rfl
theorem aDC.same{h h':Heap}{p:Nat}(hp:p<6)(hs:fO h)(hl:h'.Bytes.length=h.Bytes.length)(hc:cA h' p=cA h p)(hb:∀k,k<64->bt h'.Bytes (p*64+k)=bt h.Bytes (p*64+k))(q:aDC h p):aDC h' p:=by
 have h1:=hs.1;unfold aDC at q ⊢;rw[hc];split
 ·grind
 ·rename_i q0;rw[aP q0] at q;obtain⟨⟨a1,a2,a3⟩,a4,a5⟩:=q;have b0:=hb 0 (by omega);have b1:=hb 1 (by omega);have b2:=hb 2 (by omega);simp only[VY] at b0;refine⟨⟨by omega,by omega,by omega⟩,λk k3 k8=>by grind,λi hi=>?_⟩;have hz:=sP hs hp (c:=cA h p) rfl hi;rw[KE (b:=h.Bytes) (by omega) hl λj j1 j2=>by
   have:=hb (j-p*64) (by omega);grind]
  grind
theorem qI{h:Heap}{s:Int}(hc:0<=bJ h s):∃p i,p<6/\i<(cM (cA h p)).toNat/\s=(p:Int)*4+i/\bJ h s=cA h p/\(iS s (bJ h s)).toNat=p*64+8+i*(aX (cA h p)).toNat/\(s/4).toNat=p:=by obtain⟨h1,h2,h3⟩:=rG hc;have hle:=nE (cA h (s/4).toNat);refine⟨(s/4).toNat,(s % 4).toNat,by omega,by omega,by omega,h3,?_,rfl⟩;rw[h3];unfold iS;rw[aL ⟨h1,by omega⟩];grind[aX]
theorem VL{c:Int}{i j:Nat}(hi:i<(cM c).toNat)(hj:j<(cM c).toNat)(hn:i≠j):i*(aX c).toNat+4<=j*(aX c).toNat\/j*(aX c).toNat+4<=i*(aX c).toNat:=by
 have hc:0<=c/\c<=2:=j6.1 (by omega);have h12:12<=(aX c).toNat:=by rcases nS hc with rfl|rfl|rfl<;>decide
 rcases Nat.lt_or_gt_of_ne hn with q|q
 ·left;have:(i+1)*(aX c).toNat<=j*(aX c).toNat:=uO _ q;rw[oK] at this;omega
 ·right;have:(j+1)*(aX c).toNat<=i*(aX c).toNat:=uO _ q;rw[oK] at this;omega
theorem XN.a9J{h:Heap}(hh:XN h){s g:Int}(hc:0<=bJ h s)(hg:1<=g/\g<=7) :
  XN ⟨st4 h.Bytes (iS s (bJ h s)).toNat g,h.Class⟩/\∀t,0<=bJ h t->j7 ⟨st4 h.Bytes (iS s (bJ h s)).toNat g,h.Class⟩ t=if t=s then g else j7 h t:=by
 obtain⟨hs,hp⟩:=hh;have h384:=hs.1;have hs':fO ⟨st4 h.Bytes (iS s (bJ h s)).toNat g,h.Class⟩:=⟨by grind[HR],hs.2.1,aWF hs.2.2.1 _ (by omega),hs.2.2.2⟩;obtain⟨p,i,p6,hi,es,ec,eo,ep⟩:=qI hc;have hz:=sP hs p6 rfl hi;have h4:=nE (cA h p);refine⟨⟨hs',λq hq=>?_⟩,λt ht=>?_⟩
 ·rw[HT hs' hq];have hold:=(HT hs hq).1 (hp q hq);by_cases e:q=p
  ·subst e;have hpos:0<cM (cA h q):=by omega
   have hcl:¬cA h q<0:=by omega
   unfold aDC at hold ⊢;have hcl':cA ⟨st4 h.Bytes (iS s (bJ h s)).toNat g,h.Class⟩ q=cA h q:=rfl;rw[hcl'];rw[aP hcl] at hold ⊢;obtain⟨⟨a1,a2,a3⟩,a4,a5⟩:=hold;have bs:∀k,k<8->bt (st4 h.Bytes (iS s (bJ h s)).toNat g) (q*64+k)=bt h.Bytes (q*64+k):=λk hk=>by rw[JE (by omega),jH,jH]
   have b0:=bs 0 (by omega);have b1:=bs 1 (by omega);have b2:=bs 2 (by omega);simp only[VY] at b0;refine⟨⟨by grind,by grind,by grind⟩,λk k3 k8=>by grind,λj hj=>?_⟩;have hzj:=sP hs p6 rfl hj;by_cases ej:j=i
   ·grind[aZI]
   ·rw[KE (b:=h.Bytes) (by omega) (by grind[HR]) λk k1 k2=>?_]
    ·grind
    ·simp only[eo];have:=VL hi hj (λq=>ej q.symm);rw[JE (by omega),jH,jH]
  ·refine aDC.same hq hs (by grind[HR]) rfl (λk hk=>?_) hold;rw[JE (by omega),jH,jH]
 ·have e2:bJ ⟨st4 h.Bytes (iS s (bJ h s)).toNat g,h.Class⟩ t=bJ h t:=rfl;unfold j7;rw[e2];by_cases e:t=s
  ·subst e;rw[aL rfl];grind[aZI]
  ·rw[aP e];obtain⟨p',i',p6',hi',es',ec',eo',ep'⟩:=qI ht;have hz':=sP hs p6' rfl hi';rw[KE (b:=h.Bytes) (by omega) (by grind[HR]) λk k1 k2=>?_];simp only;by_cases ee:p'=p
   ·subst ee;have:=VL hi hi' (λq=>e (by omega));rw[JE (by omega),jH,jH]
   ·have h4':=nE (cA h p');rw[JE (by omega),jH,jH]
theorem aKY{p k:Nat}{c:Int}(hp:p<6)(hk:(k:Int)<cM c):a9H p k c=p*64+8+k*(aX c).toNat/\8+k*(aX c).toNat+4<=64:=by have hc:0<=c/\c<=2:=j6.1 (by omega);have h1:=aTZ (c:=c) hp hk;have hle:=nE c;have e:=h1.1;unfold iS at e;rw[aL (by omega)] at e;grind[aX,cM]
theorem a2G{b:List Int}{p:Nat}{c:Int}(hl:b.length=384)(hp:p<6)(hc:0<=c/\c<=2):∀k:Nat,(k:Int)<=cM c->∀j,(j<p*64\/p*64+64<=j->bt (gB b p c k) j=bt b j)/\(3<=j->j<8->bt (gB b p c k) (p*64+j)=bt b (p*64+j))/\bt (gB b p c k) (p*64)=171/\bt (gB b p c k) (p*64+1)=c/\bt (gB b p c k) (p*64+2)=cM c
 |0,hk,j=>by
  have key:∀i,bt (gB b p c 0) i=if i=p*64+2 then cM c else if i=p*64+1 then c else if i=p*64 then 171 else bt b i:=λi=>by grind[gB,O5]
  grind
 |k + 1,hk,j=>by
  have ih:=a2G hl hp hc k (by omega);have hoff:=aKY (c:=c) hp (by omega:(k:Int)<cM c);have hbl:=MA b p c k;unfold gB;refine⟨λh=>?_,λh1 h2=>?_,?_,?_,?_⟩
  ·rw[JE (by omega),jH,jH];grind
  ·rw[JE (by omega),jH,jH];grind
  ·rw[JE (by omega),jH,jH];exact(ih j).2.2.1
  ·rw[JE (by omega),jH,jH];exact(ih j).2.2.2.1
  ·rw[JE (by omega),jH,jH];exact(ih j).2.2.2.2
theorem a9K{b:List Int}{p:Nat}{c:Int}(hl:b.length=384)(hp:p<6):∀k:Nat,(k:Int)<=cM c->∀i,i<k->ld (gB b p c k) (p*64+8+i*(aX c).toNat) 4=1
 |0,_,i,h=>absurd h (by omega)
 |k + 1,hk,i,h=>by
  have hbl:=MA b p c k;have ho:=aKY (c:=c) hp (by omega:(k:Int)<cM c);unfold gB;by_cases e:i=k
  ·grind[aZI]
  ·have hoi:=aKY (c:=c) hp (by omega:(i:Int)<cM c);have ha:=VL (c:=c) (i:=i) (j:=k) (by omega) (by omega) e;rw[KE (b:=gB b p c k) (by omega) (by rw[HR]) λj j1 j2=>by rw[JE (by omega),jH,jH]];exact a9K hl hp k (by omega) i (by omega)
theorem ZI{h:Heap}(hs:fO h){B:List Int}{p q:Nat}(hq:q<6){c:Int}:cA ⟨B,h.Class.set p c⟩ q=if q=p then c else cA h q:=by have h6:=hs.2.1;grind[cA]
theorem XN.a9L{h:Heap}(hh:XN h){p:Nat}(hp:p<6)(hun:cA h p<0){c:Int}(hc:0<=c/\c<=2) :
  XN ⟨gB h.Bytes p c (cM c).toNat,h.Class.set p c⟩/\(∀t,(t/4).toNat≠p->bJ ⟨gB h.Bytes p c (cM c).toNat,h.Class.set p c⟩ t=bJ h t)/\(∀t,0<=bJ h t->(t/4).toNat≠p/\j7 ⟨gB h.Bytes p c (cM c).toNat,h.Class.set p c⟩ t=j7 h t) /\
   ∀i,i<(cM c).toNat->bJ ⟨gB h.Bytes p c (cM c).toNat,h.Class.set p c⟩ ((p:Int)*4+i)=c/\j7 ⟨gB h.Bytes p c (cM c).toNat,h.Class.set p c⟩ ((p:Int)*4+i)=1:=by
 obtain⟨hs,hpg⟩:=hh;have h384:=hs.1;have hle:=nE c;have hpn:((cM c).toNat:Int)<=cM c:=by omega
 have hb:=a2G h384 hp hc (cM c).toNat hpn;have hbl:=MA h.Bytes p c (cM c).toNat;have hs':fO ⟨gB h.Bytes p c (cM c).toNat,h.Class.set p c⟩:=⟨by simp only[hbl];exact h384,by simp only[cX];exact hs.2.1,aTY hs.2.2.1 p hc _,λx hx=>by
  rcases rJ hx with q|rfl
  ·exact hs.2.2.2 x q
  ·omega⟩
 have hcls:∀t:Int,(t/4).toNat≠p->bJ ⟨gB h.Bytes p c (cM c).toNat,h.Class.set p c⟩ t=bJ h t:=λt ht=>by
  unfold bJ;by_cases q:0<=t/\t<=23
  ·rw[ZI hs (by omega),aP ht]
  ·rw[aP (λz=>q z.1),aP (λz=>q z.1)]
 refine⟨⟨hs',λq hq=>?_⟩,hcls,λt ht=>?_,λi hi=>?_⟩
 ·rw[HT hs' hq];have hold:=(HT hs hq).1 (hpg q hq);by_cases e:q=p
  ·subst e;unfold aDC at hold ⊢;rw[aL hun] at hold;rw[ZI hs hq,aL rfl,jH];refine⟨(hb 0).2.2,λk k3 k8=>?_,λi hi=>?_⟩
   ·simp only;rw[(hb k).2.1 k3 k8];exact hold k (by omega)
   ·simp only;rw[a9K h384 hp _ hpn i hi];omega
  ·refine aDC.same hq hs (by simp only[hbl]) (by rw[ZI hs hq,aP e]) (λk hk=>?_) hold;exact(hb _).1 (by omega)
 ·obtain⟨p',i',p6',hi',es',ec',eo',ep'⟩:=qI ht;have hne:(t/4).toNat≠p:=λz=>by rw[ec',<-ep',z] at ht;omega
  refine⟨hne,?_⟩;have hz':=sP hs p6' rfl hi';unfold j7;rw[hcls t hne,KE (b:=h.Bytes) (by omega) (by simp only[hbl]) λk k1 k2=>(hb k).1 (by omega)]
 ·have e1:((p:Int)*4+i)/4=p:=by omega
  have e2:((p:Int)*4+i) % 4=i:=by omega
  have ec:bJ ⟨gB h.Bytes p c (cM c).toNat,h.Class.set p c⟩ ((p:Int)*4+i)=c:=by unfold bJ;rw[e1,e2,MR,ZI hs hp,aL rfl,aL (by omega)]
  refine⟨ec,?_⟩;unfold j7;rw[ec];have ho:=aKY (c:=c) hp (by omega:(i:Int)<cM c);have:(iS ((p:Int)*4+i) c).toNat=p*64+8+i*(aX c).toNat:=ho.1;rw[this];exact a9K h384 hp _ hpn i hi
def vU(m m':Mem)(k:Int):Prop:=lC m'/\∀s,dW m s=3->s≠k->dW m' s=3/\j7 m'.Heap s=j7 m.Heap s/\bJ m'.Heap s=bJ m.Heap s
theorem vU.refl{m:Mem}(h:lC m)(k:Int):vU m m k:=⟨h,λ_ h _=>⟨h,rfl,rfl⟩⟩
theorem vU.live{m m':Mem}{k h:Int}(q:vU m m' k)(hl:mN m h)(hn:h % 32≠k):mN m' h:=by obtain⟨h1,h2,h3⟩:=hl;obtain⟨a,b,_⟩:=q.2 _ h2 hn;exact⟨h1,a,by omega⟩
theorem QT{l:List bE}{k j:Nat}(hk:k<l.length){t:bE}:eT (l.set k t) j=if j=k then t.aT else eT l j:=by grind[eT]
theorem aRM{l:List bE}{k:Nat}(hk:k<l.length){t:bE}(ht:t.aT.Sublist l[k].aT):(fI (l.set k t)).Sublist (fI l):=by grind[JD,EW]
theorem HU{l:List bE}{k:Nat}(hk:k<l.length){xs:List Int}{s:Int}:s∈fI (l.set k ⟨l[k].aT++xs⟩)↔s∈fI l\/s∈xs:=by grind[JD,EW]
theorem ZJ{l:List bE}{k:Nat}(hk:k<l.length){xs r q:List Int}(h:(q++(fI l++r)).Nodup)(hx:xs.Nodup)(hd:∀x∈xs,x∉q++(fI l++r)):(q++(fI (l.set k ⟨l[k].aT++xs⟩)++r)).Nodup:=by
 have hp:(q++(fI (l.set k ⟨l[k].aT++xs⟩)++r)).Perm (xs++(q++(fI l++r))):=by rw[JD hk,EW hk];grind
 grind
theorem aFL{m m':Mem}{s:Int}(h1:bJ m'.Heap s=bJ m.Heap s)(h2:j7 m'.Heap s=j7 m.Heap s)(h3:s∈dY m'.aD↔s∈dY m.aD):dW m' s=dW m s:=by simp_all[dW]
theorem iK{m:Mem}{s:Int}:dW m s=3↔0<=bJ m.Heap s/\s∉dY m.aD/\j7 m.Heap s<=6:=by unfold dW;grind
section
variable {m:Mem} (hm:lC m)
include hm
theorem lC.bIL{k:Nat}(hk:k<9){t:bE}(ht:t.aT.Sublist (eT m.aD.Own k)):vU m ⟨m.Heap,⟨m.aD.Global,m.aD.Own.set k t⟩⟩ (-1):=by
 obtain⟨⟨hh,h3,h9,h2,hr,hn⟩,hg,ho⟩:=hm;have hk':k<m.aD.Own.length:=by omega
 have ht':t.aT.Sublist m.aD.Own[k].aT:=by grind[dK]
 have hsub:(dY ⟨m.aD.Global,m.aD.Own.set k t⟩).Sublist (dY m.aD):=(List.Sublist.refl _).append (aRM hk' ht');refine⟨⟨⟨hh,h3,by grind,λs hs=>?_,λx hx=>hr x (hsub.subset hx),hsub.nodup hn⟩,hg,λj hj=>?_⟩,λs hs _=>⟨?_,rfl,rfl⟩⟩
 ·grind
 ·unfold IA;simp only[QT hk'];split
  ·rename_i e;subst e;exact λx hx=>ho j hj x (ht.subset hx)
  ·exact ho j hj
 grind[iK]
theorem lC.a4U{k:Nat}(hk:k<3){t:bE}(ht:t.aT.Sublist (eT m.aD.Global k)):vU m ⟨m.Heap,⟨m.aD.Global.set k t,m.aD.Own⟩⟩ (-1):=by
 obtain⟨⟨hh,h3,h9,h2,hr,hn⟩,hg,ho⟩:=hm;have hk':k<m.aD.Global.length:=by omega
 have ht':t.aT.Sublist m.aD.Global[k].aT:=by grind[dK]
 have hsub:(dY ⟨m.aD.Global.set k t,m.aD.Own⟩).Sublist (dY m.aD):=(aRM hk' ht').append (List.Sublist.refl _);refine⟨⟨⟨hh,by grind,h9,h2,λx hx=>hr x (hsub.subset hx),hsub.nodup hn⟩,λj hj=>?_,ho⟩,λs hs _=>⟨?_,rfl,rfl⟩⟩
 ·unfold R4;simp only[QT hk'];split
  ·rename_i e;subst e;exact λx hx=>hg j hj x (ht.subset hx)
  ·exact hg j hj
 grind[iK]
theorem lC.bD0{k:Nat}(hk:k<9){xs:List Int}(hl:(eT m.aD.Own k).length+xs.length<=2)(hx:xs.Nodup)(hf:HN m.Heap xs ((k % 3:Nat):Int))(hd:∀x∈xs,x∉dY m.aD)(hk':k<m.aD.Own.length) :
  lC ⟨m.Heap,⟨m.aD.Global,m.aD.Own.set k ⟨m.aD.Own[k].aT++xs⟩⟩⟩/\∀s,s∉xs->dW m s=3->dW ⟨m.Heap,⟨m.aD.Global,m.aD.Own.set k ⟨m.aD.Own[k].aT++xs⟩⟩⟩ s=3:=by
 obtain⟨⟨hh,h3,h9,h2,hr,hn⟩,hg,ho⟩:=hm;have hmem:∀s,s∈dY ⟨m.aD.Global,m.aD.Own.set k ⟨m.aD.Own[k].aT++xs⟩⟩↔s∈dY m.aD\/s∈xs:=λs=>by simp[dY,HU,or_assoc]
 have hcl:∀x∈xs,0<=x/\x<=23:=λx h=>by have:=(hf x h).1;exact(rG (h:=m.Heap) (s:=x) (by omega)).1
 refine⟨⟨⟨hh,h3,by grind,λs hs=>?_,λx hx=>?_,?_⟩,hg,λj hj=>?_⟩,λs hs h3=>?_⟩
 ·grind[dK]
 ·grind
 ·have:=ZJ (q:=fI m.aD.Global) (r:=[]) hk' (by grind[dY]) hx (by grind[dY]);grind[dY]
 ·unfold IA;simp only[QT hk'];split
  ·rename_i e;subst e;intro x hx;rcases eD.1 hx with q|q
   ·rw[dK hk'] at q;exact ho j hj x q
   ·exact hf x q
  ·exact ho j hj
 grind[iK]
theorem lC.aN4{k:Nat}(hk:k<3){xs:List Int}(hx:xs.Nodup)(hf:HN m.Heap xs (k:Int))(hd:∀x∈xs,x∉dY m.aD)(hk':k<m.aD.Global.length) :
  lC ⟨m.Heap,⟨m.aD.Global.set k ⟨m.aD.Global[k].aT++xs⟩,m.aD.Own⟩⟩/\∀s,s∉xs->dW m s=3->dW ⟨m.Heap,⟨m.aD.Global.set k ⟨m.aD.Global[k].aT++xs⟩,m.aD.Own⟩⟩ s=3:=by
 obtain⟨⟨hh,h3,h9,h2,hr,hn⟩,hg,ho⟩:=hm;have hmem:∀s,s∈dY ⟨m.aD.Global.set k ⟨m.aD.Global[k].aT++xs⟩,m.aD.Own⟩↔s∈dY m.aD\/s∈xs:=λs=>by simp[dY,HU,or_right_comm]
 have hcl:∀x∈xs,0<=x/\x<=23:=λx h=>by have:=(hf x h).1;exact(rG (h:=m.Heap) (s:=x) (by omega)).1
 refine⟨⟨⟨hh,by grind,h9,h2,λx hx=>?_,?_⟩,λj hj=>?_,ho⟩,λs hs h3=>?_⟩
 ·grind
 ·have:=ZJ (q:=[]) (r:=fI m.aD.Own) hk' (by grind[dY]) hx (by grind[dY]);grind[dY]
 ·unfold R4;simp only[QT hk'];split
  ·rename_i e;subst e;intro x hx;rcases eD.1 hx with q|q
   ·rw[dK hk'] at q;exact hg j hj x q
   ·exact hf x q
  ·exact hg j hj
 grind[iK]
theorem lC.oZ{x:Int}(hx:x∈dY m.aD):0<=bJ m.Heap x/\j7 m.Heap x<=6:=by
 obtain⟨⟨hh,h3,h9,h2,hr,hn⟩,hg,ho⟩:=hm;have key:∀(l:List bE),x∈fI l->∃k,k<l.length/\x∈eT l k:=λl h=>by grind[aAJ,aBF,dK]
 rcases eD.1 hx with q|q
 ·obtain⟨k,hk,h⟩:=key _ q;have:=hg k (by omega) x h;omega
 ·obtain⟨k,hk,h⟩:=key _ q;have:=ho k (by omega) x h;omega
theorem lC.heap{h':Heap}(hh:XN h')(hs:∀x∈dY m.aD,bJ h' x=bJ m.Heap x/\j7 h' x=j7 m.Heap x):lC ⟨h',m.aD⟩:=by
 obtain⟨⟨_,hl⟩,hg,ho⟩:=hm;have key:∀(l:List bE) k x,x∈eT l k->x∈fI l:=λl k x h=>by grind[eT,aAJ]
 refine⟨⟨hh,hl⟩,λk hk x hx=>?_,λk hk x hx=>?_⟩
 ·obtain⟨a,b⟩:=hs x (aK8 _ (key _ k x hx));show bJ h' x=_/\j7 h' x<=6;rw[a,b];exact hg k hk x hx
 ·obtain⟨a,b⟩:=hs x (aK9 _ (key _ k x hx));show bJ h' x=_/\j7 h' x<=6;rw[a,b];exact ho k hk x hx
theorem lC.bNG{s g:Int}(hu:dW m s=3)(hg:1<=g/\g<=7):vU m ⟨⟨st4 m.Heap.Bytes (iS s (bJ m.Heap s)).toNat g,m.Heap.Class⟩,m.aD⟩ s/\j7 ⟨st4 m.Heap.Bytes (iS s (bJ m.Heap s)).toNat g,m.Heap.Class⟩ s=g:=by
 have hu':=iK.1 hu;obtain⟨a,b⟩:=XN.a9J hm.1.1 hu'.1 hg;refine⟨⟨lC.heap hm a λx hx=>⟨rfl,?_⟩,λt ht hn=>?_⟩,by grind⟩
 ·rw[b x (lC.oZ hm hx).1,aP (show ¬x=s from λe=>hu'.2.1 (e ▸ hx))]
 ·have ht':=iK.1 ht;have e:j7 ⟨st4 m.Heap.Bytes (iS s (bJ m.Heap s)).toNat g,m.Heap.Class⟩ t=j7 m.Heap t:=by grind
  exact⟨iK.2 ⟨ht'.1,ht'.2.1,by grind⟩,e,rfl⟩
theorem lC.bK5{p:Nat}(hp:p<6)(hun:cA m.Heap p<0){c:Int}(hc:0<=c/\c<=2){xs:List Int}(hxs:∀x∈xs,∃i,i<(cM c).toNat/\x=(p:Int)*4+(i:Nat))(hx:xs.Nodup)(hk':c.toNat<m.aD.Global.length) :
  vU m ⟨⟨gB m.Heap.Bytes p c (cM c).toNat,m.Heap.Class.set p c⟩,⟨m.aD.Global.set c.toNat ⟨m.aD.Global[c.toNat].aT++xs⟩,m.aD.Own⟩⟩ (-1):=by
 obtain⟨a,b,d,e⟩:=XN.a9L hm.1.1 hp hun hc;have h1:lC ⟨⟨gB m.Heap.Bytes p c (cM c).toNat,m.Heap.Class.set p c⟩,m.aD⟩:=lC.heap hm a λx hx=>by grind[lC.oZ]
 have hno:∀x∈xs,¬0<=bJ m.Heap x:=λx h q=>by obtain⟨i,hi,rfl⟩:=hxs x h;have h4:=nE c;exact(d _ q).1 (by omega)
 obtain⟨f,g⟩:=lC.aN4 h1 (k:=c.toNat) (by omega) hx (λx h=>by
  obtain⟨i,hi,rfl⟩:=hxs x h
  (simp_all;omega)) (λx h q=>hno x h (lC.oZ hm q).1) hk'
 refine⟨f,λs hs _=>?_⟩;grind[iK]
end
theorem a9M{p n:Nat}{x:Int}(h:x∈gS p n):∃i,i<n/\x=(p:Int)*4+(i:Nat):=by grind[gS]
theorem aWH(p n:Nat):(gS p n).Nodup:=by grind[gS,List.nodup_range]
theorem aWI{m:Mem}(hm:lC m){c:Int}(hc:0<=c/\c<=2) :
  ∃m' s,G9 m c=some (m',s)/\M6 m c=some (m',s)/\D7 m'/\(0<=s->fO m'.Heap/\0<=bJ m'.Heap s)/\vU m m' (-1):=by
 have hl:=hm.1.2;have hcnt:=hl.count;have hs:=hm.1.1.1;have hsl:=hl.aRI (by omega);have hp4:=nE c;have hpp:0<cM c:=j6.2 hc;have hall:=vS m.aD;have hsG:∀s∈m.aD.Global,s.aT.length<=24:=λs h=>by have:=K9 h;omega
 have hsO:∀s∈m.aD.Own,s.aT.length<=24:=λs h=>by have:=K9 h;omega
 have h3:=hl.1;have h9:=hl.2.1;have hcpl:=R6 (l:=m.aD) (by omega) (by omega) (λs h=>by grind) (λs h=>by grind);unfold G9 M6;rcases a9I hm.1.1 hc with ⟨e1,e2⟩|⟨p,hp,hun,e1,e2⟩
 ·rw[e1,e2,hcpl];have h1:=hs.1;have h2:=hs.2.1;exact⟨_,_,rfl,rfl,⟨by grind,by grind,by grind,by grind,by grind⟩,λh=>absurd h (by omega),vU.refl hm _⟩
 ·rw[e1,e2,hcpl];simp only[aJ,LM,LL,LZ,aHB];have hn:(((cM c).toNat:Int) == 0)=false:=by grind
  have hk:c.toNat<m.aD.Global.length:=by omega
  have hg0:=hsG _ (dJ hk);have hx:idx m.aD.Global c=some m.aD.Global[c.toNat]:=gX hc.1 (by omega);have hz:idx (gS p (cM c).toNat) 0=some ((p:Int)*4):=by grind[aV,gS]
  have hlen:(List.drop (1:Int).toNat (List.take (cM c).toNat (gS p (cM c).toNat))).length<=4:=by grind
  simp only[hn,bO,bM,hx,aJ,hz];rw[R1,R1];have hcl:cA ⟨gB m.Heap.Bytes p c (cM c).toNat,m.Heap.Class.set p c⟩ p=c:=by grind[cA]
  refine⟨_,_,rfl,rfl,⟨by simp only[MA];have:=hs.1;omega,by simp only[cX];have:=hs.2.1;omega,by grind,by grind,?_⟩,λ_=>⟨⟨by simp only[MA];exact hs.1,by simp only[cX];exact hs.2.1,aTY hs.2.2.1 p hc _,λx hx=>?_⟩,?_⟩,?_⟩
  ·grind[vS,aDB]
  ·rcases rJ hx with h|rfl
   ·exact hs.2.2.2 x h
   ·omega
  ·unfold bJ
   (simp_all;omega)
  grind[lC.bK5,a9M,aWH]
theorem aZJ(n:Int):∃c,G7 n=some c/\M3 n=some c/\(c = -1\/(0<=c/\c<=2)):=by
 have s1:∀k,0<=k/\k<=2->fZ n k=some (if 1<=n/\n<=jC k then .stop (Out.ret k) else .next (k+1)):=λk hk=>by simp only[fZ];rw[dM,Y5,aJ,dO,aJ,eB];grind
 have s2:∀k,0<=k/\k<=2->kP n k=some (if 1<=n/\n<=jC k then .stop (Out.ret k) else .next (k+1)):=λk hk=>by simp only[kP,CU];rw[dM,Y6,aJ,eB];grind
 have st:∀k,0<=k/\k<=2->1<=n/\n<=jC k->loop (fZ n) k=some (Out.ret k)/\loop (kP n) k=some (Out.ret k):=λk hk h=>
  ⟨bD (by grind),bD (by grind)⟩
 have nx:∀k,0<=k/\k<=2->¬(1<=n/\n<=jC k)->loop (fZ n) k=loop (fZ n) (k+1)/\loop (kP n) k=loop (kP n) (k+1):=λk hk h=>
  ⟨bG (by grind),bG (by grind)⟩
 unfold G7 M3;by_cases q0:1<=n/\n<=jC 0
 ·have:=st 0 (by omega) q0;rw[this.1,this.2];exact⟨_,rfl,rfl,.inr (by omega)⟩
 ·have h0:=nx 0 (by omega) q0;rw[h0.1,h0.2,show(0:Int)+1=1 from rfl];by_cases q1:1<=n/\n<=jC 1
  ·have:=st 1 (by omega) q1;rw[this.1,this.2];exact⟨_,rfl,rfl,.inr (by omega)⟩
  ·have h1:=nx 1 (by omega) q1;rw[h1.1,h1.2,show(1:Int)+1=2 from rfl];by_cases q2:1<=n/\n<=jC 2
   ·have:=st 2 (by omega) q2;rw[this.1,this.2];exact⟨_,rfl,rfl,.inr (by omega)⟩
   ·have h2:=nx 2 (by omega) q2;rw[h2.1,h2.2,show(2:Int)+1=3 from rfl,bD (body:=fZ n) (r:=Out.brk ()) (by simp[fZ]),bD (body:=kP n) (r:=Out.brk ()) (by simp[kP])];exact⟨_,rfl,rfl,.inl rfl⟩
theorem a9N{s:bE}(hl:s.aT.length<=1048576):∃t x,uB s=some (t,x)/\xS s=some (x,t)/\t.aT.length<=s.aT.length/\(0<=x->x∈s.aT)/\t.aT.Sublist s.aT:=by
 unfold uB xS RR;rw[eB];by_cases q:s.aT.length=0
 ·rw[aL (by grind),dM];grind
 ·have hx:idx s.aT ((s.aT.length:Int)-1)=some (s.aT[s.aT.length-1]'(by omega)):=by grind[aV]
  rw[aP (by grind),Y4,R1,hx];simp only[aJ];grind[bY]
theorem TX{w c:Int}(hw:0<=w/\w<=2)(hc:0<=c/\c<=2):yP w c=some (w*3+c)/\OB w c=some (w*3+c):=by grind[cC,yP,BU,dO,OB,JR,nL,kR]
theorem aN5{l:List bE}{k:Nat}(hk:k<l.length){t:bE}(ht:t.aT.length<=l[k].aT.length):(fI (l.set k t)).length<=(fI l).length:=by grind[JD,EW]
section
variable {m:Mem} (hm:lC m)
include hm
theorem lC.facts:(dY m.aD).length<=24/\m.aD.Global.length=3/\m.aD.Own.length=9/\m.Heap.Bytes.length=384/\m.Heap.Class.length=6/\D7 m/\i6 m.aD=some m.aD/\pP m.aD=some true /\
  (∀s∈m.aD.Global,s.aT.length<=24)/\(∀s∈m.aD.Own,s.aT.length<=24):=by
 have hl:=hm.1.2;have hcnt:=hl.count;have hall:=vS m.aD;have hsG:∀s∈m.aD.Global,s.aT.length<=24:=λs h=>by have:=K9 h;omega
 have hsO:∀s∈m.aD.Own,s.aT.length<=24:=λs h=>by have:=K9 h;omega
 have h3:=hl.1;have h9:=hl.2.1;have h1:=hm.1.1.1.1;have h2:=hm.1.1.1.2.1;refine⟨hcnt,h3,h9,h1,h2,⟨by omega,by omega,by omega,by omega,by omega⟩,R6 (by omega) (by omega) (λs h=>by grind) (λs h=>by grind),by grind[W6],hsG,hsO⟩
theorem aN6{w c:Int}(hw:0<=w/\w<=2)(hc:0<=c/\c<=2) :
  ∃l t x,idx m.aD.Own (w*3+c)=some l/\uB l=some (t,x)/\M4 m.aD w c=some (⟨m.aD.Global,m.aD.Own.set (w*3+c).toNat t⟩,x) /\
   D7 ⟨m.Heap,⟨m.aD.Global,m.aD.Own.set (w*3+c).toNat t⟩⟩/\(0<=x->0<=bJ m.Heap x)/\vU m ⟨m.Heap,⟨m.aD.Global,m.aD.Own.set (w*3+c).toNat t⟩⟩ (-1):=by
 obtain⟨hcnt,h3,h9,h1,h2,hsm,hcp,hlo,hsG,hsO⟩:=lC.facts hm;have hk:(w*3+c).toNat<m.aD.Own.length:=by omega
 have hx:idx m.aD.Own (w*3+c)=some m.aD.Own[(w*3+c).toNat]:=gX (by omega) (by omega);have h24:=hsO _ (dJ hk);obtain⟨t,x,e1,e2,ht,hmem,hsub⟩:=a9N (s:=m.aD.Own[(w*3+c).toNat]) (by omega);have hall:=vS m.aD;refine⟨_,t,x,hx,e1,?_,⟨by grind,by grind,by grind,by grind,?_⟩,λh0=>?_,lC.bIL hm (by omega) (by grind[dK])⟩
 ·unfold M4 CX;rw[hcp,(TX hw hc).2,hlo];grind
 ·grind[aN5,vS]
 ·have:=hm.2.2 (w*3+c).toNat (by omega) x (by grind[dK]);omega
theorem aB6{c:Int}(hc:0<=c/\c<=2) :
  ∃l t x,idx m.aD.Global c=some l/\uB l=some (t,x)/\CY m.aD c=some (⟨m.aD.Global.set c.toNat t,m.aD.Own⟩,x) /\
   D7 ⟨m.Heap,⟨m.aD.Global.set c.toNat t,m.aD.Own⟩⟩/\(0<=x->0<=bJ m.Heap x)/\vU m ⟨m.Heap,⟨m.aD.Global.set c.toNat t,m.aD.Own⟩⟩ (-1):=by
 obtain⟨hcnt,h3,h9,h1,h2,hsm,hcp,hlo,hsG,hsO⟩:=lC.facts hm;have hk:c.toNat<m.aD.Global.length:=by omega
 have hx:idx m.aD.Global c=some m.aD.Global[c.toNat]:=gX (by omega) (by omega);have h24:=hsG _ (dJ hk);obtain⟨t,x,e1,e2,ht,hmem,hsub⟩:=a9N (s:=m.aD.Global[c.toNat]) (by omega);have hall:=vS m.aD;refine⟨_,t,x,hx,e1,?_,⟨by grind,by grind,by grind,by grind,?_⟩,λh0=>?_,lC.a4U hm (by omega) (by grind[dK])⟩
 ·simp_all[CY,tJ,kR]
 ·grind[aN5,vS]
 ·have:=hm.2.1 c.toNat (by omega) x (by grind[dK]);omega
theorem aKZ{w h:Int}(hw:0<=w/\w<=2)(hv:mN m h):∃m',K0 m w (h % 32)=some m'/\OG m w h=some m'/\D7 m'/\vU m m' (h % 32):=by
 obtain⟨hcnt,h3,h9,h1,h2,hsm,hcp,hlo,hsG,hsO⟩:=lC.facts hm;have hs:=hm.1.1.1;have hh:=hv.1;have hhm:=hh.mod;have hcl:=dL hv.2.1;have hgo:=aAG hcl;have hc2:0<=bJ m.Heap (h % 32)/\bJ m.Heap (h % 32)<=2:=by obtain⟨_,q,e⟩:=rG hcl;rw[e];exact j6.1 (by omega)
 have hg6:1<=h/32/\h/32<=6:=by grind[kU]
 have hbl:m.Heap.Bytes.length<=maxLen:=by grind[maxLen]
 have hnot:h % 32∉dY m.aD:=λq=>by have:=hv.2.1;simp_all[dW,aP]
 have hcpH:=VJ (h:=m.Heap) (by omega) (by omega);have eo:iS (h % 32) (bJ m.Heap (h % 32))=(((iS (h % 32) (bJ m.Heap (h % 32))).toNat:Nat):Int):=by omega
 have ew:bA (h/32+1)=h/32+1:=eB;have ed:bA (Int.tdiv h 32)=h/32:=by grind[cC]
 have hall:=vS m.aD;obtain⟨hr1,hr2⟩:=lC.bNG hm hv.2.1 (g:=h/32+1) (by omega);have hu:=iK.1 hv.2.1;unfold K0 OG X7 FW;rw[hhm.1,vR hs,hcpH,O1 hbl,cD hs,kS hs,ed,ew,hcp];simp only[aJ,i5,bO,bM,OF,F9,OE];rw[qT hs hcl,hv.2.2,dI,eU (show ¬bJ m.Heap (h % 32)<0 by omega),cD (show 1<=h/32+1/\h/32+1<=7 by omega)];simp only[aJ,i5,bO,bM,wH,CD,ew];generalize hgn:(iS (h % 32) (bJ m.Heap (h % 32))).toNat=a at eo;rw[hgn] at hr1 hr2;rw[eo,L9 (by omega) (by omega) (by omega),aB5 (by omega)];simp only[aJ];rw[ZH (by omega) (by omega) (by omega)];simp only[aJ,OO,RL,ed,ew,hhm.1];by_cases q:h/32+1<=6
 ·have hk:(w*3+bJ m.Heap (h % 32)).toNat<m.aD.Own.length:=by omega
  have hx:idx m.aD.Own (w*3+bJ m.Heap (h % 32))=some m.aD.Own[(w*3+bJ m.Heap (h % 32)).toNat]:=gX (by omega) (by omega);have hk2:(bJ m.Heap (h % 32)).toNat<m.aD.Global.length:=by omega
  have hx2:idx m.aD.Global (bJ m.Heap (h % 32))=some m.aD.Global[(bJ m.Heap (h % 32)).toNat]:=gX (by omega) (by omega);have b1:=hsO _ (dJ hk);have b2:=hsG _ (dJ hk2);rw[cD q,aL rfl,aL rfl];unfold YN aGJ zP;rw[kS hs,aJ,hcp,(TX hw hc2).1,(TX hw hc2).2,hlo,zA,cD (show 0<=h % 32/\h % 32<=23 by omega),ZF (by omega) (by omega) (by omega),eU hnot];simp only[aJ,i5,bO,bM,hx,hx2];have nz:¬w*3+bJ m.Heap (h % 32)<0:=by omega
  simp only[eU nz,bO,bM];by_cases q2:m.aD.Own[(w*3+bJ m.Heap (h % 32)).toNat].aT.length<2
  ·have y1:(m.aD.Own[(w*3+bJ m.Heap (h % 32)).toNat].aT.length:Int)<2:=by omega
   have y2:¬(2:Int)<=m.aD.Own[(w*3+bJ m.Heap (h % 32)).toNat].aT.length:=by omega
   simp only[cD y1,eU y2,bO,bM,bU];rw[R0,R0];refine⟨_,rfl,rfl,⟨by grind[HR],by grind,by grind,by grind,?_⟩,?_⟩
   ·grind[vS,aDB]
   ·have hmod:((w*3+bJ m.Heap (h % 32)).toNat % 3:Nat)=(bJ m.Heap (h % 32)).toNat:=by omega
    obtain⟨z1,z2⟩:=lC.bD0 hr1.1 (k:=(w*3+bJ m.Heap (h % 32)).toNat) (by omega) (xs:=[h % 32]) (by grind[dK]) (by simp) (λx hx=>by
     simp at hx;subst hx;exact⟨by rw[hmod];show bJ m.Heap (h % 32)=_;omega,by grind⟩) (λx hx=>by grind) hk
    refine⟨z1,λs h1 h2=>?_⟩;obtain⟨y1,y2,y3⟩:=hr1.2 s h1 h2;grind
  ·have y1:¬(m.aD.Own[(w*3+bJ m.Heap (h % 32)).toNat].aT.length:Int)<2:=by omega
   have y2:(2:Int)<=m.aD.Own[(w*3+bJ m.Heap (h % 32)).toNat].aT.length:=by omega
   simp only[cD y2,eU y1,bO,bM,bU];rw[R0,R0];refine⟨_,rfl,rfl,⟨by grind[HR],by grind,by grind,by grind,?_⟩,?_⟩
   ·grind[vS,aDB]
   ·obtain⟨z1,z2⟩:=lC.aN4 hr1.1 (k:=(bJ m.Heap (h % 32)).toNat) (by omega) (xs:=[h % 32]) (by simp) (λx hx=>by
     simp at hx;subst hx;exact⟨by show bJ m.Heap (h % 32)=_;omega,by grind⟩) (λx hx=>by grind) hk2
    refine⟨z1,λs h1 h2=>?_⟩;obtain⟨y1,y2,y3⟩:=hr1.2 s h1 h2;grind
 ·rw[eU q,g7,g7];refine⟨_,rfl,rfl,⟨by grind[HR],by grind,by grind,by grind,by(simp_all;omega)⟩,hr1⟩
end
theorem alloc_eq{b:aA}(hm:lC b.Mem){w:Int}(hw:0<=w/\w<=2)(s:Sub) :
  ∃x y,B7 b w s=some (x,y)/\tK s b w=some (y,x)/\∃m',x=⟨m',b.aC,b.aM,b.oR⟩/\D7 m'/\vU b.Mem m' (-1):=by
 have hsm:=(lC.facts hm).2.2.2.2.2.1;have hs:=hm.1.1.1;obtain⟨c,ec,ei,hcc⟩:=aZJ s.A;unfold B7 tK;rw[ec,ei];simp only[aJ];by_cases c0:c<0
 ·simp only[cD c0,bU,bT,bL];exact⟨_,_,rfl,rfl,_,rfl,hsm,vU.refl hm _⟩
 have hc:0<=c/\c<=2:=by omega
 simp only[eU c0,bO,bM];have fin:∀(m':Mem) (x:Int),D7 m'->vU b.Mem m' (-1)->(0<=x->fO m'.Heap/\0<=bJ m'.Heap x) ->
   ∃X Y,j4 s x ⟨m',b.aC,b.aM,b.oR⟩=some (X,Y)/\i4 s x ⟨m',b.aC,b.aM,b.oR⟩=some (Y,X)/\∃m',X=⟨m',b.aC,b.aM,b.oR⟩/\D7 m'/\vU b.Mem m' (-1):=by
  intro m' x hs' hst hx;unfold j4 i4;simp only[z8,UY,bT,bL];by_cases x0:0<=x
  ·obtain⟨h,e1,e2⟩:=a4T (m:=m') (hx x0).1 (hx x0).2;rw[eU (show ¬x<0 by omega),cD x0];simp only[bO,bM,bU,e1,e2,aJ];grind
  ·rw[cD (show x<0 by omega),eU x0];by_cases p3:s.Pc=3
   ·simp only[p3,beq_self_eq_true,bU,bO,bM,aJ];grind
   ·have p3':(s.Pc == 3)=false:=by grind
    simp only[p3',bU,bO,bM,aJ];grind
 by_cases p0:s.Pc=0
 ·obtain⟨l,t,x,e1,e2,e3,h1,h2,h3⟩:=aN6 hm hw hc;simp_all[TX]
 ·have p0':(s.Pc == 0)=false:=by grind
  simp only[p0',bO,bM,AA,oE];obtain⟨l,t,x,e1,e2,e3,h1,h2,h3⟩:=aB6 hm hc;by_cases p1:s.Pc=1
  ·simp_all
  ·have p1':(s.Pc == 1)=false:=by grind
   simp only[p1',bO,bM];by_cases p3:s.Pc=3
   ·simp_all
   ·have p3':(s.Pc == 3)=false:=by grind
    simp only[p3',bO,bM];by_cases p2:s.Pc=2
    ·obtain⟨m',x,e1,e2,h1,h2,h3⟩:=aWI hm hc;simp_all
    ·have p2':(s.Pc == 2)=false:=by grind
     simp only[p2',bO,bM,bT,bL];exact⟨_,_,rfl,rfl,_,rfl,hsm,vU.refl hm _⟩
theorem a2H(r:dR)(e:Int):∃v,NW r e=some v/\S7 r e=some v:=by
 unfold NW S7 NP M8;by_cases h:2<=e
 ·simp only[cD h,bU];exact⟨_,rfl,rfl⟩
 ·simp only[eU h,bO,bM];exact⟨_,rfl,rfl⟩
theorem bD1{b:aA}{w:Int}{l:bN}(hx:idx b.aM w=some l)(hl:l.Rows.length<=1000)(s:Sub) :
  (AB l.Rows s.Row s.E=some (-1)/\pW s b w=(bL s 0).bind λx=>some (x,b)) \/
  ∃k,∃h:k<l.Rows.length,AB l.Rows s.Row s.E=some (k:Int)/\pW s b w=some (⟨s.Kind,s.A,2,s.E,(k:Int),0,l.Rows[k].Handle,s.Out,s.Code,s.gL⟩,b):=by
 have key:∀d k,k+d=l.Rows.length ->
   (loop (fK l.Rows s.E) (k:Int)=some (Out.brk ())/\loop (fM s b w) (k:Int)=some (Out.brk ())) \/
   ∃j,∃h:j<l.Rows.length,loop (fK l.Rows s.E) (k:Int)=some (Out.ret (j:Int))/\loop (fM s b w) (k:Int)=some (Out.ret (⟨s.Kind,s.A,2,s.E,(j:Int),0,l.Rows[j].Handle,s.Out,s.Code,s.gL⟩,b)):=by
  intro d;induction d with
  |zero=>
   simp_all[bD,fK,fM]
  |succ d ih=>
   intro k hk;have hk':k<l.Rows.length:=by omega
   obtain⟨v,e1,e2⟩:=a2H l.Rows[k] s.E;cases v with
   |true=>
    right;refine⟨k,hk',bD ?_,bD ?_⟩
    ·simp only[fK];rw[dM,aV hk',aJ,e1];rfl
    ·simp only[fM,hx,aJ];rw[dM,aV hk',aJ,e2];rfl
   |false=>
    have n1:fK l.Rows s.E (k:Int)=some (.next ((k+1:Nat):Int)):=by simp only[fK];rw[dM,aV hk',aJ,e1,aJ,eB];rfl
    have n2:fM s b w (k:Int)=some (.next ((k+1:Nat):Int)):=by simp only[fM,hx,aJ];rw[dM,aV hk',aJ,e2,aJ,eB];rfl
    rw[bG n1,bG n2];exact ih (k+1) (by omega)
 unfold AB pW;have hst:∃i:Nat,(if 0<s.Row then s.Row else 0)=(i:Int)/\(if s.Row<0 then 0 else s.Row)=(i:Int):=by refine⟨s.Row.toNat,?_,?_⟩<;>split<;>omega
 obtain⟨i,i1,i2⟩:=hst;rw[i1,i2];by_cases hi:i<=l.Rows.length
 ·rcases key (l.Rows.length-i) i (by omega) with ⟨a,c⟩|⟨j,hj,a,c⟩
  ·left;rw[a,c];exact⟨rfl,rfl⟩
  ·right;rw[a,c];exact⟨j,hj,rfl,rfl⟩
 ·left;rw[bD (body:=fK l.Rows s.E) (r:=Out.brk ()) (by simp only[fK];grind),
   bD (body:=fM s b w) (r:=Out.brk ()) (by simp only[fM,hx,aJ];grind)]
  exact⟨rfl,rfl⟩
theorem del_eq{O:Type}{l:List O}{k:Nat}(h:k<l.length):((cW l k (l.drop (k+1))).take (k+(l.length-(k+1)))).drop 0=l.eraseIdx k:=by grind[cW,aHU]
theorem aN7{O:Type}{l:List O}{k:Nat}(h:k<l.length):l.Perm (l[k]::l.eraseIdx k):=by grind[AG,aBH,List.eraseIdx_eq_take_drop_succ,List.perm_middle]
theorem qV.drop{b:List bN}(hL:qV b){w:Nat}(hw:w<b.length):∀k (hk:k<b[w].Rows.length),qV (b.set w ⟨b[w].Rows.eraseIdx k⟩)/\∀r∈bX (b.set w ⟨b[w].Rows.eraseIdx k⟩),r∈bX b/\r.Handle % 32≠b[w].Rows[k].Handle % 32:=by
 intro k hk;have hsub:(bX (b.set w ⟨b[w].Rows.eraseIdx k⟩)).Sublist (bX b):=by grind[NX,LA]
 have hnd:=hL.2.2.2;refine⟨⟨by simpa using hL.1,mC hsub.length_le hL.2.1,λr hr=>hL.2.2.1 r (hsub.subset hr),(hsub.map oD).nodup hnd⟩,λr hr=>⟨hsub.subset hr,?_⟩⟩;have hp:(bX b).Perm (b[w].Rows[k]::bX (b.set w ⟨b[w].Rows.eraseIdx k⟩)):=by rw[NX hw,LA hw];refine List.Perm.trans (List.Perm.append_left _ (List.Perm.append_right _ (aN7 hk))) ?_;simp
 grind[oD]
theorem aZK{b:aA}(hb:kW b){w:Int}(hw:0<=w/\w<=2)(s:Sub) :
  ∃x y,vN b w s=some (x,y)/\pX s b w=some (y,x)/\∃m' L,x=⟨m',b.aC,L,b.oR⟩/\D7 m'/\lC m'/\qV L/\∀r∈bX L,mN m' r.Handle/\r.aE<=b.aC.aE:=by
 have hm:=hb.1.1;have hL:=hb.1.2.2.1;have hZ:=hb.1.2.2.2;have hsm:=(lC.facts hm).2.2.2.2.2.1;have hlen:w.toNat<b.aM.length:=by have:=hL.1;omega
 have hx:idx b.aM w=some b.aM[w.toNat]:=gX hw.1 (by omega);have hrow:=hL.small.2.2.2 _ (dJ hlen);have hmemL:b.aM[w.toNat]∈b.aM:=dJ hlen;have hset:=qV.drop hL hlen;generalize b.aM[w.toNat]=l at hx hrow hset hmemL;have done:∀y:Sub,∃x z,(some (b,y):Option (aA×Sub))=some (x,z)/\(some (y,b):Option (Sub×aA))=some (z,x)/\∃m' L,x=⟨m',b.aC,L,b.oR⟩/\D7 m'/\lC m'/\qV L/\∀r∈bX L,mN m' r.Handle/\r.aE<=b.aC.aE:=
  λy=>⟨_,_,rfl,rfl,b.Mem,b.aM,rfl,hsm,hm,hL,hb.2⟩
 have hw1:bA ((l.Rows.length:Int)-1)=(l.Rows.length:Int)-1:=eB;have hhas:KQ b.aM w s.Row=some (decide (0<=s.Row/\s.Row<=(l.Rows.length:Int)-1)):=by simp_all[KQ,GA,nL,dI]
 unfold vN pX;rw[hhas,hx];simp only[aJ,bT,dO,hw1];have hat:∃a:Bool,(if decide (0<=s.Row/\s.Row<=(l.Rows.length:Int)-1)=true then(idx l.Rows s.Row).bind λx15=>gD s b w (x15.Handle == s.H) else gD s b w false)=gD s b w a /\
   (if(!decide (0<=s.Row/\s.Row<=(l.Rows.length:Int)-1))=true then fV b s true else(idx l.Rows s.Row).bind λx11=>fV b s (x11.Handle != s.H))=fV b s (!a) /\
   (a=true->∃r,r∈l.Rows/\idx l.Rows s.Row=some r/\r.Handle=s.H/\0<=s.Row/\s.Row<l.Rows.length) /\
   (a=false->∀f:dR->Option (aA×Sub),(if(!decide (0<=s.Row/\s.Row<=(l.Rows.length:Int)-1))=true then fW b w s l true else(idx l.Rows s.Row).bind λx=>if(x.Handle != s.H)=true then fW b w s l true else f x)=fW b w s l true):=by
  by_cases q:0<=s.Row/\s.Row<=(l.Rows.length:Int)-1
  ·have hr:idx l.Rows s.Row=some (l.Rows[s.Row.toNat]'(by omega)):=gX q.1 (by omega);by_cases q2:(l.Rows[s.Row.toNat]'(by omega)).Handle=s.H
   ·refine⟨true,?_,?_,λ_=>⟨_,dJ _,hr,q2,q.1,by omega⟩,λh=>by cases h⟩
    ·rw[cD q,aL rfl,hr,aJ,q2,beq_self_eq_true]
    ·rw[cD q,g7,hr,aJ,q2,bne_self_eq_false];rfl
   ·have n1:((l.Rows[s.Row.toNat]'(by omega)).Handle == s.H)=false:=by simpa using q2
    have n2:((l.Rows[s.Row.toNat]'(by omega)).Handle != s.H)=true:=by simpa using q2
    refine⟨false,?_,?_,(λh=>by cases h),λ_ f=>?_⟩
    ·rw[cD q,aL rfl,hr,aJ,n1]
    ·rw[cD q,g7,hr,aJ,n2];rfl
    ·rw[cD q,g7,hr,aJ,n2,aL rfl]
  simp_all[eU]
 obtain⟨a,ha1,ha2,ha3,ha4⟩:=hat;rw[ha1,ha2];unfold gD;by_cases p0:s.Pc=0
 ·simp_all
 have p0':(s.Pc == 0)=false:=by grind
 simp only[p0',bO,bM];by_cases p1:s.Pc=1
 ·simp only[p1,beq_self_eq_true,bU];rcases bD1 hx (by omega) s with ⟨e1,e2⟩|⟨k,hk,e1,e2⟩
  ·simp_all[bL]
  simp_all[aP,aV]
 have p1':(s.Pc == 1)=false:=by grind
 simp only[p1',bO,bM];by_cases p2:s.Pc=2
 ·simp only[p2,beq_self_eq_true,bU,nL,aJ];by_cases hB:0<=s.B/\s.B<=2
  ·rw[cD hB];simp only[i5,bO,bM,bU];cases a with
   |true=>
    have hz:idx b.oR s.B=some (b.oR[s.B.toNat]'(by have:=hZ.1;omega)):=gX hB.1 (by have:=hZ.1;omega);simp only[fV,fC,i5,bO,bM,bU,hz,aJ,uF];by_cases q:(b.oR[s.B.toNat]'(by grind))=s.H
    ·simp_all
    ·have q':((b.oR[s.B.toNat]'(by grind)) == s.H)=false:=by grind
     simp only[q',bO,bM];by_cases q3:bA (s.B+1)=3
     ·simp_all
     simp_all
   |false=>
    simp_all[fV,fC,dN,bT,bL]
  simp_all[eU,fV,fC,dN,bT,bL]
 have p2':(s.Pc == 2)=false:=by grind
 simp only[p2',bO,bM,fC];by_cases p3:s.Pc=3
 ·simp only[p3,beq_self_eq_true,bU];cases a with
  |false=>
   rw[ha4 rfl];simp_all[fW,dN,bT,bL]
  |true=>
   obtain⟨r,hrm,hr,hrH,r0,r1⟩:=ha3 rfl;obtain⟨v,e1,e2⟩:=a2H r s.E;rw[cD (show 0<=s.Row/\s.Row<=(l.Rows.length:Int)-1 by omega)];simp only[i5,bO,bM,bU,hr,aJ,hrH,bne_self_eq_false,hx,e1,e2];cases v with
   |false=>
    simp_all[fW,dN,bT,bL]
   |true=>
    have hlive:mN b.Mem s.H:=by have:r∈bX b.aM:=aHS.2 ⟨l,hmemL,hrm⟩;have:=(hb.2 r this).1;grind
    obtain⟨m',f1,f2,f3,f4⟩:=aKZ hm hw hlive;have ew:bA (s.Row+1)=s.Row+1:=eB;have hdrop:M9 b.aM w s.Row=some (b.aM.set w.toNat ⟨((cW l.Rows s.Row.toNat (l.Rows.drop (s.Row+1).toNat)).take (s.Row.toNat+(l.Rows.length-(s.Row+1).toNat))).drop 0⟩,true):=by
     unfold M9 C1;rw[R7 hL.small.2.2.1 (λs h=>by have:=hL.small.2.2.2 s h;omega),DK hL.small.1,cD hL,hhas,cD (show 0<=s.Row/\s.Row<=(l.Rows.length:Int)-1 by omega)];simp only[aJ,i5,bO,bM,hx,ew];unfold DT;rw[R1,Y4,R1,R1,R1,bY]
     ·rfl
     grind[eN]
    simp only[fW,dN,D4,ew,i5,bO,bM,bU];rw[R1,R1,R1,iJ,aL hlive.1,aJ,f1,f2,hdrop];have hk:s.Row.toNat<l.Rows.length:=by omega
    have eL:((cW l.Rows s.Row.toNat (l.Rows.drop (s.Row+1).toNat)).take (s.Row.toNat+(l.Rows.length-(s.Row+1).toNat))).drop 0=l.Rows.eraseIdx s.Row.toNat:=by rw[show(s.Row+1).toNat=s.Row.toNat+1 by omega];exact del_eq hk
    have er:l.Rows[s.Row.toNat]=r:=by grind[aV]
    rw[eL] at hdrop ⊢;obtain⟨g1,g2⟩:=hset s.Row.toNat hk;refine⟨_,_,rfl,rfl,m',_,rfl,f3,f4.1,g1,λq hq=>?_⟩;obtain⟨g3,g4⟩:=g2 q hq;obtain⟨g5,g6⟩:=hb.2 q g3;refine⟨f4.live g5 λe=>?_,g6⟩;grind
 simp_all[dN,bL]
theorem VG.fits{b:aA}(h:VG b):b.Mem.Heap.Bytes.length<=maxLen/\(dY b.Mem.aD).length<=1073741824/\b.aC.cQ.length<=maxLen/\b.aM.length<=maxLen/\(bX b.aM).length<=1073741824/\b.oR.length<=maxLen:=by
 have hb:(1048576:Nat)<=maxLen:=by simp[maxLen]
 have g1:=h.1.1;have g2:=h.1.2.2.2.2;have g3:=h.2.1;have g4:=h.2.2.1;have g5:=h.2.2.2.1;have g6:=h.2.2.2.2;omega
theorem step_eq{b:aA}(hb:kW b)(hs:VG b){w:Int}(hw:0<=w/\w<=2)(s:Sub) :
  ∃x y,UZ b w s=some (x,y)/\qO s b w=some (y,x)/\kW x:=by
 have hz:=hb.1.2.2.2.1;have hl:=hb.1.2.2.1;unfold UZ qO;cases hd:s.gL with
 |true=>grind
 |false=>
  simp only[bO,bM];by_cases k1:s.Kind=1
  ·obtain⟨x,y,e1,e2,m,rfl,h1,h2⟩:=alloc_eq hb.1.1 hw s;simp only[k1,beq_self_eq_true,bU,e1,e2,aJ];exact⟨_,_,rfl,rfl,⟨h2.1,hb.1.2⟩,λr hr=>⟨h2.live (hb.2 r hr).1 (by omega),(hb.2 r hr).2⟩⟩
  have k1':(s.Kind == 1)=false:=by grind
  simp only[k1',bO,bM];by_cases k2:s.Kind=2
  ·obtain⟨x,y,e1,e2,L,rfl,h1,h2⟩:=a4P hb hs hw s;simp only[k2,beq_self_eq_true,bU,e1,e2,aJ];exact⟨_,_,rfl,rfl,⟨hb.1.1,hb.1.2.1,h1,hb.1.2.2.2⟩,h2⟩
  have k2':(s.Kind == 2)=false:=by grind
  simp only[k2',bO,bM];by_cases k3:s.Kind=3
  ·obtain⟨x,y,e1,e2,c,rfl,h1,h2⟩:=aZE hb.1.2.1 s;simp only[k3,beq_self_eq_true,bU,e1,e2,aJ];exact⟨_,_,rfl,rfl,⟨hb.1.1,h1,hb.1.2.2⟩,λr hr=>⟨(hb.2 r hr).1,aK6 (hb.2 r hr).2 h2⟩⟩
  have k3':(s.Kind == 3)=false:=by grind
  simp only[k3',bO,bM];by_cases k4:s.Kind=4
  ·obtain⟨x,y,e1,e2,m,L,rfl,h1,h2,h3,h4⟩:=aZK hb hw s;simp only[k4,beq_self_eq_true,bU,e1,e2,aJ];exact⟨_,_,rfl,rfl,⟨h2,hb.1.2.1,h3,hb.1.2.2.2⟩,h4⟩
  have k4':(s.Kind == 4)=false:=by grind
  simp only[k4',bO,bM];by_cases k5:s.Kind=5
  ·obtain⟨x,y,e1,e2,c,rfl,h1,h2⟩:=bIK hb.1.2.1 hw s;simp only[k5,beq_self_eq_true,bU,e1,e2,aJ];exact⟨_,_,rfl,rfl,⟨hb.1.1,h1,hb.1.2.2⟩,λr hr=>⟨(hb.2 r hr).1,aK6 (hb.2 r hr).2 h2⟩⟩
  have k5':(s.Kind == 5)=false:=by grind
  simp only[k5',bO,bM,bT,bL,aJ];grind
theorem kW.small{b:aA}(hb:kW b):VG b:=by have h1:=hb.1.2.1.2.1;have h2:=hb.1.2.2.1.1;have h3:=hb.1.2.2.1.2.1;have h4:=hb.1.2.2.2.1;exact⟨(lC.facts hb.1.1).2.2.2.2.2.1,by omega,by omega,by omega,by omega⟩
def qY(s:Sub)(code:Int):Sub:={s with Code:=code,gL:=true}
def MB(n:Int):Int:=if 1<=n/\n<=8 then 0 else if 1<=n/\n<=16 then 1 else if 1<=n/\n<=40 then 2 else -1
theorem aZL(n:Int):-1<=MB n/\MB n<=2:=by grind[MB]
theorem a4V(n:Int):G7 n=some (MB n):=by
 have s1:∀k,0<=k/\k<=2->fZ n k=some (if 1<=n/\n<=jC k then .stop (Out.ret k) else .next (k+1)):=λk hk=>by simp only[fZ];rw[dM,Y5,aJ,dO,aJ,eB];grind
 have z0:jC 0=8:=rfl;have z1:jC 1=16:=rfl;have z2:jC 2=40:=rfl;unfold G7 MB;by_cases q0:1<=n/\n<=8
 ·rw[bD (by rw[s1 0 (by omega),aL (by omega)]),aL q0];rfl
 ·rw[bG (by rw[s1 0 (by omega),jH]),aP q0,show(0:Int)+1=1 from rfl];by_cases q1:1<=n/\n<=16
  ·rw[bD (by rw[s1 1 (by omega),aL (by omega)]),aL q1];rfl
  ·rw[bG (by rw[s1 1 (by omega),jH]),aP q1,show(1:Int)+1=2 from rfl];by_cases q2:1<=n/\n<=40
   ·rw[bD (by rw[s1 2 (by omega),aL (by omega)]),aL q2];rfl
   ·rw[bG (by rw[s1 2 (by omega),jH]),aP q2,show(2:Int)+1=3 from rfl,bD (body:=fZ n) (r:=Out.brk ()) (by simp[fZ])];rfl
def O6(l:List Int):List Int×Int:=(l.dropLast,l.getLastD (-1))
theorem aK0{s:bE}(h:s.aT.length<=1048576):uB s=some (⟨(O6 s.aT).1⟩,(O6 s.aT).2):=by
 unfold uB RR O6;obtain⟨l⟩:=s;rcases aDT l with rfl|⟨L,b,rfl⟩
 ·rfl
 ·simp only[aQU] at h ⊢;have hl:(L++[b]).length=L.length+1:=by simp
  rw[hl,eB,show((L.length+1:Nat):Int)-1=(L.length:Int) by omega,Y4,R1,O0];simp
def HV(m:Mem)(w c:Int):Mem×Int:=(⟨m.Heap,⟨m.aD.Global,m.aD.Own.set (w*3+c).toNat ⟨(O6 (eT m.aD.Own (w*3+c).toNat)).1⟩⟩⟩,(O6 (eT m.aD.Own (w*3+c).toNat)).2)
def AD(m:Mem)(c:Int):Mem×Int:=(⟨m.Heap,⟨m.aD.Global.set c.toNat ⟨(O6 (eT m.aD.Global c.toNat)).1⟩,m.aD.Own⟩⟩,(O6 (eT m.aD.Global c.toNat)).2)
def pgF(h:Heap):Nat:=h.Class.findIdx (λx=>decide (x = -1))
def zC(m:Mem)(c:Int):Mem×Int:=if pgF m.Heap=6 then(m,-1) else
 (⟨⟨gB m.Heap.Bytes (pgF m.Heap) c (cM c).toNat,m.Heap.Class.set (pgF m.Heap) c⟩,⟨m.aD.Global.set c.toNat ⟨eT m.aD.Global c.toNat++(gS (pgF m.Heap) (cM c).toNat).drop 1⟩,m.aD.Own⟩⟩,(pgF m.Heap:Int)*4)
theorem a9O{h:Heap}(hs:fO h):pgF h<=6:=by rw[<-hs.2.1];exact List.findIdx_le_length
theorem aZM{h:Heap}(hs:fO h)(hq:pgF h≠6):pgF h<6/\cA h (pgF h) = -1:=by
 have h6:=hs.2.1;have hlt:pgF h<6:=by grind[a9O]
 refine⟨hlt,?_⟩;rw[<-aAF hs hlt];have:=List.findIdx_getElem (xs:=h.Class) (p:=λx=>decide (x = -1)) (w:=by grind[pgF]);exact of_decide_eq_true this
theorem bD2{h:Heap}(hs:fO h):∀j (hj:j<6),j<pgF h->cA h j≠-1:=λj hj hlt=>by have:=List.not_of_lt_findIdx hlt;grind[aAF]
theorem bIM{h:Heap}(hh:XN h){c:Int}(hc:0<=c/\c<=2):uC h c=some (if pgF h=6 then(h,[]) else(⟨gB h.Bytes (pgF h) c (cM c).toNat,h.Class.set (pgF h) c⟩,gS (pgF h) (cM c).toNat)):=by
 have hs:=hh.1;have h6:=hs.2.1;have h384:=hs.1;have hle:=a9O hs;have s1:∀k (hk:k<pgF h),fJ h c (k:Int)=some (.next ((k+1:Nat):Int)):=λk hk=>by
  have n:(h.Class[k] != -1)=true:=by grind[bD2,aAF]
  simp only[fJ,LY];rw[dM,O0,aJ,n,aL rfl,eB];rfl
 unfold uC;by_cases hq:pgF h=6
 ·have a1:loop (fJ h c) 0=some (Out.brk ()):=jG (pgF h) (λk=>(k:Int)) _ s1 (by simp_all[fJ]);rw[a1,aL hq];rfl
 ·obtain⟨hlt,he⟩:=aZM hs hq;rw[<-aAF hs hlt] at he;generalize hqq:pgF h=q at *;have a1:loop (fJ h c) 0=some (Out.ret (⟨gB h.Bytes q c (cM c).toNat,h.Class.set q c⟩,gS q (cM c).toNat)):=jG q (λk=>(k:Int)) _ s1 (by
   have e0:bA ((q:Int)*64)=((q*64:Nat):Int):=by grind[cC]
   have e1:bA (((q*64:Nat):Int)+1)=((q*64+1:Nat):Int):=by grind[cC]
   have e2:bA (((q*64:Nat):Int)+2)=((q*64+2:Nat):Int):=by grind[cC]
   have n:(h.Class[q] != -1)=false:=by grind
   simp only[fJ,e0,e1,e2,MR];rw[dM,O0,aJ,n,g7,O0,aJ,aV (by simp;omega),aJ,jI,aJ,aV (by simp;omega),aJ];have:=aN2 h384 hlt hc;simp only[gB] at this;rw[this];rfl)
  rw[a1,aP hq];rfl
theorem a4W{m:Mem}(hm:lC m){c:Int}(hc:0<=c/\c<=2):G9 m c=some (zC m c):=by
 have h3:=hm.1.2.1;have hpp:0<cM c:=j6.2 hc;have hp4:=nE c;obtain⟨_,_,_,_,_,_,_,_,hsG,_⟩:=lC.facts hm;unfold G9 zC;rw[bIM hm.1.1 hc];by_cases hq:pgF m.Heap=6
 ·simp_all
 ·have hk:c.toNat<m.aD.Global.length:=by omega
  have hg0:=hsG _ (dJ hk);have hx:idx m.aD.Global c=some m.aD.Global[c.toNat]:=gX hc.1 (by omega);have hz:idx (gS (pgF m.Heap) (cM c).toNat) 0=some ((pgF m.Heap:Int)*4):=by grind[aV,gS]
  have hn:(((cM c).toNat:Int) == 0)=false:=by grind
  have ht:(gS (pgF m.Heap) (cM c).toNat).take (cM c).toNat=gS (pgF m.Heap) (cM c).toNat:=aHU (by grind[aHB]);have hd:((gS (pgF m.Heap) (cM c).toNat).drop 1).length<=4:=by grind
  simp only[aP hq,aJ,aHB,hn,bO,bM,hx,hz,LZ,ht];grind[bY,dK]
def aZN(m:Mem)(s:Int):Int:=if 1<=j7 m.Heap s/\j7 m.Heap s<=6 then j7 m.Heap s*32+s else 0
theorem bD3{m:Mem}(hs:fO m.Heap){s:Int}(hc:0<=bJ m.Heap s):B6 m s=some (aZN m s):=by
 unfold B6 RS z6 aZN;rw[qT hs hc,aJ,dO,dO];have h1:=(rG hc).1;simp only[cD h1,aJ,i5,bO,bM];by_cases q:1<=j7 m.Heap s/\j7 m.Heap s<=6
 ·simp only[cD q,i5,bO,bM,aL q];grind[cC]
 grind
def O7(b:aA)(s:Sub)(p:Mem×Int):aA×Sub:=
 if 0<=p.2 then({b with Mem:=p.1},qY {s with Out:=aZN p.1 p.2} 0) else if s.Pc=3 then({b with Mem:=p.1},qY s 3) else({b with Mem:=p.1},{s with Pc:=s.Pc+1})
def ZK(b:aA)(w:Int)(s:Sub):aA×Sub:=
 if MB s.A<0 then(b,qY s 2)
 else if s.Pc=0 then O7 b s (HV b.Mem w (MB s.A))
 else if s.Pc=1\/s.Pc=3 then O7 b s (AD b.Mem (MB s.A))
 else if s.Pc=2 then O7 b s (zC b.Mem (MB s.A))
 else(b,qY s 1)
theorem a4X{b:aA}(hm:lC b.Mem){w:Int}(hw:0<=w/\w<=2)(s:Sub):B7 b w s=some (ZK b w s):=by
 obtain⟨hcnt,h3,h9,h1,h2,hsm,hcp,hlo,hsG,hsO⟩:=lC.facts hm;have hs:=hm.1.1.1;have hr:=aZL s.A;unfold B7 ZK;rw[a4V];simp only[aJ];by_cases c0:MB s.A<0
 ·simp only[cD c0,bU,bT,aL c0];rfl
 generalize MB s.A=c at *;have hc:0<=c/\c<=2:=by omega
 simp only[eU c0,bO,bM,aP c0];have fin:∀(p:Mem×Int),-1<=p.2->(0<=p.2->fO p.1.Heap/\0<=bJ p.1.Heap p.2)->s.Pc<=3/\0<=s.Pc->j4 s p.2 ⟨p.1,b.aC,b.aM,b.oR⟩=some (O7 b s p):=by
  intro p hp hx hpc;unfold j4 O7;simp only[z8,UY,bT];by_cases x0:0<=p.2
  ·rw[eU (show ¬p.2<0 by omega),cD x0];simp only[bO,bM,bU,aL x0,bD3 (hx x0).1 (hx x0).2,aJ];rfl
  ·rw[cD (show p.2<0 by omega),eU x0];by_cases p3:s.Pc=3
   ·have p3':(s.Pc == 3)=true:=by grind
    simp only[p3',bU,aP x0,aL p3,aJ];rfl
   ·have p3':(s.Pc == 3)=false:=by grind
    have e:bA (s.Pc+1)=s.Pc+1:=eB;grind
 have popL:∀l:List Int,-1<=(O6 l).2\/(O6 l).2∈l:=λl=>by unfold O6;grind
 by_cases p0:s.Pc=0
 ·have hk:(w*3+c).toNat<b.Mem.aD.Own.length:=by omega
  have hx:idx b.Mem.aD.Own (w*3+c)=some b.Mem.aD.Own[(w*3+c).toNat]:=gX (by omega) (by omega);obtain⟨l,t,x,e1,e2,e3,g1,g2,g3⟩:=aN6 hm hw hc;have hl:=hsO _ (dJ hk);rw[hx] at e1;cases e1;rw[aK0 (by omega)] at e2;have ep:HV b.Mem w c=(⟨b.Mem.Heap,⟨b.Mem.aD.Global,b.Mem.aD.Own.set (w*3+c).toNat t⟩⟩,x):=by grind[HV,dK]
  have hx0:-1<=x:=by
   injection e2 with e2;injection e2 with e4 e5
   rcases popL b.Mem.aD.Own[(w*3+c).toNat].aT with h|h
   ·omega
   ·rw[<-e5];have:=hm.1.2.2.2.2.1 _ (aK9 _ (aHS.2 ⟨_,dJ hk,h⟩));omega
  have p0':(s.Pc == 0)=true:=by grind
  have:=fin (HV b.Mem w c) (by grind) (by grind) (by omega);rw[ep] at this;simp only[p0',bU,aL p0,(TX hw hc).1,aJ,hx];grind[aK0]
 ·have p0':(s.Pc == 0)=false:=by grind
  simp only[p0',bO,bM,AA,aP p0];have hk:c.toNat<b.Mem.aD.Global.length:=by omega
  have hx:idx b.Mem.aD.Global c=some b.Mem.aD.Global[c.toNat]:=gX (by omega) (by omega);obtain⟨l,t,x,e1,e2,e3,g1,g2,g3⟩:=aB6 hm hc;have hl:=hsG _ (dJ hk);rw[hx] at e1;cases e1;rw[aK0 (by omega)] at e2;have ep:AD b.Mem c=(⟨b.Mem.Heap,⟨b.Mem.aD.Global.set c.toNat t,b.Mem.aD.Own⟩⟩,x):=by grind[AD,dK]
  have hx0:-1<=x:=by
   injection e2 with e2;injection e2 with e4 e5
   rcases popL b.Mem.aD.Global[c.toNat].aT with h|h
   ·omega
   ·rw[<-e5];have:=hm.1.2.2.2.2.1 _ (aK8 _ (aHS.2 ⟨_,dJ hk,h⟩));omega
  have tg:0<=s.Pc/\s.Pc<=3->(idx b.Mem.aD.Global c).bind (λx13=>(uB x13).bind λx14=>j4 s x14.2 ({b with Mem:=(⟨b.Mem.Heap,(⟨b.Mem.aD.Global.set c.toNat x14.1,b.Mem.aD.Own⟩:aD)⟩:Mem)}:aA))=some (O7 b s (AD b.Mem c)):=λhpc=>by grind[aK0]
  by_cases p1:s.Pc=1
  ·grind
  ·have p1':(s.Pc == 1)=false:=by grind
   simp only[p1',bO,bM];by_cases p3:s.Pc=3
   ·grind
   ·have p3':(s.Pc == 3)=false:=by grind
    have n13:¬(s.Pc=1\/s.Pc=3):=by omega
    simp only[p3',bO,bM,aP n13];by_cases p2:s.Pc=2
    ·obtain⟨m',y,f1,f2,k1,k2,k3⟩:=aWI hm hc;have hg:=a4W hm hc;rw[f1] at hg;have hg':zC b.Mem c=(m',y):=by grind
     have hy:-1<=(zC b.Mem c).2:=by grind[zC]
     grind
    ·have p2':(s.Pc == 2)=false:=by grind
     simp only[p2',bO,bM,bT,aP p2,aJ];rfl
def b9(c:aC)(w:Int):vW:=c.cQ.getD w.toNat ⟨false,0,false,0⟩
theorem TY{c:aC}(hc:JC c){w:Int}(hw:0<=w/\w<=2):idx c.cQ w=some (b9 c w):=by have:=hc.2.1;grind[gX,b9]
def EX(c:aC)(w e:Int):aC×Bool:=
 if(b9 c w).On=false\/(b9 c w).gU=true\/(b9 c w).aE=e then(c,true)
 else if(b9 c w).Seen=2 then(⟨c.aE,c.cQ.set w.toNat {b9 c w with gU:=true,Seen:=0}⟩,true)
 else(⟨c.aE,c.cQ.set w.toNat {b9 c w with Seen:=(b9 c w).Seen+1}⟩,false)
theorem aN8{c:aC}(hc:JC c){w:Int}(hw:0<=w/\w<=2):POk c.aE (b9 c w):=by
 have:=TY hc hw;have h2:=hc.2.1;rw[gX hw.1 (by omega)] at this;injection this with this
 rw[<-this];exact hc.2.2 _ (dJ _)
theorem a9P{c:aC}(hc:JC c){w:Int}(hw:0<=w/\w<=2)(e:Int):K2 c w e=some (EX c w e):=by have hp:=aN8 hc hw;have hx:=TY hc hw;have hsm:=hc.small;unfold K2 HB EX;rw[nK hsm.1,jJ,cD hc,dO,cD hw,hx];simp only[aJ,i5,bO,bM,sJ,hx];generalize b9 c w=p at *;have ew:bA (p.Seen+1)=p.Seen+1:=cC (by have:=hp.2.1;omega) (by have:=hp.2.1;omega);grind
def QU(c:aC)(e:Int):aC×Bool:=if c.aE=e/\e≠100000 then(⟨e+1,c.cQ⟩,true) else(c,false)
theorem a9Q{c:aC}(hc:JC c)(e:Int):TD c e=some (QU c e):=by
 have hsm:=hc.small;unfold TD HC QU;rw[nK hsm.1,jJ,cD hc];simp only[aJ,i5,bO,bM];by_cases h1:c.aE=e
 ·have he:=hc.1;grind[cC]
 ·simp[h1]
def R9(c:aC)(w e:Int):aC×Bool:=if 0<=e/\e<=c.aE then(⟨c.aE,c.cQ.set w.toNat ⟨true,e,false,0⟩⟩,true) else(c,false)
theorem a4Y{c:aC}(hc:JC c){w:Int}(hw:0<=w/\w<=2)(e:Int):OQ c w e=some (R9 c w e):=by have hsm:=hc.small;unfold OQ B8 R9;rw[nK hsm.1,jJ,cD hc,dO,cD hw,dO];simp only[aJ,i5,bO,bM];grind[TY]
def D8(c:aC)(w:Int):aC×Bool:=if(b9 c w).On then(⟨c.aE,c.cQ.set w.toNat ⟨false,0,false,0⟩⟩,true) else(c,false)
theorem aRN{c:aC}(hc:JC c){w:Int}(hw:0<=w/\w<=2):U0 c w=some (D8 c w):=by have hsm:=hc.small;have hx:=TY hc hw;unfold U0 B9 D8;rw[nK hsm.1,jJ,cD hc,dO,cD hw,hx];grind
def cJ(b:aA)(s:Sub):aA×Sub:=
 if s.Pc=0 then(b,{s with Pc:=1,E:=b.aC.aE,B:=0})
 else if s.Pc=1 then
  if 0<=s.B/\s.B<=2 then
   if(EX b.aC s.B s.E).2 then({b with aC:=(EX b.aC s.B s.E).1},{s with Pc:=if s.B=2 then 2 else 1,B:=s.B+1})
   else({b with aC:=(EX b.aC s.B s.E).1},qY s 8)
  else(b,qY s 1)
 else if s.Pc=2 then({b with aC:=(QU b.aC s.E).1},qY {s with Out:=if(QU b.aC s.E).2 then 1 else s.Out} 0)
 else(b,qY s 1)
theorem aWJ{b:aA}(hc:JC b.aC)(s:Sub):vM b s=some (cJ b s):=by
 unfold vM cJ;rw[a9Q hc,dO];simp only[bT,uD,uE,aJ];by_cases p0:s.Pc=0
 ·grind
 ·have p0':(s.Pc == 0)=false:=by grind
  simp only[p0',bO,bM,aP p0];by_cases p1:s.Pc=1
  ·have p1':(s.Pc == 1)=true:=by grind
   simp only[p1',bU,aL p1];by_cases hB:0<=s.B/\s.B<=2
   ·have ew:bA (s.B+1)=s.B+1:=eB;simp only[cD hB,i5,bO,bM,aL hB,a9P hc hB,aJ,ew];grind[qY]
   ·simp only[eU hB,NZ,bU,aP hB];rfl
  ·have p1':(s.Pc == 1)=false:=by grind
   simp only[p1',bO,bM,aP p1];by_cases p2:s.Pc=2
   ·have p2':(s.Pc == 2)=true:=by grind
    simp only[p2',bU,aL p2];cases h:(QU b.aC s.E).2<;>rfl
   ·have p2':(s.Pc == 2)=false:=by grind
    simp only[p2',bO,bM,aP p2];rfl
def AE(b:aA)(w:Int)(s:Sub):aA×Sub:=
 if s.Pc=0 then(b,{s with Pc:=1,E:=b.aC.aE})
 else if s.Pc=1 then
  if(R9 b.aC w s.E).2 then({b with aC:=(R9 b.aC w s.E).1},{s with Pc:=2}) else({b with aC:=(R9 b.aC w s.E).1},qY s 1)
 else if s.Pc=2 then if b.aC.aE=s.E then(b,qY s 0) else(b,{s with Pc:=0})
 else(b,qY s 1)
theorem bD4{b:aA}(hc:JC b.aC){w:Int}(hw:0<=w/\w<=2)(s:Sub):K3 b w s=some (AE b w s):=by
 unfold K3 AE;rw[a4Y hc hw];simp only[bT,aJ];by_cases p0:s.Pc=0
 ·grind
 ·have p0':(s.Pc == 0)=false:=by grind
  simp only[p0',bO,bM,aP p0];by_cases p1:s.Pc=1
  ·have p1':(s.Pc == 1)=true:=by grind
   simp only[p1',bU,aL p1];cases h:(R9 b.aC w s.E).2<;>rfl
  ·have p1':(s.Pc == 1)=false:=by grind
   simp only[p1',bO,bM,aP p1];by_cases p2:s.Pc=2
   ·have p2':(s.Pc == 2)=true:=by grind
    simp only[p2',bU,aL p2];by_cases q:b.aC.aE=s.E
    ·have q':(b.aC.aE == s.E)=true:=by grind
     simp only[q',bU,aL q];rfl
    grind
   ·have p2':(s.Pc == 2)=false:=by grind
    simp only[p2',bO,bM,aP p2];rfl
def bQ(l:List bN)(w:Int):List dR:=(l.getD w.toNat ⟨[]⟩).Rows
theorem O8{l:List bN}(hl:qV l){w:Int}(hw:0<=w/\w<=2):idx l w=some ⟨bQ l w⟩:=by have:=hl.1;rw[gX hw.1 (by omega)];simp[bQ,EE,jK (show w.toNat<l.length by omega)]
theorem aHC{l:List bN}(hl:qV l){w:Int}(hw:0<=w/\w<=2):(bQ l w).length<=24:=by
 have h:=O8 hl hw;have h3:=hl.1;rw[gX hw.1 (by omega)] at h;injection h with h
 have:=hl.small.2.2.2 _ (dJ (show w.toNat<l.length by omega));grind
def xF(b:aA)(w:Int)(s:Sub):aA×Sub:=
 if s.Pc=0 then(b,{s with Pc:=1,E:=b.aC.aE})
 else if s.Pc=1 then
  if 0<=s.E/\s.E<=b.aC.aE then
   if mN b.Mem s.A/\¬bI b.aM (s.A % 32) then({b with aM:=b.aM.set w.toNat ⟨bQ b.aM w++[⟨s.A,s.E⟩]⟩},qY s 0) else(b,qY s 4)
  else(b,qY s 1)
 else(b,qY s 1)
theorem aZO{b:aA}(hb:kW b){w:Int}(hw:0<=w/\w<=2)(s:Sub):yU b w s=some (xF b w s):=by
 have hL:=hb.1.2.2.1;have hm:=hb.1.1;obtain⟨h1,h2,h3,_⟩:=lC.facts hm;have hx:=O8 hL hw;have hrow:=aHC hL hw;unfold yU xF;rw[dO,L7 hm.1.1.1 (by omega) (by grind[maxLen]) (by grind[maxLen]),iJ];simp only[bT,aJ,xB,HA];by_cases p0:s.Pc=0
 ·grind
 ·have p0':(s.Pc == 0)=false:=by grind
  simp only[p0',bO,bM,aP p0];by_cases p1:s.Pc=1
  ·have p1':(s.Pc == 1)=true:=by grind
   simp only[p1',bU,aL p1];by_cases q1:0<=s.E/\s.E<=b.aC.aE
   ·simp only[cD q1,i5,bO,bM,aL q1];by_cases q2:mN b.Mem s.A
    ·have hh:=q2.1;simp only[cD q2,i5,bO,bM,aL hh,L8 hL,aJ];by_cases q3:bI b.aM (s.A % 32)
     ·simp only[cD q3,bU,aP (show ¬(mN b.Mem s.A/\¬bI b.aM (s.A % 32)) from λh=>h.2 q3)];rfl
     ·simp only[eU q3,bO,bM,hx,aJ,aL (show mN b.Mem s.A/\¬bI b.aM (s.A % 32) from⟨q2,q3⟩)];rw[R0];rfl
    ·simp only[eU q2,NZ,bU,aP (show ¬(mN b.Mem s.A/\¬bI b.aM (s.A % 32)) from λh=>q2 h.1)];rfl
   ·simp only[eU q1,NZ,bU,aP q1];rfl
  ·have p1':(s.Pc == 1)=false:=by grind
   simp only[p1',bO,bM,aP p1];rfl
def EY(r:dR)(e:Int):Prop:=2<=e/\r.aE<=bA (e-2)
instance (r:dR) (e:Int):Decidable (EY r e):=by unfold EY;infer_instance
theorem aN9(r:dR)(e:Int):NW r e=some (decide (EY r e)):=by unfold NW NP EY;grind
def mA(l:List dR)(e:Int)(k:Nat):Nat:=k+(l.drop k).findIdx (λr=>decide (EY r e))
theorem a9R{l:List dR}(hl:l.length<=1000){from_ e:Int}:AB l from_ e=some (if mA l e from_.toNat<l.length then(mA l e from_.toNat:Int) else -1):=by
 have hst:(if 0<from_ then from_ else 0)=(from_.toNat:Int):=by omega
 unfold AB;rw[hst];have key:∀d k:Nat,l.length<=k+d->loop (fK l e) (k:Int)=some (if mA l e k<l.length then Out.ret (mA l e k:Int) else Out.brk ()):=by
  intro d;induction d with
  |zero=>
   intro k hk;rw[bD (r:=Out.brk ()) (by simp_all[fK,aP]),aP (by grind[mA])]
  |succ d ih=>
   intro k hk;by_cases hkl:k<l.length
   ·have hd:l.drop k=l[k]::l.drop (k+1):=AG hkl;by_cases hr:EY l[k] e
    ·have hs:mA l e k=k:=by grind[mA]
     simp_all[bD,fK,aV,aN9]
    ·have hs:mA l e k=mA l e (k+1):=by unfold mA;grind
     rw[bG (s':=((k+1:Nat):Int)) (by simp only[fK];rw[dM,aV hkl,aJ,aN9 _ e,aJ,eU hr,g7,eB];rfl),ih (k+1) (by omega),hs]
   grind
 rw[key l.length from_.toNat (by omega)];split<;>rfl
theorem aZP{l:List dR}{e:Int}{k:Nat}(h:mA l e k<l.length):k<=mA l e k/\EY l[mA l e k] e:=by
 refine⟨by grind[mA],?_⟩;have h1:(l.drop k).findIdx (λr=>decide (EY r e))<(l.drop k).length:=by grind[mA]
 have:=List.findIdx_getElem (xs:=l.drop k) (p:=λr=>decide (EY r e)) (w:=h1);rw[List.getElem_drop] at this;exact of_decide_eq_true this
def oP(m:Mem)(w h:Int):Mem:=
 if h/32+1<=6 then
  if(eT m.aD.Own (w*3+bJ m.Heap (h % 32)).toNat).length<2 then⟨⟨st4 m.Heap.Bytes (iS (h % 32) (bJ m.Heap (h % 32))).toNat (h/32+1),m.Heap.Class⟩,⟨m.aD.Global,m.aD.Own.set (w*3+bJ m.Heap (h % 32)).toNat ⟨eT m.aD.Own (w*3+bJ m.Heap (h % 32)).toNat++[h % 32]⟩⟩⟩
  else⟨⟨st4 m.Heap.Bytes (iS (h % 32) (bJ m.Heap (h % 32))).toNat (h/32+1),m.Heap.Class⟩,⟨m.aD.Global.set (bJ m.Heap (h % 32)).toNat ⟨eT m.aD.Global (bJ m.Heap (h % 32)).toNat++[h % 32]⟩,m.aD.Own⟩⟩
 else⟨⟨st4 m.Heap.Bytes (iS (h % 32) (bJ m.Heap (h % 32))).toNat (h/32+1),m.Heap.Class⟩,m.aD⟩
theorem aFM{m:Mem}(hm:lC m){w h:Int}(hw:0<=w/\w<=2)(hv:mN m h):K0 m w (h % 32)=some (oP m w h):=by
 obtain⟨hcnt,h3,h9,h1,h2,hsm,hcp,hlo,hsG,hsO⟩:=lC.facts hm;have hs:=hm.1.1.1;have hh:=hv.1;have hcl:=dL hv.2.1;have hgo:=aAG hcl;have hc2:0<=bJ m.Heap (h % 32)/\bJ m.Heap (h % 32)<=2:=by obtain⟨_,q,e⟩:=rG hcl;rw[e];exact j6.1 (by omega)
 have hg6:1<=h/32/\h/32<=6:=by grind[kU]
 have eo:iS (h % 32) (bJ m.Heap (h % 32))=(((iS (h % 32) (bJ m.Heap (h % 32))).toNat:Nat):Int):=by omega
 have ew:bA (h/32+1)=h/32+1:=eB;unfold K0 oP;rw[vR hs,aJ,qT hs hcl,hv.2.2,aJ,wH,aJ,ew];generalize hgn:(iS (h % 32) (bJ m.Heap (h % 32))).toNat=a at eo;rw[eo,L9 (by omega) (by omega) (by omega)];simp only[aJ,OO,ON,ew];generalize bJ m.Heap (h % 32)=c at *;by_cases q:h/32+1<=6
 ·have hk:(w*3+c).toNat<m.aD.Own.length:=by omega
  have hx:idx m.aD.Own (w*3+c)=some m.aD.Own[(w*3+c).toNat]:=gX (by omega) (by omega);have hk2:c.toNat<m.aD.Global.length:=by omega
  have hx2:idx m.aD.Global c=some m.aD.Global[c.toNat]:=gX (by omega) (by omega);have b1:=hsO _ (dJ hk);have b2:=hsG _ (dJ hk2);rw[cD q,aL rfl,aL q];unfold YN;rw[(TX hw hc2).1];simp only[aJ,hx,hx2,OM,YL,YM,<-dK hk,<-dK hk2];by_cases q2:m.aD.Own[(w*3+c).toNat].aT.length<2
  ·have y1:(m.aD.Own[(w*3+c).toNat].aT.length:Int)<2:=by omega
   simp only[cD y1,bU,aL q2];grind[bY]
  ·have y1:¬(m.aD.Own[(w*3+c).toNat].aT.length:Int)<2:=by omega
   simp only[eU y1,bO,bM,aP q2];grind[bY]
 simp_all[aP]
def a2I(z:List Int)(w:Int):Int:=z.getD w.toNat 0
theorem a4Z{z:List Int}(hz:aA6 z){w:Int}(hw:0<=w/\w<=2):idx z w=some (a2I z w):=by have:=hz.1;grind[gX,a2I]
def LB(l:List dR)(k:Int):dR:=l.getD k.toNat ⟨0,0⟩
theorem ZL{l:List dR}{k:Int}(h:0<=k/\k<l.length):idx l k=some (LB l k):=by grind[gX,LB]
def QV(l:List dR)(s:Sub):Prop:=0<=s.Row/\s.Row<l.length/\(LB l s.Row).Handle=s.H
instance (l:List dR) (s:Sub):Decidable (QV l s):=by unfold QV;infer_instance
def bZ(b:aA)(w:Int)(s:Sub):aA×Sub:=
 if s.Pc=0 then(b,{s with Pc:=1,E:=b.aC.aE,Row:=0})
 else if s.Pc=1 then
  if mA (bQ b.aM w) s.E s.Row.toNat<(bQ b.aM w).length then(b,{s with Pc:=2,Row:=(mA (bQ b.aM w) s.E s.Row.toNat:Int),B:=0,H:=(LB (bQ b.aM w) (mA (bQ b.aM w) s.E s.Row.toNat:Int)).Handle})
  else(b,qY s 0)
 else if s.Pc=2 then
  if(0<=s.B/\s.B<=2)/\QV (bQ b.aM w) s then
   if a2I b.oR s.B=s.H then(b,{s with Pc:=1,Row:=s.Row+1}) else(b,{s with Pc:=if s.B=2 then 3 else 2,B:=s.B+1})
  else(b,qY s 1)
 else if s.Pc=3 then
  if QV (bQ b.aM w) s/\EY (LB (bQ b.aM w) s.Row) s.E then({b with Mem:=oP b.Mem w s.H,aM:=b.aM.set w.toNat ⟨(bQ b.aM w).eraseIdx s.Row.toNat⟩},{s with Pc:=1,Out:=bA (s.Out+1)})
  else(b,qY s 1)
 else(b,qY s 1)
theorem zD{l:List bN}(hl:qV l){w:Int}(hw:0<=w/\w<=2){r:dR}(hr:r∈bQ l w):r∈bX l:=by
 have h:=O8 hl hw;have h3:=hl.1;rw[gX hw.1 (by omega)] at h;injection h with h
 exact aHS.2 ⟨l[w.toNat],dJ _,by grind⟩
theorem ZM{l:List dR}{k:Int}(h:0<=k/\k<l.length):LB l k∈l:=by have:=ZL h;grind[gX]
theorem aWK{b:aA}(hb:kW b){w:Int}(hw:0<=w/\w<=2)(s:Sub):vN b w s=some (bZ b w s):=by
 have hL:=hb.1.2.2.1;have hm:=hb.1.1;have hx:=O8 hL hw;have hrow:=aHC hL hw;have hfl:=λr hr=>zD hL hw (r:=r) hr;unfold vN bZ;rw[hx];simp only[aJ,bT];generalize bQ b.aM w=l at *;by_cases p0:s.Pc=0
 ·grind
 have p0':(s.Pc == 0)=false:=by grind
 simp only[p0',bO,bM,aP p0];by_cases p1:s.Pc=1
 ·have p1':(s.Pc == 1)=true:=by grind
  simp only[p1',bU,aL p1,a9R (show l.length<=1000 by omega),aJ];by_cases q:mA l s.E s.Row.toNat<l.length
  ·have n:¬(mA l s.E s.Row.toNat:Int)<0:=by omega
   simp only[aL q,eU n,bO,bM,ZL (l:=l) (k:=(mA l s.E s.Row.toNat:Int)) (by omega),aJ]
  ·simp only[aP q,cD (show(-1:Int)<0 by omega),bU];rfl
 have p1':(s.Pc == 1)=false:=by grind
 simp only[p1',bO,bM,aP p1];have el:bA ((l.length:Int)-1)=(l.length:Int)-1:=eB;by_cases p2:s.Pc=2
 ·have p2':(s.Pc == 2)=true:=by grind
  simp only[p2',bU,aL p2,dO,el,aJ,fV,uF,bT];by_cases hB:0<=s.B/\s.B<=2
  ·simp only[cD hB,i5,bO,bM];by_cases hR:0<=s.Row/\s.Row<=(l.length:Int)-1
   ·simp only[cD hR,i5,bO,bM,ZL (l:=l) (k:=s.Row) (by omega),aJ];by_cases hH:(LB l s.Row).Handle=s.H
    ·have hH':((LB l s.Row).Handle != s.H)=false:=by grind
     have ha:(0<=s.B/\s.B<=2)/\QV l s:=⟨hB,hR.1,by omega,hH⟩;have e1:bA (s.B+1)=s.B+1:=eB;have e2:bA (s.Row+1)=s.Row+1:=eB;simp only[hH',bO,bM,aL ha,a4Z hb.1.2.2.2 hB,aJ,e1,e2];grind
    ·have hH':((LB l s.Row).Handle != s.H)=true:=by grind
     have ha:¬((0<=s.B/\s.B<=2)/\QV l s):=λh=>hH h.2.2.2;simp only[hH',bU,aP ha,aJ];rfl
   ·have ha:¬((0<=s.B/\s.B<=2)/\QV l s):=λh=>hR ⟨h.2.1,by have:=h.2.2.1;omega⟩;simp only[eU hR,NZ,bU,aP ha,aJ];rfl
  ·have ha:¬((0<=s.B/\s.B<=2)/\QV l s):=λh=>hB h.1;simp only[eU hB,NZ,bU,aP ha,aJ];rfl
 have p2':(s.Pc == 2)=false:=by grind
 simp only[p2',bO,bM,aP p2];by_cases p3:s.Pc=3
 ·have p3':(s.Pc == 3)=true:=by grind
  simp only[p3',bU,aL p3,dO,el,aJ,fW,D4,bT];by_cases hR:0<=s.Row/\s.Row<=(l.length:Int)-1
  ·simp only[cD hR,i5,bO,bM,ZL (l:=l) (k:=s.Row) (by omega),aJ];by_cases hH:(LB l s.Row).Handle=s.H
   ·have hH':((LB l s.Row).Handle != s.H)=false:=by grind
    simp only[hH',bO,bM,aN9,aJ];by_cases hr:EY (LB l s.Row) s.E
    ·have ha:QV l s/\EY (LB l s.Row) s.E:=⟨⟨hR.1,by omega,hH⟩,hr⟩;have e2:bA (s.Row+1)=s.Row+1:=eB;have hlive:=(hb.2 _ (hfl _ (ZM (l:=l) (k:=s.Row) (by omega)))).1;rw[hH] at hlive;have et:(s.Row+1).toNat=s.Row.toNat+1:=by omega
     simp only[cD hr,i5,bO,bM,aL ha,e2,iJ,aL hlive.1,aJ,aFM hm hw hlive,et];grind[bY,del_eq]
    ·have ha:¬(QV l s/\EY (LB l s.Row) s.E):=λh=>hr h.2;simp only[eU hr,NZ,bU,aP ha,aJ];rfl
   ·have hH':((LB l s.Row).Handle != s.H)=true:=by grind
    have ha:¬(QV l s/\EY (LB l s.Row) s.E):=λh=>hH h.1.2.2;simp only[hH',bU,aP ha,aJ];rfl
  ·have ha:¬(QV l s/\EY (LB l s.Row) s.E):=λh=>hR ⟨h.1.1,by have:=h.1.2.1;omega⟩;simp only[eU hR,NZ,bU,aP ha,aJ];rfl
 ·have p3':(s.Pc == 3)=false:=by grind
  simp only[p3',bO,bM,aP p3];rfl
def iB(b:aA)(w:Int)(s:Sub):aA×Sub:=
 if s.gL then(b,s) else if s.Kind=1 then ZK b w s else if s.Kind=2 then xF b w s else if s.Kind=3 then cJ b s else if s.Kind=4 then bZ b w s else if s.Kind=5 then AE b w s else(b,qY s 1)
theorem a2J{b:aA}(hb:kW b){w:Int}(hw:0<=w/\w<=2)(s:Sub):UZ b w s=some (iB b w s):=by
 unfold UZ iB;rw[a4X hb.1.1 hw,aZO hb hw,aWJ hb.1.2.1,aWK hb hw,bD4 hb.1.2.1 hw];simp only[aJ,bT];cases s.gL
 ·simp only[bO,bM,beq_iff_eq];split<;>(try rfl);split<;>(try rfl);split<;>(try rfl);split<;>(try rfl);split<;>rfl
 ·rfl
theorem bD5{b:aA}(hb:kW b){w:Int}(hw:0<=w/\w<=2)(s:Sub):kW (iB b w s).1:=by obtain⟨x,y,e1,_,h⟩:=step_eq hb hb.small hw s;grind[a2J]
theorem aK1{b:List Int}{a:Nat}{n:Int}(h:a+4<=b.length){j:Nat}(hj:j<a\/a+4<=j):bt (R8 b a n) j=bt b j:=by unfold R8;rw[O5 (by simp;omega),O5 (by simp;omega),O5 (by simp;omega),O5 (by omega),jH,jH,jH,jH]
theorem XN.put{h:Heap}(hh:XN h){s:Int}(hc:0<=bJ h s){n:Int}(hn:0<=n/\n<=4294967295) :
  XN ⟨R8 h.Bytes ((iS s (bJ h s)).toNat+4) n,h.Class⟩/\∀t,0<=bJ h t->j7 ⟨R8 h.Bytes ((iS s (bJ h s)).toNat+4) n,h.Class⟩ t=j7 h t:=by
 obtain⟨hs,hp⟩:=hh;have h384:=hs.1;have hs':fO ⟨R8 h.Bytes ((iS s (bJ h s)).toNat+4) n,h.Class⟩:=⟨by grind[aFJ],hs.2.1,a4Q hs.2.2.1 _ hn,hs.2.2.2⟩;obtain⟨p,i,p6,hi,es,ec,eo,ep⟩:=qI hc;have hcl:0<=cA h p/\cA h p<=2:=j6.1 (by omega);have hroom:8+i*(aX (cA h p)).toNat+8<=64/\∀j,j<(cM (cA h p)).toNat->j*(aX (cA h p)).toNat+4<=i*(aX (cA h p)).toNat+4\/i*(aX (cA h p)).toNat+12<=j*(aX (cA h p)).toNat:=by grind[cM,aX]
 have hgen:∀q j,q<6->j<(cM (cA h q)).toNat->ld (R8 h.Bytes ((iS s (bJ h s)).toNat+4) n) (q*64+8+j*(aX (cA h q)).toNat) 4=ld h.Bytes (q*64+8+j*(aX (cA h q)).toNat) 4:=λq j hq hj=>by
  have hz:=sP hs hq rfl hj;refine KE (by omega) (by grind[aFJ]) λk k1 k2=>?_;by_cases e:q=p
  ·grind[aK1]
  grind[aK1]
 refine⟨⟨hs',λq hq=>?_⟩,λt ht=>?_⟩
 ·rw[HT hs' hq];have hold:=(HT hs hq).1 (hp q hq);by_cases e:q=p
  ·subst e;have hcl':¬cA h q<0:=by omega
   unfold aDC at hold ⊢;have hcc:cA ⟨R8 h.Bytes ((iS s (bJ h s)).toNat+4) n,h.Class⟩ q=cA h q:=rfl;rw[hcc];rw[aP hcl'] at hold ⊢;obtain⟨⟨a1,a2,a3⟩,a4,a5⟩:=hold;have bs:∀k,k<8->bt (R8 h.Bytes ((iS s (bJ h s)).toNat+4) n) (q*64+k)=bt h.Bytes (q*64+k):=λk hk=>aK1 (by omega) (by omega);have b0:=bs 0 (by omega);grind
  ·refine aDC.same hq hs (by grind[aFJ]) rfl (λk hk=>aK1 (by omega) (by omega)) hold
 ·obtain⟨p',i',p6',hi',es',ec',eo',ep'⟩:=qI ht;have e2:bJ ⟨R8 h.Bytes ((iS s (bJ h s)).toNat+4) n,h.Class⟩ t=bJ h t:=rfl;grind[j7]
theorem lC.put{m:Mem}(hm:lC m){s:Int}(hc:0<=bJ m.Heap s){n:Int}(hn:0<=n/\n<=4294967295):vU m ⟨⟨R8 m.Heap.Bytes ((iS s (bJ m.Heap s)).toNat+4) n,m.Heap.Class⟩,m.aD⟩ (-1):=by obtain⟨a,b⟩:=XN.put hm.1.1 hc hn;refine⟨lC.heap hm a λx hx=>⟨rfl,b x (lC.oZ hm hx).1⟩,λt ht _=>?_⟩;have ht':=iK.1 ht;have e:=b t ht'.1;exact⟨iK.2 ⟨ht'.1,ht'.2.1,by grind⟩,e,rfl⟩
theorem start_eq{h:Heap}(hs:fO h){s:Int}(hc:0<=bJ h s):aEV s (bJ h s)=some (iS s (bJ h s)+4)/\NB s (bJ h s)=some (iS s (bJ h s)+4):=by have hg:=aAG hc;unfold aEV NB;rw[wH,CD,aJ,Y4,eB];simp
theorem hb0(x:Int):(x == 0)=decide (x=0):=by grind
theorem HW(h:Int):nH h=some (decide (kV h)):=by grind[nH,yD,kV,g8]
theorem aWL{c:aC}(hc:JC c){w:Int}(hw:0<=w/\w<=2):∃r,U0 c w=some r/\UO c w=some r/\JC r.1/\r.1.aE=c.aE:=by
 obtain⟨p,hp,hpk⟩:=aZD hc hw;unfold U0 UO;rw[nK hc.small.1,CH hc.small.1,jJ,vT hc.small.2,nL,dO,cD hc,cD hw];simp only[aJ,i5,bO,bM,hp,B9,BO];cases p.On with
 |true=>
  simp only[i5,bO,bM];have h0:=hc.1;exact⟨_,rfl,rfl,hc.aTW ⟨by grind,by simp,λ_=>rfl⟩,rfl⟩
 |false=>simp_all
theorem aA6.set{z:List Int}(hz:aA6 z)(k:Nat){h:Int}(hh:kV h):aA6 (z.set k h):=⟨by simpa using hz.1,λq hq=>(rJ hq).elim (hz.2 q) (λe=>e ▸ hh)⟩
theorem kW.clock{b:aA}(hb:kW b){cl:aC}(h:JC cl)(e:b.aC.aE<=cl.aE):kW ⟨b.Mem,cl,b.aM,b.oR⟩:=⟨⟨hb.1.1,h,hb.1.2.2⟩,λr hr=>⟨(hb.2 r hr).1,aK6 (hb.2 r hr).2 e⟩⟩
theorem kW.haz{b:aA}(hb:kW b){z:List Int}(h:aA6 z):kW ⟨b.Mem,b.aC,b.aM,z⟩:=⟨⟨hb.1.1,hb.1.2.1,hb.1.2.2.1,h⟩,hb.2⟩
theorem kW.mem{b:aA}(hb:kW b){m:Mem}(h:vU b.Mem m (-1)):kW ⟨m,b.aC,b.aM,b.oR⟩:=⟨⟨h.1,hb.1.2⟩,λr hr=>⟨h.live (hb.2 r hr).1 (by omega),(hb.2 r hr).2⟩⟩
theorem bK6{h:Heap}{s:Int}(hcl:0<=bJ h s):(iS s (bJ h s)).toNat+8<=384/\8<=jC (bJ h s)/\jC (bJ h s)<=40:=by
 have hc2:0<=bJ h s/\bJ h s<=2:=by obtain⟨_,q,e⟩:=rG hcl;rw[e];exact j6.1 (by omega)
 grind[jC,bJ,qI,cM,aX]
def AF(kind a:Int):Sub:=⟨kind,a,0,0,0,0,0,0,0,false⟩
def j8:List Int->Nat->List UInt8->List Int
 |b,_,[]=>b
 |b,a,c::t=>j8 (b.set a (c.toNat:Int)) (a+1) t
theorem CI:∀(t:List UInt8) (b:List Int) (a:Nat),(j8 b a t).length=b.length
 |[],b,a=>rfl
 |c::t,b,a=>by rw[j8,CI];simp
theorem aRO:∀(t:List UInt8) {b:List Int} (a:Nat),sO b->sO (j8 b a t)
 |[],b,a,h=>h
 |c::t,b,a,h=>aRO t (a+1) (aWG a h ⟨by omega,by have:=c.toNat_lt;omega⟩)
theorem NT:∀(t:List UInt8) {b:List Int} {a:Nat},a+t.length<=b.length->∀{j:Nat},(j<a\/a+t.length<=j)->bt (j8 b a t) j=bt b j
 |[],b,a,h,j,hj=>rfl
 |c::t,b,a,h,j,hj=>by simp only[BC] at h hj;rw[j8,NT t (by simp;omega) (by omega),O5 (by omega),jH]
theorem aOA:∀(t:List UInt8) {b:List Int} {a:Nat},a+t.length<=b.length->∀{j:Nat} (hj:j<t.length),bt (j8 b a t) (a+j)=(t[j].toNat:Int)
 |c::t,b,a,h,j,hj=>by
  simp only[BC] at h hj;rw[j8];cases j with
  |zero=>rw[NT t (by simp;omega) (by omega),O5 (by omega),aL (by omega)];rfl
  |succ j=>
   have:=aOA t (b:=b.set a (c.toNat:Int)) (a:=a+1) (by simp;omega) (j:=j) (by omega);grind
theorem aH5(b:List Int)(a:Nat)(t:List UInt8)(hl:b.length<=100000)(h:a+t.length<=b.length):∀(r:List UInt8) (k:Nat) (c:List Int),c.length=b.length->t.drop k=r->k+r.length=t.length->loop (lU b (a:Int) t) (c,(k:Int))=some (j8 c (a+k) r)
 |[],k,c,hc,hr,hk=>by refine bD ?_;simp only[lU];rw[bY hc,aP (by grind)];rfl
 |x::r,k,c,hc,hr,hk=>by
  simp only[BC] at hk;have hkt:k<t.length:=by omega
  have e:=AG hkt;rw[hr] at e;injection e with e1 e2
  have st:lU b (a:Int) t (c,(k:Int))=some (.next (c.set (a+k) (x.toNat:Int),((k+1:Nat):Int))):=by simp only[lU];rw[bY hc,dM,aV hkt,aJ,eB (x:=(a:Int)+k),show(a:Int)+k=((a+k:Nat):Int) by omega,O0,aJ,eB,<-e1];rfl
  rw[bG st,aH5 b a t hl h r (k+1) _ (by grind) e2.symm (by omega),j8];rfl
theorem aRP{b:List Int}{a:Nat}{t:List UInt8}(hl:b.length<=100000)(h:a+t.length<=b.length):nG b (a:Int) t=some (j8 b a t):=by unfold nG;rw[show(0:Int)=((0:Nat):Int) from rfl,aH5 b a t hl h t 0 b rfl rfl (by omega),aJ];grind[OD,OC,bY,CI]
theorem XN.j8{h:Heap}(hh:XN h){s:Int}(hc:0<=bJ h s){o:Nat}{t:List UInt8}(ht:((o+t.length:Nat):Int)<=jC (bJ h s)) :
  XN ⟨Gv.j8 h.Bytes ((iS s (bJ h s)).toNat+4+o) t,h.Class⟩/\∀u,0<=bJ h u->j7 ⟨Gv.j8 h.Bytes ((iS s (bJ h s)).toNat+4+o) t,h.Class⟩ u=j7 h u:=by
 obtain⟨hs,hp⟩:=hh;have h384:=hs.1;have hs':fO ⟨Gv.j8 h.Bytes ((iS s (bJ h s)).toNat+4+o) t,h.Class⟩:=⟨by grind[CI],hs.2.1,aRO _ _ hs.2.2.1,hs.2.2.2⟩;obtain⟨p,i,p6,hi,es,ec,eo,ep⟩:=qI hc;have hcl:0<=cA h p/\cA h p<=2:=j6.1 (by omega);rw[ec] at ht;have hroom:8+i*(aX (cA h p)).toNat+4+(jC (cA h p)).toNat<=64/\∀j,j<(cM (cA h p)).toNat->j*(aX (cA h p)).toNat+4<=i*(aX (cA h p)).toNat+4\/i*(aX (cA h p)).toNat+4+(jC (cA h p)).toNat<=j*(aX (cA h p)).toNat:=by grind[cM,aX,jC]
 have hot:o+t.length<=(jC (cA h p)).toNat:=by omega
 have hgen:∀q j,q<6->j<(cM (cA h q)).toNat->ld (Gv.j8 h.Bytes ((iS s (bJ h s)).toNat+4+o) t) (q*64+8+j*(aX (cA h q)).toNat) 4=ld h.Bytes (q*64+8+j*(aX (cA h q)).toNat) 4:=λq j hq hj=>by
  have hz:=sP hs hq rfl hj;refine KE (by omega) (by grind[CI]) λk k1 k2=>?_;by_cases e:q=p
  ·subst e;have:=hroom.2 j hj;exact NT _ (by omega) (by omega)
  ·exact NT _ (by omega) (by omega)
 refine⟨⟨hs',λq hq=>?_⟩,λu hu=>?_⟩
 ·rw[HT hs' hq];have hold:=(HT hs hq).1 (hp q hq);by_cases e:q=p
  ·subst e;have hcl':¬cA h q<0:=by omega
   unfold aDC at hold ⊢;have hcc:cA ⟨Gv.j8 h.Bytes ((iS s (bJ h s)).toNat+4+o) t,h.Class⟩ q=cA h q:=rfl;rw[hcc];rw[aP hcl'] at hold ⊢;obtain⟨⟨a1,a2,a3⟩,a4,a5⟩:=hold;have bs:∀k,k<8->bt (Gv.j8 h.Bytes ((iS s (bJ h s)).toNat+4+o) t) (q*64+k)=bt h.Bytes (q*64+k):=λk hk=>NT _ (by omega) (by omega);have b0:=bs 0 (by omega);grind
  ·refine aDC.same hq hs (by grind[CI]) rfl (λk hk=>NT _ (by omega) (by omega)) hold
 ·obtain⟨p',i',p6',hi',es',ec',eo',ep'⟩:=qI hu;have e2:bJ ⟨Gv.j8 h.Bytes ((iS s (bJ h s)).toNat+4+o) t,h.Class⟩ u=bJ h u:=rfl;grind[j7]
theorem lC.j8{m:Mem}(hm:lC m){s:Int}(hc:0<=bJ m.Heap s){o:Nat}{t:List UInt8}(ht:((o+t.length:Nat):Int)<=jC (bJ m.Heap s)):vU m ⟨⟨Gv.j8 m.Heap.Bytes ((iS s (bJ m.Heap s)).toNat+4+o) t,m.Heap.Class⟩,m.aD⟩ (-1):=by obtain⟨a,b⟩:=XN.j8 hm.1.1 hc ht;refine⟨lC.heap hm a λx hx=>⟨rfl,b x (lC.oZ hm hx).1⟩,λt ht _=>?_⟩;have ht':=iK.1 ht;have e:=b t ht'.1;exact⟨iK.2 ⟨ht'.1,ht'.2.1,by grind⟩,e,rfl⟩
def aWM:gR:=⟨0,0,0⟩
def A4(h:Heap)(s:Int):Nat:=(iS s (bJ h s)).toNat+4
def aA7(h:Heap)(s:Int):gR:=⟨ld h.Bytes (A4 h s) 2,ld h.Bytes (A4 h s+2) 4,ld h.Bytes (A4 h s+6) 4⟩
def ZN(h:Heap)(x:Int):gR:=if kU x/\0<=bJ h (x % 32)/\10<=jC (bJ h (x % 32)) then aA7 h (x % 32) else aWM
theorem D9{h:Heap}{s:Int}(hcl:0<=bJ h s)(h10:10<=jC (bJ h s)):A4 h s+10<=384/\16<=jC (bJ h s):=by grind[bJ,A4,qI,jC,cM,aX]
theorem aOB{h:Heap}(hs:fO h)(s:Int):GF h s=some (decide (10<=jC (bJ h s))):=by grind[GF,kS,Y6]
theorem aDD{h:Heap}(hs:fO h){s:Int}(hc:0<=bJ h s):zR h s=some (A4 h s:Int):=by have:=aAG hc;grind[zR,A4,kS,start_eq]
theorem aHD{h:Heap}(hs:fO h){s:Int}(hc:0<=bJ h s)(h10:10<=jC (bJ h s)):pZ h s=some (aA7 h s):=by
 have hr:=(D9 hc h10).1;have h1:=hs.1;unfold pZ aA7;rw[aDD hs hc,aJ,show(2:Int)=((2:Nat):Int) from rfl,show(4:Int)=((4:Nat):Int) from rfl,vQ hs.2.2.1 (by omega) (by omega) (by omega),aJ,
  eB,show(A4 h s:Int)+((2:Nat):Int)=((A4 h s+2:Nat):Int) by omega,vQ hs.2.2.1 (by omega) (by omega) (by omega),aJ,
  eB,show(A4 h s:Int)+6=((A4 h s+6:Nat):Int) by omega,vQ hs.2.2.1 (by omega) (by omega) (by omega)];rfl
theorem aRQ{m:Mem}(hm:lC m)(x:Int):∃c,KS m x=some (ZN m.Heap x,c):=by
 have hs:=hm.1.1.1;unfold KS ZN;rw[g8,aJ];by_cases hh:kU x
 ·rw[cD hh,g7,(kU.mod hh).1,kS hs,aJ];unfold GG;by_cases hc:bJ m.Heap (x % 32)<0
  ·rw[cD hc,aL rfl,jH];exact⟨_,rfl⟩
  ·rw[eU hc,g7,(kU.mod hh).1,aOB hs,aJ];by_cases h10:10<=jC (bJ m.Heap (x % 32))
   ·simp_all[aHD]
   ·rw[eU h10,aL (by rfl),jH];exact⟨_,rfl⟩
 ·rw[eU hh,aL (by rfl),aP (λq=>hh q.1)];exact⟨_,rfl⟩
def TZ(n:gR):Int:=if kU n.Next then n.Next else 0
theorem aT0(n:gR):hU n=some (TZ n):=by unfold hU TZ;rw[g8,aJ];grind
theorem aHE(n:gR):kV (TZ n):=by
 unfold TZ;split
 ·exact .inr (by assumption)
 ·exact .inl rfl
def kX(m:Mem)(x:Int):Prop:=mN m x/\10<=jC (bJ m.Heap (x % 32))
instance (m:Mem) (x:Int):Decidable (kX m x):=by unfold kX;infer_instance
theorem ZO{m:Mem}(hm:lC m)(x:Int):∃c,wD m x=some c/\(c=0↔kX m x):=by
 obtain⟨hcnt,h3,h9,h1,h2,hsm,hcp,hlo,hsG,hsO⟩:=lC.facts hm;have hs:=hm.1.1.1;unfold wD kX;rw[HP hs (by omega) (by rw[h3];simp[maxLen]) (by rw[h9];simp[maxLen]),aJ];by_cases hl:mN m x
 ·rw[cD hl,g7,(kU.mod hl.1).1,aOB hs,aJ];by_cases h10:10<=jC (bJ m.Heap (x % 32))
  ·rw[cD h10,g7];exact⟨_,rfl,by simp[hl,h10]⟩
  ·rw[eU h10,aL (by rfl)];exact⟨_,rfl,by simp[hl,h10]⟩
 simp_all
def T0(n:Int):List UInt8:=[u8 (n/256),u8 n]
theorem aZQ{n:Int}(hn:0<=n/\n<=65535):mQ n 2=some (T0 n):=by
 have hw:zJ 2=some true:=by grind[zJ,dI]
 unfold mQ;rw[hw];have e1:IntKind.u64.wrap (bA (8*2))=16:=by decide
 have e2:aLC .i64 1 16=65536:=by decide
 simp only[aJ,i5,bO,bM,e1,e2];rw[Y4,R1,eU (by omega)];simp only[vZ,bO,bM];rw[R1,show bA (2-1)=((1:Nat):Int) from by grind[cC]];have st:∀(m:Int) (c:List UInt8) (i:Nat),i<c.length->i<4->0<=m->qM (m,c,(i:Int))=some (.next (m/256,c.set i (u8 m),(i:Int)-1)):=λm c i hc hi h0=>by simp only[qM];rw[aL (by simp),aV hc,aJ,show(8:Int)=((8:Nat):Int) from rfl,a2A h0 (by omega),eB,MR];rfl
 rw[bG (st n _ 1 (by simp) (by omega) hn.1),show((1:Nat):Int)-1=((0:Nat):Int) by rfl,
  bG (st _ _ 0 (by simp) (by omega) (by omega)),bD (r:=T0 n)]
 ·rfl
 ·simp only[qM];rw[g7];rfl
def aQP(n:gR):List UInt8:=T0 n.Key++oN n.eI++oN n.Next
def aHF(n:gR):Prop:=(0<=n.Key/\n.Key<=99)/\(0<=n.eI/\n.eI<=65535)/\kV n.Next
instance (n:gR):Decidable (aHF n):=by unfold aHF;infer_instance
theorem aRR(n:gR):KT n=some (decide (aHF n)):=by grind[KT,aHF,dI,HW,yE]
theorem aFN{x:Int}(h:kV x):0<=x/\x<=223:=by
 rcases h with h|h
 ·omega
 ·have:=h.1;omega
def aFO(m:Mem)(x:Int)(n:gR):Mem:=if aHF n/\kX m x then⟨⟨j8 m.Heap.Bytes (A4 m.Heap (x % 32)) (aQP n),m.Heap.Class⟩,m.aD⟩ else m
theorem aZR{m:Mem}(hm:lC m)(x:Int)(n:gR):∃c,NF m x n=some (aFO m x n,c):=by
 obtain⟨hcnt,h3,h9,h1,h2,hsm,hcp,hlo,hsG,hsO⟩:=lC.facts hm;have hs:=hm.1.1.1;have hbl:m.Heap.Bytes.length<=maxLen:=by grind[maxLen]
 unfold NF aFO;rw[QQ hsm,aJ,CF hbl (by omega),cD hm,aJ,g7,aRR,aJ];unfold C6;by_cases hn:aHF n
 ·rw[cD hn,g7];obtain⟨c,e,hc⟩:=ZO hm x;rw[e,aJ];by_cases hw:kX m x
  ·have hcl:=dL hw.1.2.1;have hr:=(D9 hcl hw.2).1;have hnx:=aFN hn.2.2;have hk1:=hn.1.2;have hv1:=hn.2.1.2;obtain rfl:=hc.2 hw;rw[aL (by rfl),(kU.mod hw.1.1).1,aDD hs hcl,aJ,aZQ ⟨hn.1.1,by omega⟩,aJ,VK ⟨hn.2.1.1,by omega⟩,aJ,bY (by simp[T0,oN]),
    VK ⟨hnx.1,by omega⟩,aJ,bY (by simp[T0,oN]),aRP (by omega) (by grind[T0,oN]),aJ,aL ⟨hn,hw⟩]
   exact⟨_,rfl⟩
  ·rw[aP (by grind),aP (λq=>hw q.2)];exact⟨_,rfl⟩
 simp_all
def aH6(m:Mem)(x y:Int):Mem:=if kV y/\kX m x then⟨⟨j8 m.Heap.Bytes (A4 m.Heap (x % 32)+6) (oN y),m.Heap.Class⟩,m.aD⟩ else m
theorem a41{m:Mem}(hm:lC m)(x y:Int):∃c,QE m x y=some (Gv.aH6 m x y,c):=by
 obtain⟨hcnt,h3,h9,h1,h2,hsm,hcp,hlo,hsG,hsO⟩:=lC.facts hm;have hs:=hm.1.1.1;have hbl:m.Heap.Bytes.length<=maxLen:=by grind[maxLen]
 unfold QE Gv.aH6;rw[QQ hsm,aJ,CF hbl (by omega),cD hm,aJ,g7,HW,aJ];unfold GJ;by_cases hn:kV y
 ·rw[cD hn,g7];obtain⟨c,e,hc⟩:=ZO hm x;rw[e,aJ];by_cases hw:kX m x
  ·have hcl:=dL hw.1.2.1;have hr:=(D9 hcl hw.2).1;have hnx:=aFN hn;obtain rfl:=hc.2 hw;rw[aL (by rfl),(kU.mod hw.1.1).1,aDD hs hcl,aJ,VK ⟨hnx.1,by omega⟩,aJ,eB,show(A4 m.Heap (x % 32):Int)+6=((A4 m.Heap (x % 32)+6:Nat):Int) by omega,
    aRP (by omega) (by grind[oN]),aJ,aL ⟨hn,hw⟩]
   exact⟨_,rfl⟩
  ·rw[aP (by grind),aP (λq=>hw q.2)];exact⟨_,rfl⟩
 simp_all
theorem a9S{m:Mem}(hm:lC m)(x:Int)(n:gR):vU m (aFO m x n) (-1):=by
 unfold aFO;split
 ·rename_i h;have:=D9 (dL h.2.1.2.1) h.2.2;exact lC.j8 hm (dL h.2.1.2.1) (o:=0) (by grind[aQP,T0,oN])
 ·exact⟨hm,λs h _=>⟨h,rfl,rfl⟩⟩
theorem a9T{m:Mem}(hm:lC m)(x y:Int):vU m (Gv.aH6 m x y) (-1):=by
 unfold Gv.aH6;split
 ·rename_i h;have:=D9 (dL h.2.1.2.1) h.2.2;exact lC.j8 hm (dL h.2.1.2.1) (o:=6) (by grind[oN])
 ·exact⟨hm,λs h _=>⟨h,rfl,rfl⟩⟩
def a2K:Heap:=⟨List.replicate 384 0,[-1,-1,-1,-1,-1,-1]⟩
def bIN:aD:=⟨List.replicate 3 ⟨[]⟩,List.replicate 9 ⟨[]⟩⟩
def a2L:aA:=⟨⟨a2K,bIN⟩,⟨0,List.replicate 3 ⟨false,0,false,0⟩⟩,List.replicate 3 ⟨[]⟩,List.replicate 3 0⟩
theorem aKA:MY=some a2K:=by
 unfold MY;have key:loop uP (0,[])=some (List.replicate 6 (-1)):=jG (f:=uP) 6 (λk=>((k:Int),List.replicate k (-1))) _ (λk hk=>by
  simp only[uP];rw[dM,R0,eB,List.replicate_succ'];rfl) (by simp[uP])
 rw[R1,key];rfl
theorem bIO:wS [-1] 6=some [-1,-1,-1,-1,-1,-1]:=by
 unfold wS;rw[g7,show RD (IntKind.u64.wrap (([-1]:List Int).length:Int)) (IntKind.u64.wrap 6)=some (0,6) by kernel_rfl];simp only[aJ];rw[g7,eU (by omega)];simp only[pO,bO,bM];rw[show IntKind.i64.wrap 6=6 from wrap_i64 (by omega) (by omega),R1,
  show(cW (List.replicate (Int.toNat 6) 0) 0 [-1],((min ([-1]:List Int).length ((List.replicate (Int.toNat 6) (0:Int)).length-0):Nat):Int))=([-1,0,0,0,0,0],1) by kernel_rfl,
  bG (body:=lS) (s':=([-1,-1,0,0,0,0],2)) (by kernel_rfl),bG (body:=lS) (s':=([-1,-1,-1,-1,0,0],4)) (by kernel_rfl),
  bG (body:=lS) (s':=([-1,-1,-1,-1,-1,-1],6)) (by kernel_rfl),bD (body:=lS) (r:=[-1,-1,-1,-1,-1,-1]) (by kernel_rfl)]
 rfl
theorem aKB:M0=some a2K:=by unfold M0;rw[R1,bIO];rfl
theorem aOC:MZ=some a2L/\M1=some a2L:=by unfold MZ M1 XZ X4 Q1 RE RB RF RC RG X0 X5;rw[aKA,aKB,R1,R1,R1,R1,R1];exact⟨rfl,rfl⟩
theorem a9U:kW a2L:=of_decide_eq_true (by kernel_rfl)
def EA{O:Type}(o:Option O)(Q:O->Prop):Prop:=∃x,o=some x/\Q x
abbrev bF7{σ ρ:Type}(I:σ->Prop)(Q:ρ->Prop):Step σ ρ->Prop
 |.next s=>I s
 |.stop r=>Q r
namespace EA
variable {O β σ ρ:Type} {Q:O->Prop}
theorem ret{x:O}(h:Q x):EA (some x) Q:=⟨x,rfl,h⟩
theorem bind{P:β->Prop}{o:Option β}{f:β->Option O}(h:EA o P)(hf:∀x,P x->EA (f x) Q):EA (o.bind f) Q:=by obtain⟨x,e,hx⟩:=h;grind
theorem need{p:Prop}[Decidable p]{k:Option O}(h:p)(hk:EA k Q):EA (Gv.need p k) Q:=by grind[bY]
theorem ite{c:Prop}[Decidable c]{a b:Option O}(h1:c->EA a Q)(h2:¬c->EA b Q):EA (if c then a else b) Q:=by grind
theorem mono{P:O->Prop}{o:Option O}(h:EA o P)(hf:∀x,P x->Q x):EA o Q:=by obtain⟨x,e,hx⟩:=h;exact⟨x,e,hf x hx⟩
theorem idx{l:List β}{i:Int}(h:0<=i/\i<l.length):EA (Gv.idx l i) (λx=>x∈l):=⟨_,gX h.1 h.2,dJ _⟩
theorem loop{Q:ρ->Prop}{f:σ->Option (Step σ ρ)}{s:σ}(μ:σ->Nat)(Inv:σ->Prop)(h0:Inv s)(hb:∀s,Inv s->EA (f s) (bF7 (λs'=>Inv s'/\μ s'<μ s) (λr=>Q r))):EA (Gv.loop f s) Q:=by
 have key:∀n s,μ s<n->Inv s->EA (Gv.loop f s) Q:=by
  intro n;induction n with
  |zero=>omega
  |succ n ih=>
   intro s h hs;obtain⟨q,e,hq⟩:=hb s hs;cases q with
   |next s'=>grind[bG]
   |stop r=>rw[bD e];exact⟨r,rfl,hq⟩
 exact key _ s (Nat.lt_succ_self _) h0
theorem of{o:Option O}{x:O}(h:o=some x):EA o (λy=>y=x):=⟨x,h,rfl⟩
end EA
def Cu(b:List UInt8)(i:Int):Prop:=(0<=i/\i<=b.length)/\b.length<=1048576
theorem a9V(x:Int):0<=iF .and .i64 x 255/\iF .and .i64 x 255<=255:=by have e:iF .and .i64 x 255=IntKind.i64.wrap ((BitVec.ofInt 64 x &&& BitVec.ofInt 64 255).toNat:Int):=rfl;grind[Nat.and_le_right,wrap_i64]
section
variable {b:List UInt8} {i h:Int} (hc:Cu b i)
include hc
theorem aWN:EA (sZ ⟨b,i,h⟩) (λx=>(0<=x.1/\x.1<=255)/\Cu b x.2.1):=by
 unfold sZ E7;obtain⟨⟨a1,a2⟩,a3⟩:=hc;refine .ite (λq=>?_) (λq=>?_)
 ·have q':=of_decide_eq_true q;simp only at q';refine .bind (.idx ⟨a1,q'⟩) λx _=>.ret ⟨a9V _,?_⟩;grind[Cu,cC]
 ·exact .ret ⟨a9V _,⟨a1,a2⟩,a3⟩
theorem below{n:Int}(hn:n<=1000000):EA (fY ⟨b,i,h⟩ n) (λx=>(0<=x.1/\(x.1<n\/n<=0/\x.1=0))/\Cu b x.2.1):=by
 unfold fY;refine .ite (λq=>?_) (λq=>?_)
 ·have q':=of_decide_eq_true q;exact .ret ⟨by simp;omega,hc⟩
 ·have q0:0<n:=by grind
  refine .ite (λq=>?_) (λq=>?_)
  ·refine .bind (aWN hc) λx ⟨hx,h1⟩=>.need (by omega) (.ret ⟨?_,h1⟩);simp only[OZ hx.1];exact⟨Int.emod_nonneg _ (by omega),.inl (Int.emod_lt_of_pos _ q0)⟩
  ·refine .bind (aWN hc) λx ⟨hx,h1⟩=>.bind (aWN h1) λy ⟨hy,h2⟩=>.bind (aWN h2) λz ⟨hz,h3⟩=>.bind (aWN h3) λw ⟨hw,h4⟩=>.need (by omega) (.ret ⟨?_,h4⟩);have e:bA (bA (bA (bA (x.1*16777216)+bA (y.1*65536))+bA (z.1*256))+w.1)=x.1*16777216+y.1*65536+z.1*256+w.1:=by grind[cC]
   simp only[e];rw[OZ (by omega)];exact⟨Int.emod_nonneg _ (by omega),.inl (Int.emod_lt_of_pos _ q0)⟩
theorem bK7{n:Int}(hn:n<=1000000):EA (XY ⟨b,i,h⟩ n) (λx=>Cu b x.2.1):=
 .bind (below hc hn) λ_ ⟨_,h1⟩=>.ret h1
theorem aRS{l:List Int}(hl:0<l.length)(hl2:l.length<=1000):EA (nU ⟨b,i,h⟩ l) (λx=>x.1∈l/\Cu b x.2.1):=
 .bind (below hc (by omega)) λx ⟨hx,h1⟩=>.bind (.idx (by omega)) λy hy=>.ret ⟨hy,h1⟩
end
theorem bNH{code:List UInt8}(hl:code.length<=1048576):EA (UG code) (λx=>Cu code x.1):=by
 unfold UG;refine .bind (P:=λ_=>True) (.loop (λs=>code.length-s.2.toNat) (λs=>0<=s.2/\s.2<=code.length) ⟨by simp,by simp⟩ ?_) λx _=>.ret ⟨⟨by simp,by simp⟩,hl⟩;rintro⟨a,k⟩ ⟨h1,h2⟩;simp only[aBJ,JJ];simp only at h1 h2;have nx:k<code.length->EA ((idx code k).bind λx7=>some (Step.next (iF .and .i64 (bA ((bA ((bA (a*131))+(x7.toNat:Int)))+7)) 1073741823,bA (k+1)))) (bF7 (ρ:=Int) (λs'=>(0<=s'.2/\s'.2<=code.length)/\code.length-s'.2.toNat<code.length-k.toNat) (λr=>True)):=λhk=>by refine .bind (.idx ⟨h1,hk⟩) λx _=>.ret ?_;grind[cC]
 refine .ite (λq=>?_) (λq=>?_)
 ·have q':=of_decide_eq_true q;exact .ite (λ_=>nx q') (λ_=>.ret trivial)
 ·rw[g7];exact .ret trivial
def Hk(h:Heap):Prop:=h.Bytes.length=384/\h.Class.length=6
def Wk(m:Mem):Prop:=Hk m.Heap/\m.aD.Global.length=3/\m.aD.Own.length=9/\(dY m.aD).length<=24
theorem lC.wk{m:Mem}(hm:lC m):Wk m:=by obtain⟨a,b,c,d,e,_⟩:=lC.facts hm;exact⟨⟨d,e⟩,b,c,a⟩
theorem Wk.small{m:Mem}(h:Wk m):D7 m:=by obtain⟨⟨a,b⟩,c,d,e⟩:=h;exact⟨by omega,by omega,by omega,by omega,by omega⟩
theorem a42(b:aA)(w:Int)(s:Sub):(iB b w s).2.Kind=s.Kind:=by unfold iB ZK O7 xF cJ bZ AE qY;grind
theorem EB{b:aA}{w:Int}{s:Sub}(h:s.Kind=1\/s.Kind=2\/s.Kind=4):(iB b w s).1.aC=b.aC:=by
 unfold iB;rcases h with k|k|k
 ·simp only[k,bU];unfold ZK O7;grind
 ·simp only[k];unfold xF;grind
 ·simp only[k];unfold bZ;grind
theorem wI{c:aC}(hc:JC c){w v:Int}(hw:0<=w/\w<=2)(hv:0<=v/\v<=2)(e:Int)(x:vW):b9 ⟨e,c.cQ.set w.toNat x⟩ v=if v=w then x else b9 c v:=by have h3:=hc.2.1;unfold b9;grind
def qJ(j:Job):Prop:=j.cO=true/\(j.Op.Kind=2\/j.Op.Kind=5)/\j.Pc=0
def Adv(j:Job):Prop:=j.cO=true/\j.Op.Kind=4/\j.Pc=0
def JI(e:Int)(p:vW)(j:Job):Prop:=j.cO=true ->
 (j.Op.Kind=1->j.Sub.Kind=1\/j.Sub.Kind=2)/\(j.Op.Kind=4->j.Pc=1->j.Sub.Kind=4) /\
 (Adv j->j.Sub.Kind=3/\j.Sub.gL=false/\(j.Sub.Pc=0\/j.Sub.E<=e/\(j.Sub.Pc=1/\(0<=j.Sub.B/\j.Sub.B<=2)\/j.Sub.Pc=2/\j.Sub.B=3))) /\
 (qJ j->j.Sub.Kind=5/\j.Sub.gL=false/\(j.Sub.Pc=0\/j.Sub.Pc=1/\(0<=j.Sub.E/\j.Sub.E<=e)\/j.Sub.Pc=2/\p.aE=j.Sub.E))
def Calm(j:Job):Prop:=¬qJ j/\¬Adv j/\(j.Op.Kind=1->j.Sub.Kind=1\/j.Sub.Kind=2)/\(j.Op.Kind=4->j.Pc=1->j.Sub.Kind=4)
theorem Calm.ji{j:Job}(h:Calm j)(e:Int)(p:vW):JI e p j:=λ_=>⟨h.2.2.1,h.2.2.2,λq=>absurd q h.2.1,λq=>absurd q h.1⟩
def Ep(c:aC)(J:Int->Job):Prop:=(∀w,0<=w/\w<=2->JI c.aE (b9 c w) (J w))/\∀p,0<=p/\p<=2->¬qJ (J p)->(b9 c p).On=true->(b9 c p).gU=false->c.aE<=(b9 c p).aE+1/\(c.aE=(b9 c p).aE+1->∀a,0<=a/\a<=2->Adv (J a)->(J a).Sub.Pc≠0->(J a).Sub.E=c.aE->(J a).Sub.B<=p)
def upJ(J:Int->Job)(w:Int)(j:Job):Int->Job:=λv=>if v=w then j else J v
theorem HX(J:Int->Job)(w:Int)(j:Job):upJ J w j w=j:=aL rfl
theorem pJ(J:Int->Job){w v:Int}(j:Job)(h:v≠w):upJ J w j v=J v:=aP h
section
variable {c:aC} {J:Int->Job} (h:Ep c J)
include h
theorem Ep.congr{J':Int->Job}(e:∀v,0<=v/\v<=2->J' v=J v):Ep c J':=by refine⟨λw hw=>by rw[e w hw];exact h.1 w hw,λp hp hn h1 h2=>?_⟩;rw[e p hp] at hn;obtain⟨a1,a2⟩:=h.2 p hp hn h1 h2;grind
variable {w:Int} (hw:0<=w/\w<=2) {j:Job}
include hw
theorem Ep.step{c':aC}(he:c'.aE=c.aE)(hp:∀v,0<=v/\v<=2->v≠w->b9 c' v=b9 c v)(hj:JI c.aE (b9 c' w) j)
  (h2:¬qJ j->(b9 c' w).On=true->(b9 c' w).gU=false->c.aE<=(b9 c' w).aE+1/\(c.aE=(b9 c' w).aE+1->∀a,0<=a/\a<=2->a≠w->Adv (J a)->(J a).Sub.Pc≠0->(J a).Sub.E=c.aE->(J a).Sub.B<=w))
  (ha:Adv j->j.Sub.Pc=0\/j.Sub.B=0):Ep c' (upJ J w j):=by
 constructor
 ·intro v hv;rw[he];by_cases q:v=w
  ·grind[HX]
  ·rw[pJ _ _ q,hp v hv q];exact h.1 v hv
 ·intro p hpr hn o1 o2;rw[he];have hadv:∀a,0<=a/\a<=2->(∀q:a≠w,Adv (J a)->(J a).Sub.Pc≠0->(J a).Sub.E=c.aE->(J a).Sub.B<=p)->Adv (upJ J w j a)->(upJ J w j a).Sub.Pc≠0->(upJ J w j a).Sub.E=c.aE->(upJ J w j a).Sub.B<=p:=by grind[HX,pJ]
  by_cases q:p=w
  ·grind[HX]
  ·rw[pJ _ _ q] at hn;rw[hp p hpr q] at o1 o2 ⊢;obtain⟨a1,a2⟩:=h.2 p hpr hn o1 o2;grind
theorem Ep.still(hn:¬qJ (J w))(hj:Calm j):Ep c (upJ J w j):=
 h.step hw rfl (λ_ _ _=>rfl) (hj.ji _ _) (λ_ o1 o2=>by
  obtain⟨a1,a2⟩:=h.2 w hw hn o1 o2;grind) (λq=>absurd q hj.2.1)
theorem Ep.bK8(hc:JC c)(hn:¬qJ (J w))(hj:Calm j):Ep (D8 c w).1 (upJ J w j):=by
 unfold D8;by_cases q:(b9 c w).On
 ·rw[aL q];refine h.step hw rfl (λv hv hvw=>by simp_all[wI]) (hj.ji _ _) (λ_ o1=>?_) (λq=>absurd q hj.2.1);simp_all[wI]
 ·rw[aP q];exact h.still hw hn hj
theorem Ep.pin{b:aA}(hb:b.aC=c)(hc:JC c)(hj:J w=j)(hP:qJ j){fin:Job}(hf:Calm fin) :
  Ep (AE b w j.Sub).1.aC (upJ J w (if(AE b w j.Sub).2.gL then fin else {j with Sub:=(AE b w j.Sub).2})):=by
 have hji:=h.1 w hw;rw[hj] at hji;have hk5:=hP.2.1;obtain⟨k,d,hpc⟩:=(hji hP.1).2.2.2 hP;have noadv:∀s:Sub,¬Adv {j with Sub:=s}:=λs q=>by have:=q.2.1;grind
 have hP':∀s:Sub,qJ {j with Sub:=s}:=λs=>hP;have mk:∀(s:Sub) (p:vW),(s.Kind=5/\s.gL=false/\(s.Pc=0\/s.Pc=1/\(0<=s.E/\s.E<=c.aE)\/s.Pc=2/\p.aE=s.E))->JI c.aE p {j with Sub:=s}:=λs p hs _=>⟨λq=>by grind,λq=>by grind,λq=>absurd q (noadv s),λ_=>hs⟩;unfold AE;rw[hb];rcases hpc with p0|⟨p1,e0,e1⟩|⟨p2,pe⟩
 ·simp only[aL p0,d,bO,bM,hb];exact h.step hw rfl (λ_ _ _=>rfl) (mk _ _ ⟨k,rfl,.inr (.inl ⟨rfl,hc.1.1,H6 _⟩)⟩) (λq=>absurd (hP' _) q) (λq=>absurd q (noadv _))
 ·have hpt:R9 c w j.Sub.E=(⟨c.aE,c.cQ.set w.toNat ⟨true,j.Sub.E,false,0⟩⟩,true):=by simp_all[R9]
  simp only[aP (show ¬j.Sub.Pc=0 by omega),aL p1,hpt,bU,d,bO,bM];exact h.step hw rfl (λv hv hvw=>by simp_all[wI]) (mk _ _ ⟨k,rfl,.inr (.inr ⟨rfl,by simp_all[wI]⟩)⟩) (λq=>absurd (hP' _) q) (λq=>absurd q (noadv _))
 ·simp only[aP (show ¬j.Sub.Pc=0 by omega),aP (show ¬j.Sub.Pc=1 by omega),aL p2];by_cases q:c.aE=j.Sub.E
  ·simp only[aL q,qY,bU,hb];exact h.step hw rfl (λ_ _ _=>rfl) (hf.ji _ _) (λ_ _ _=>⟨by omega,λe=>by omega⟩) (λq=>absurd q hf.2.1)
  ·simp only[aP q,d,bO,bM,hb];exact h.step hw rfl (λ_ _ _=>rfl) (mk _ _ ⟨k,rfl,.inl rfl⟩) (λq=>absurd (hP' _) q) (λq=>absurd q (noadv _))
omit h hw in
theorem ZP(hc:JC c){q:Int}(hq:0<=q/\q<=2)(e:Int):(EX c q e).1.aE=c.aE/\(∀v,0<=v/\v<=2->(b9 (EX c q e).1 v).On=(b9 c v).On/\(b9 (EX c q e).1 v).aE=(b9 c v).aE/\((b9 (EX c q e).1 v).gU=false->(b9 c v).gU=false)) /\
  ((EX c q e).2=true->(b9 (EX c q e).1 q).On=true->(b9 (EX c q e).1 q).gU=false->(b9 c q).aE=e):=by
 unfold EX;by_cases k1:(b9 c q).On=false\/(b9 c q).gU=true\/(b9 c q).aE=e
 ·grind
 ·rw[aP k1];by_cases k2:(b9 c q).Seen=2
  ·rw[aL k2];refine⟨rfl,λv hv=>?_,λ_ _ o2=>?_⟩
   ·rw[wI hc hq hv];grind
   simp_all[wI]
  ·rw[aP k2];refine⟨rfl,λv hv=>?_,λx=>by cases x⟩;rw[wI hc hq hv];grind
theorem Ep.advance{b:aA}(hb:b.aC=c)(hc:JC c)(hj:J w=j)(hA:Adv j){fin:Job}(hf:Calm fin) :
  Ep (cJ b j.Sub).1.aC (upJ J w (if(cJ b j.Sub).2.gL then fin else {j with Sub:=(cJ b j.Sub).2})):=by
 have hji:=h.1 w hw;rw[hj] at hji;have hk4:=hA.2.1;obtain⟨k,d,hpc⟩:=(hji hA.1).2.2.1 hA;have nopin:∀s:Sub,¬qJ {j with Sub:=s}:=λs q=>by have:=q.2.1;grind
 have nopw:¬qJ (J w):=by simp_all
 have mk:∀(s:Sub) (p:vW) (e:Int),(s.Kind=3/\s.gL=false/\(s.Pc=0\/s.E<=e/\(s.Pc=1/\(0<=s.B/\s.B<=2)\/s.Pc=2/\s.B=3)))->JI e p {j with Sub:=s}:=λs p e hs _=>⟨λq=>by grind,λ_ q=>by simp only at q;have:=hA.2.2;omega,λ_=>hs,λq=>absurd q (nopin s)⟩;unfold cJ;rw[hb];rcases hpc with p0|⟨el,⟨p1,B0,B2⟩|⟨p2,B3⟩⟩
 ·simp only[aL p0,d,bO,bM,hb];refine h.step hw rfl (λ_ _ _=>rfl) (mk _ _ _ ⟨k,rfl,.inr ⟨H6 _,.inl ⟨rfl,by simp,by simp⟩⟩⟩) (λ_ o1 o2=>?_) (λ_=>.inr rfl);obtain⟨a1,a2⟩:=h.2 w hw nopw o1 o2;grind
 ·obtain⟨le,lv,lq⟩:=ZP hc (q:=j.Sub.B) ⟨B0,B2⟩ j.Sub.E;simp only[aP (show ¬j.Sub.Pc=0 by omega),aL p1,aL (show 0<=j.Sub.B/\j.Sub.B<=2 from⟨B0,B2⟩)];have others:∀v,0<=v/\v<=2->JI (EX c j.Sub.B j.Sub.E).1.aE (b9 (EX c j.Sub.B j.Sub.E).1 v) (J v):=λv hv=>by have:=h.1 v hv;rw[le];intro hbv;obtain⟨x1,x2,x3,x4⟩:=this hbv;grind
  cases hl:(EX c j.Sub.B j.Sub.E).2
  ·simp only[bO,bM,qY,bU];refine⟨λv hv=>?_,λp hp hn o1 o2=>?_⟩
   ·by_cases q:v=w
    ·subst q;rw[HX];exact hf.ji _ _
    grind[pJ]
   ·have hn':¬qJ (J p):=by grind[pJ]
    obtain⟨y1,y2,y3⟩:=lv p hp;rw[y1] at o1;obtain⟨a1,a2⟩:=h.2 p hp hn' o1 (y3 o2);rw[le,y2];refine⟨a1,λe a har=>?_⟩;by_cases q:a=w
    ·subst q;rw[HX];exact λq=>absurd q hf.2.1
    grind[pJ]
  ·simp only[bU,d,bO,bM];refine⟨λv hv=>?_,λp hp hn o1 o2=>?_⟩
   ·by_cases q:v=w
    ·subst q;rw[HX,le];grind
    grind[pJ]
   ·have hn':¬qJ (J p):=by grind[pJ]
    obtain⟨y1,y2,y3⟩:=lv p hp;have o1':=o1;rw[y1] at o1';obtain⟨a1,a2⟩:=h.2 p hp hn' o1' (y3 o2);grind[HX,pJ]
 ·simp only[aP (show ¬j.Sub.Pc=0 by omega),aP (show ¬j.Sub.Pc=1 by omega),aL p2,qY,bU];unfold QU;by_cases q:c.aE=j.Sub.E/\j.Sub.E≠100000
  ·simp only[aL q];refine⟨λv hv=>?_,λp hp hn o1 o2=>?_⟩
   ·by_cases z:v=w
    ·subst z;rw[HX];exact hf.ji _ _
    ·rw[pJ _ _ z];intro hbv;obtain⟨x1,x2,x3,x4⟩:=h.1 v hv hbv;refine⟨x1,x2,λq=>?_,λq=>?_⟩
     ·grind
     ·obtain⟨z1,z2,z3⟩:=x4 q;exact⟨z1,z2,z3.imp id λz4=>z4.imp (λz5=>⟨z5.1,z5.2.1,by grind⟩) id⟩
   ·have hn':¬qJ (J p):=by grind[pJ]
    have o1':(b9 c p).On=true:=o1;have o2':(b9 c p).gU=false:=o2;obtain⟨a1,a2⟩:=h.2 p hp hn' o1' o2';have hpk:=(aN8 hc hp).1.2;have hne:c.aE≠(b9 c p).aE+1:=λe=>by grind
    have hep:b9 ⟨j.Sub.E+1,c.cQ⟩ p=b9 c p:=rfl;rw[hep];refine⟨by grind,λe a har hA' hp' hE'=>?_⟩;exfalso;by_cases z:a=w
    ·subst z;rw[HX] at hA';exact hf.2.1 hA'
    ·rw[pJ _ _ z] at hA' hp' hE';obtain⟨_,_,z3⟩:=(h.1 a har hA'.1).2.2.1 hA';omega
  ·simp only[aP q];exact h.still hw nopw hf
end
theorem aHG{b:aA}(hb:kW b){w:Int}(hw:0<=w/\w<=2)(s:Sub):qO s b w=some ((iB b w s).2,(iB b w s).1):=by obtain⟨x,y,e1,e2,h⟩:=step_eq hb hb.small hw s;grind[a2J]
def dA:aH:=⟨false,⟨false,[]⟩,0,0,0,0,0,0,0,0,aWM,false,0,⟨0,0,0,0,0,0,0,0,0,false⟩,[],[],[],[],[],[]⟩
def iD(k:List cR)(i:Int):cR:=k.getD i.toNat ⟨0,0,0⟩
def A7(j:aH)(c:Int):aH:={j with Pc:=16,Code:=c}
def XO(a b:Int):Int:=Int.tmod (bA (a+b)) 65536
def zE(j:aH)(x:aW):Bool×aH:=if 6<(MP j.aI x).length then(false,A7 j 1) else(true,{j with aI:=MP j.aI x})
def aA8(j:aH)(is:Bool)(v:Int):aH:={j with jV:=j.jV++[⟨is,v⟩],Pc:=1,At:=j.At+1}
def aHH(j:aH)(c:kN)(v:Int):aH:=if(zE j ⟨c.Key,false,XO v c.eI⟩).1 then aA8 (zE j ⟨c.Key,false,XO v c.eI⟩).2 true (XO v c.eI) else(zE j ⟨c.Key,false,XO v c.eI⟩).2
def JF(j:aH)(c:kN)(v:Int)(is:Bool):aH:=if c.Kind=4 then aHH j c (if is then v else 0) else aA8 j is (if is then v else 0)
def fP(j:aH):kN:=j.Batch.bW.getD j.At.toNat ⟨0,0,0⟩
def CJ(j:aH):Prop:=j.At<j.Batch.bW.length
instance (j:aH):Decidable (CJ j):=by unfold CJ;infer_instance
def VM(j:aH):aH:=
 if CJ j then
  if(fP j).Kind=2\/(fP j).Kind=3 then
   if(zE j ⟨(fP j).Key,(fP j).Kind == 3,(fP j).eI⟩).1 then {(zE j ⟨(fP j).Key,(fP j).Kind == 3,(fP j).eI⟩).2 with At:=j.At+1,jV:=j.jV++[⟨false,0⟩]}
   else(zE j ⟨(fP j).Key,(fP j).Kind == 3,(fP j).eI⟩).2
  else if(aJ5 j.aI (fP j).Key).2 then JF j (fP j) (aJ5 j.aI (fP j).Key).1.eI (!(aJ5 j.aI (fP j).Key).1.KJ)
  else {j with Pc:=2,cR:=oJ (fP j).Key}
 else {j with Pc:=6,K:=0,Sub:=AF 1 16}
def IN(b:aA)(k:List cR)(w:Int)(j:aH):aH:=
 if j.Pc=2 then
  if(iD k j.cR).gW≠0 then A7 j 7
  else {j with kC:=(iD k j.cR).kC,H:=(iD k j.cR).Head,Found:=false,Node:=aWM,Pc:=if(iD k j.cR).Head=0 then 5 else 3}
 else if j.Pc=3 then {j with Node:=ZN b.Mem.Heap j.H,Pc:=4}
 else if j.Pc=4 then
  if ¬((b9 b.aC w).On=true/\(b9 b.aC w).gU=false) then A7 j 6
  else if CJ j then {j with Found:=j.Node.Key == (fP j).Key,H:=TZ j.Node,Pc:=if j.Node.Key=(fP j).Key\/TZ j.Node=0 then 5 else 3}
  else A7 j 1
 else
  if(iD k j.cR).gW≠0\/(iD k j.cR).kC≠j.kC then A7 j 7
  else if(IM j.Reads j.cR j.kC).2=false then A7 {j with Reads:=(IM j.Reads j.cR j.kC).1} 7
  else if CJ j then JF {j with Reads:=(IM j.Reads j.cR j.kC).1} (fP j) j.Node.eI j.Found
  else A7 {j with Reads:=(IM j.Reads j.cR j.kC).1} 1
def HY(b:aA)(w:Int)(j:aH):aA×aH:=
 if fX j.aI j.aI.length<=j.K then(b,{j with Pc:=7,K:=0})
 else((iB b w j.Sub).1,
  if(iB b w j.Sub).2.gL=false then {j with Sub:=(iB b w j.Sub).2}
  else if(iB b w j.Sub).2.Code≠0\/¬kU (iB b w j.Sub).2.Out\/6<=j.gO.length then A7 {j with Sub:=(iB b w j.Sub).2} (iB b w j.Sub).2.Code
  else {j with gO:=j.gO++[(iB b w j.Sub).2.Out],K:=j.K+1,Sub:=AF 1 16})
def gJ(j:aH):Int:=(qX j.aI).getD j.K.toNat 0
def PN(j:aH):aH:={j with bI:=if gJ j∈j.bI then j.bI else j.bI++[gJ j],K:=j.K+1}
def O9(k:List cR)(w:Int)(j:aH):List cR×aH×Bool:=
 if j.K<(qX j.aI).length then
  if(iD k (gJ j)).gW≠0\/(j.Reads.any λs=>s.cR == gJ j && s.kC != (iD k (gJ j)).kC)=true then(k,A7 j 7,false)
  else if(iD k (gJ j)).kC=1000000 then(k,A7 j 3,false)
  else if(qX j.aI).length<=j.K+1 then(k.set (gJ j).toNat {iD k (gJ j) with gW:=w+1},{PN j with Pc:=8,K:=0},true)
  else(k.set (gJ j).toNat {iD k (gJ j) with gW:=w+1},PN j,false)
 else(k,{j with Pc:=8,K:=0},true)
def rdN(j:aH):Seen:=j.Reads.getD j.K.toNat ⟨0,0⟩
def XP(k:List cR)(w:Int)(j:aH):aH:=
 if j.Reads.length<=j.K then {j with Pc:=9,K:=0}
 else if((iD k (rdN j).cR).gW≠0/\(iD k (rdN j).cR).gW≠w+1)\/(iD k (rdN j).cR).kC≠(rdN j).kC then A7 j 7
 else {j with K:=j.K+1}
def SA(j:aH)(x:aW):aH:=if x.KJ then {j with Pc:=9,K:=j.K+1} else {j with Pc:=12}
def sU(j:aH):aW:=j.aI.getD j.K.toNat ⟨0,false,0⟩
def IB(j:aH):Int:=j.gO.getD (fX j.aI j.K).toNat 0
def T1(j:aH):aH:=if kU j.H/\j.cH.length<6 then {j with cH:=j.cH++[j.H]} else j
def CL(b:aA)(k:List cR)(j:aH):aA×List cR×aH:=
 if j.aI.length<=j.K then(b,k,{j with Pc:=14})
 else if j.Pc=9 then(b,k,if(iD k (oJ (sU j).Key)).Head=0 then SA {j with Pc:=10,H:=(iD k (oJ (sU j).Key)).Head,gN:=0} (sU j) else {j with Pc:=10,H:=(iD k (oJ (sU j).Key)).Head,gN:=0})
 else if j.Pc=10 then
  (b,k,if(ZN b.Mem.Heap j.H).Key=(sU j).Key then {j with Pc:=11,Node:=ZN b.Mem.Heap j.H}
   else if TZ (ZN b.Mem.Heap j.H)=0 then SA {j with Node:=ZN b.Mem.Heap j.H} (sU j)
   else {j with H:=TZ (ZN b.Mem.Heap j.H),gN:=j.H,Node:=ZN b.Mem.Heap j.H})
 else if j.Pc=11 then
  if j.gN=0 then(b,k.set (oJ (sU j).Key).toNat {iD k (oJ (sU j).Key) with Head:=TZ j.Node},SA (T1 j) (sU j))
  else({b with Mem:=Gv.aH6 b.Mem j.gN (TZ j.Node)},k,SA (T1 j) (sU j))
 else if j.gO.length<=fX j.aI j.K then(b,k,A7 j 1)
 else if j.Pc=12 then({b with Mem:=aFO b.Mem (IB j) ⟨(sU j).Key,(sU j).eI,(iD k (oJ (sU j).Key)).Head⟩},k,{j with Pc:=13})
 else(b,k.set (oJ (sU j).Key).toNat {iD k (oJ (sU j).Key) with Head:=IB j},{j with Pc:=9,K:=j.K+1})
def SB(j:aH):aH:=if j.K<j.cH.length then {j with Sub:=AF 2 (j.cH.getD j.K.toNat 0)} else j
def CM(j:aH):Int:=j.bI.getD 0 0
def PA(k:List cR)(j:aH):List cR×aH:=
 if 0<j.bI.length then
  (k.set (CM j).toNat (if j.Pc=14 then⟨(iD k (CM j)).Head,if 1000000<(iD k (CM j)).kC+1 then 1000000 else(iD k (CM j)).kC+1,0⟩ else {iD k (CM j) with gW:=0}),{j with bI:=j.bI.drop 1})
 else if j.Pc=16 then(k,{j with Pc:=17})
 else(k,SB {j with Pc:=15,K:=0})
def LC(b:aA)(w:Int)(j:aH):aA×aH:=
 if j.cH.length<=j.K then(b,{j with Pc:=18})
 else((iB b w j.Sub).1,if(iB b w j.Sub).2.gL then SB {j with K:=j.K+1,Sub:=(iB b w j.Sub).2} else {j with Sub:=(iB b w j.Sub).2})
def aZS(m:Mem)(w x:Int):Mem:=if mN m x then oP m w x else m
def JG(b:aA)(w:Int)(j:aH):aA×aH:=
 if j.gO.length=0 then(b,{j with Pc:=18})
 else(if bI b.aM (j.gO.getD 0 0 % 32) then b else {b with Mem:=aZS b.Mem w (j.gO.getD 0 0)},{j with gO:=j.gO.drop 1})
def jT(b:aA)(w:Int)(j:aH):aA×aH:=
 ((iB b w j.Sub).1,if(iB b w j.Sub).2.gL = false then {j with Sub:=(iB b w j.Sub).2}
  else if j.Pc=0 then {j with Pc:=1,Sub:=(iB b w j.Sub).2}
  else if j.Pc=20 then {j with Pc:=21,Sub:=AF 4 0}
  else {j with Pc:=19,Sub:=(iB b w j.Sub).2})
def tlE(w:Int)(j:aH):H9:=⟨3,w,j.aO,j.Code,[],if j.Code=0 then j.jV else []⟩
structure TR where
 b:aA
 k:List cR
 j:aH
 l:List H9
def qW(b:aA)(k:List cR)(w:Int)(j:aH):TR:=
 if j.Pc=0\/j.Pc=20\/j.Pc=21 then⟨(jT b w j).1,k,(jT b w j).2,[]⟩
 else if j.Pc=1 then⟨b,k,VM j,[]⟩
 else if 2<=j.Pc/\j.Pc<=5 then⟨b,k,IN b k w j,[]⟩
 else if j.Pc=6 then⟨(HY b w j).1,k,(HY b w j).2,[]⟩
 else if j.Pc=7 then⟨b,(O9 k w j).1,(O9 k w j).2.1,if(O9 k w j).2.2 then [⟨2,w,j.aO,0,[],[]⟩] else []⟩
 else if j.Pc=8 then⟨b,k,XP k w j,[]⟩
 else if 9<=j.Pc/\j.Pc<=13 then⟨(CL b k j).1,(CL b k j).2.1,(CL b k j).2.2,[]⟩
 else if j.Pc=14\/j.Pc=16 then⟨b,(PA k j).1,(PA k j).2,[]⟩
 else if j.Pc=15 then⟨(LC b w j).1,k,(LC b w j).2,[]⟩
 else if j.Pc=17 then⟨(JG b w j).1,k,(JG b w j).2,[]⟩
 else if j.Pc=18 then⟨{b with aC:=(D8 b.aC w).1},k,{j with Pc:=19},[]⟩
 else if j.Pc=19 then⟨b,k,dA,[tlE w j]⟩
 else⟨b,k,A7 j 1,[]⟩
def aQ(t:Table)(w:Int):aH:=t.aR.getD w.toNat dA
def o5(t:Table)(w:Int):List Batch:=(t.dC.getD w.toNat ⟨[]⟩).List
def lB(b:Batch)(s:Int):aH:=⟨true,b,s,if b.Collect then 20 else 0,0,0,0,0,0,0,aWM,false,0,if b.Collect then AF 3 0 else AF 5 0,[],[],[],[],[],[]⟩
def LD(t:Table)(w:Int)(b:Batch):Table:=⟨t.aA,t.bS,t.aR.set w.toNat (lB b (t.aO+1)),t.dC.set w.toNat ⟨(o5 t w).drop 1⟩,t.Log++[⟨1,w,t.aO+1,0,b.bW,[]⟩],t.aO+1⟩
def EC(t:Table)(w:Int)(r:TR):Table:=⟨r.b,r.k,t.aR.set w.toNat r.j,t.dC,t.Log++r.l,t.aO⟩
def iL(t:Table)(w:Int):Table:=
 if(aQ t w).cO then EC t w (qW t.aA t.bS w (aQ t w))
 else if(o5 t w).length=0\/t.aO=1000000 then t else LD t w ((o5 t w).getD 0 ⟨false,[]⟩)
def aA9(c:kN):Prop:=(1<=c.Kind/\c.Kind<=4)/\(0<=c.Key/\c.Key<=99)/\(0<=c.eI/\c.eI<=65535)/\(c.Kind=2\/c.Kind=4\/c.eI=0)
instance (c:kN):Decidable (aA9 c):=by unfold aA9;infer_instance
def ZQ(b:Batch):Prop:=(b.Collect=true->b.bW=[])/\b.bW.length<=6/\(∀c∈b.bW,aA9 c)/\(b.Collect=false->1<=b.bW.length)
instance (b:Batch):Decidable (ZQ b):=by unfold ZQ;infer_instance
def QuV(q:aN):Prop:=q.List.length<=12/\∀b∈q.List,ZQ b
instance (q:aN):Decidable (QuV q):=by unfold QuV;infer_instance
def XQ(l:List aN):Prop:=l.length=3/\∀q∈l,QuV q
instance (l:List aN):Decidable (XQ l):=by unfold XQ;infer_instance
def BkV(b:cR):Prop:=kV b.Head/\(0<=b.kC/\b.kC<=1000000)/\(0<=b.gW/\b.gW<=3)
def WrV(l:List aW):Prop:=l.length<=6/\(∀x∈l,(0<=x.Key/\x.Key<=99)/\(0<=x.eI/\x.eI<=65535))/\l.Pairwise (λx y=>x.Key<y.Key)
structure JB (j:aH):Prop where
 busy:j.cO=true
 bat:ZQ j.Batch
 h:kV j.H
 prev:kV j.gN
 bkt:0<=j.cR/\j.cR<=1
 at_:0<=j.At/\j.At<=j.Batch.bW.length
 k:0<=j.K/\j.K<=6
 new:j.gO.length<=6/\∀x∈j.gO,kU x
 old:j.cH.length<=6/\∀x∈j.cH,kU x
 reads:(∀s∈j.Reads,0<=s.cR/\s.cR<=1)/\(j.Reads.map Seen.cR).Nodup
 wr:WrV j.aI
 held:(∀x∈j.bI,0<=x/\x<=1)/\j.bI.Nodup
 res:(j.jV.length:Int)=j.At
 node:0<=j.Node.eI/\j.Node.eI<=4294967295
structure TV (t:Table):Prop where
 base:kW t.aA
 bk:t.bS.length=2/\∀x∈t.bS,BkV x
 sV:t.aR.length=3/\∀j∈t.aR,j=dA\/JB j
 todo:XQ t.dC
 ser:0<=t.aO/\t.aO<=1000000
theorem aRT{j:aH}(hw:j.aI.length<=1000)(x:aW):rW j x=some (zE j x):=by
 unfold rW zE;rw[aHA hw,aJ];by_cases h:6<(MP j.aI x).length
 ·rw[dM,aL h];rfl
 grind
theorem aHI(j:aH)(x:aW):(zE j x).2.jV=j.jV/\(zE j x).2.At=j.At:=by grind[zE,A7]
theorem aRU{j:aH}(hw:j.aI.length<=1000)(hr:j.jV.length<=1000)(ha:0<=j.At/\j.At<=1000)(c:kN)(v:Int)(is:Bool):rX j c v is=some (JF j c v is):=by
 have key:∀u,mW j c is u=some (if c.Kind=4 then aHH j c u else aA8 j is u):=λu=>by
  unfold mW;by_cases hk:c.Kind=4
  ·rw[aL (by grind),aL hk];unfold aCQ aHH;rw[aJ,show Int.tmod (bA (u+c.eI)) 65536=XO u c.eI from rfl,aRT hw,aJ];obtain⟨e1,e2⟩:=aHI j ⟨c.Key,false,XO u c.eI⟩;cases h:(zE j ⟨c.Key,false,XO u c.eI⟩).1
   ·simp
   ·rw[g7,aL rfl];grind[mV,rD,aA8,bY,cC]
  ·rw[aP (by grind),aP hk];grind[mV,rD,aA8,bY,cC]
 unfold rX JF;grind
theorem aOD{j:aH}(hl:j.Batch.bW.length<=1000)(ha:0<=j.At):pY j=some (if CJ j then(fP j,true,j) else(⟨0,0,0⟩,false,j)):=by
 unfold pY fP;rw[dI,aJ,eB];by_cases hc:CJ j
 ·have h:j.At<j.Batch.bW.length:=hc;rw[cD (by omega),g7,aL hc,gX ha h,aJ];grind
 ·have h:¬j.At<j.Batch.bW.length:=hc;grind
theorem a9W{j:aH}(hl:j.Batch.bW.length<=1000)(hw:j.aI.length<=1000)(hr:j.jV.length<=1000)(ha:0<=j.At/\j.At<=1000):GD j=some (VM j):=by
 unfold GD VM;rw[aOD hl ha.1,aJ];by_cases h:CJ j
 ·rw[aL h,aL h];have put:kJ (fP j,true,j) true j=some (if(zE j ⟨(fP j).Key,(fP j).Kind == 3,(fP j).eI⟩).1 then {(zE j ⟨(fP j).Key,(fP j).Kind == 3,(fP j).eI⟩).2 with At:=j.At+1,jV:=j.jV++[⟨false,0⟩]} else(zE j ⟨(fP j).Key,(fP j).Kind == 3,(fP j).eI⟩).2):=by
   unfold kJ;rw[aL rfl,aRT hw,aJ];obtain⟨e1,e2⟩:=aHI j ⟨(fP j).Key,(fP j).Kind == 3,(fP j).eI⟩;cases (zE j ⟨(fP j).Key,(fP j).Kind == 3,(fP j).eI⟩).1
   ·rw[g7,g7]
   ·rw[aL rfl,aL rfl,bY (by rw[e1];simp;omega)];simp only[e1,e2];rw[eB]
  have get:kJ (fP j,true,j) false j=some (if(aJ5 j.aI (fP j).Key).2 then JF j (fP j) (aJ5 j.aI (fP j).Key).1.eI (!(aJ5 j.aI (fP j).Key).1.KJ) else {j with Pc:=2,cR:=oJ (fP j).Key}):=by
   unfold kJ GC;rw[g7,aJ6 hw,aJ];cases (aJ5 j.aI (fP j).Key).2
   ·rw[g7,g7,R5];rfl
   ·rw[aL rfl,aL rfl,aRU hw hr ha];rfl
  grind
 ·rw[aP h,aP h];rfl
theorem DL{t:Table}{w:Int}(h3:t.aR.length=3)(hw:0<=w/\w<=2):idx t.aR w=some (aQ t w):=by grind[gX,aQ]
theorem aHJ{k:List cR}{i:Int}(h2:k.length=2)(hi:0<=i/\i<=1):idx k i=some (iD k i):=by grind[gX,iD]
theorem aFP{O:Type}{l:List O}{i:Int}{x:O}(h:0<=i/\i<l.length):idx (l.set i.toNat x) i=some x:=by grind[gX]
theorem rH{t:Table}{w:Int}(h3:t.aR.length=3)(hw:0<=w/\w<=2):aQ t w∈t.aR:=by grind[aQ]
def aWO(t:Table)(w:Int)(j:aH):Table:={t with aR:=t.aR.set w.toNat j}
section
variable {t:Table} {w:Int} (h3:t.aR.length=3) (h2:t.bS.length=2) (hb:kW t.aA) (hw:0<=w/\w<=2) (hj:JB (aQ t w))
include h3 h2 hb hw hj
theorem ZR:(aQ t w).Batch.bW.length<=1000/\(aQ t w).aI.length<=1000/\(aQ t w).jV.length<=1000/\(0<=(aQ t w).At/\(aQ t w).At<=1000)/\(aQ t w).Reads.length<=2:=by
 have h1:=hj.bat.2.1;have h4:=hj.at_;have h5:=hj.res;have h6:=hj.wr.1;refine⟨by omega,by omega,by omega,by omega,?_⟩;have hn:=hj.reads.2;have hm:∀x∈(aQ t w).Reads.map Seen.cR,x=0\/x=1:=λx hx=>by obtain⟨s,hs,rfl⟩:=N0.1 hx;have:=hj.reads.1 s hs;omega
 have hl:((aQ t w).Reads.map Seen.cR).length<=2:=by
  match h:(aQ t w).Reads.map Seen.cR,hn,hm with
  |[],_,_=>simp
  |[_],_,_=>simp
  |[_,_],_,_=>simp
  |x::y::z::r,hn,hm=>
   (simp_all;omega)
 grind
theorem bD8:C3 t w=some (aWO t w (IN t.aA t.bS w (aQ t w))):=by
 obtain⟨s1,s2,s3,s4,s5⟩:=ZR h3 h2 hb hw hj;have hjob:=DL h3 hw;unfold C3 DX IN aWO;rw[hjob,aJ,aHJ h2 hj.bkt,aJ,aJ,aOD s1 s4.1,aJ];generalize hjj:aQ t w=j at *;have e62:(if CJ j then(fP j,true,j) else((⟨0,0,0⟩:kN),false,j)).2.2=j:=by grind
 have set2:∀x y:aH,(t.aR.set w.toNat x).set w.toNat y=t.aR.set w.toNat y:=λx y=>aQX ..;have iset:∀x:aH,idx (t.aR.set w.toNat x) w=some x:=λx=>aFP ⟨hw.1,by omega⟩;simp only[e62];by_cases p2:j.Pc=2
 ·have p2':(j.Pc == 2)=true:=by grind
  simp only[p2',bU,aL p2];by_cases hl:(iD t.bS j.cR).gW=0
  ·have e:((iD t.bS j.cR).gW != 0)=false:=by grind
   simp only[e,bO,bM,aP (not_not_intro hl)];by_cases hh:(iD t.bS j.cR).Head=0
   ·have e:((iD t.bS j.cR).Head == 0)=true:=by grind
    simp only[e,bU,aL hh];rfl
   ·have e:((iD t.bS j.cR).Head == 0)=false:=by grind
    simp only[e,bO,bM,aP hh];rfl
  ·have e:((iD t.bS j.cR).gW != 0)=true:=by grind
   simp only[e,bU,aL hl];rfl
 ·have p2':(j.Pc == 2)=false:=by grind
  simp only[p2',bO,bM,aP p2];by_cases p3:j.Pc=3
  ·have p3':(j.Pc == 3)=true:=by grind
   simp only[p3',bU,aL p3];obtain⟨c,e⟩:=aRQ hb.1.1 j.H;rw[e];rfl
  ·have p3':(j.Pc == 3)=false:=by grind
   simp only[p3',bO,bM,aP p3];by_cases p4:j.Pc=4
   ·have p4':(j.Pc == 4)=true:=by grind
    simp only[p4',bU,aL p4];rw[TY hb.1.2.1 hw,aJ];simp only[DU,oF];have hp:(if(b9 t.aA.aC w).On=true then some (!(b9 t.aA.aC w).gU) else some false)=some (decide ((b9 t.aA.aC w).On=true/\(b9 t.aA.aC w).gU=false)):=by cases (b9 t.aA.aC w).On<;>cases (b9 t.aA.aC w).gU<;>rfl
    rw[hp,aJ];by_cases hpin:(b9 t.aA.aC w).On=true/\(b9 t.aA.aC w).gU=false
    ·simp only[cD hpin,i5,bO,bM,aP (not_not_intro hpin)];by_cases hc:CJ j
     ·simp only[aL hc,i5,bO,bM,aT0,aJ,DV,tP,iset,set2];grind
     ·simp only[aP hc,NZ,bU];rfl
    ·simp only[eU hpin,NZ,bU,aL hpin];rfl
   ·have p4':(j.Pc == 4)=false:=by grind
    simp only[p4',bO,bM,aP p4];have tail:jO t w (if CJ j then(fP j,true,j) else((⟨0,0,0⟩:kN),false,j)) false=some (aWO t w (if(IM j.Reads j.cR j.kC).2=false then A7 {j with Reads:=(IM j.Reads j.cR j.kC).1} 7
      else if CJ j then JF {j with Reads:=(IM j.Reads j.cR j.kC).1} (fP j) j.Node.eI j.Found
      else A7 {j with Reads:=(IM j.Reads j.cR j.kC).1} 1)):=by
     simp only[jO,DW,e62,iset,aJ,set2,bO,bM];rw[aJ7 (by omega),aJ];cases hs:(IM j.Reads j.cR j.kC).2
     ·rfl
     ·simp only[i5,bO,bM,reduceCtorEq];by_cases hc:CJ j
      ·simp only[aL hc,i5,bO,bM];rw[aRU (j:={j with Reads:=(IM j.Reads j.cR j.kC).1}) s2 s3 s4];rfl
      ·simp only[aP hc,NZ,bU];rfl
    have ab:jO t w (if CJ j then(fP j,true,j) else((⟨0,0,0⟩:kN),false,j)) true=some (aWO t w (A7 j 7)):=by simp only[jO,e62,iset,aJ,set2,bU];rfl
    by_cases hl:(iD t.bS j.cR).gW=0
    ·have e:((iD t.bS j.cR).gW != 0)=false:=by grind
     simp only[e,bO,bM];by_cases hv:(iD t.bS j.cR).kC=j.kC
     ·have e:((iD t.bS j.cR).kC != j.kC)=false:=by grind
      rw[e,tail,aP (show ¬((iD t.bS j.cR).gW≠0\/(iD t.bS j.cR).kC≠j.kC) from λq=>q.elim (λh=>h hl) λh=>h hv)];rfl
     ·have e:((iD t.bS j.cR).kC != j.kC)=true:=by grind
      rw[e,ab,aL (.inr hv)];rfl
    ·have e:((iD t.bS j.cR).gW != 0)=true:=by grind
     simp only[e,bU];rw[ab,aL (.inl hl)];rfl
end
def ZS(t:Table)(w:Int)(p:aA×aH):Table:={t with aA:=p.1,aR:=t.aR.set w.toNat p.2}
section
variable {t:Table} {w:Int} (h3:t.aR.length=3) (h2:t.bS.length=2) (hb:kW t.aA) (hw:0<=w/\w<=2) (hj:JB (aQ t w))
include h3 h2 hb hw hj
theorem a9X:tO t w=some (ZS t w (jT t.aA w (aQ t w))):=by
 unfold tO jT ZS;rw[DL h3 hw,aJ,aHG hb hw,aJ];generalize aQ t w=j at *;generalize iB t.aA w j.Sub=r;cases hd:r.2.gL
 ·rfl
 ·simp only[hd,i5,bO,bM,reduceCtorEq];by_cases p0:j.Pc=0
  ·grind
  ·have e:(j.Pc == 0)=false:=by grind
   simp only[e,bO,bM,aP p0];by_cases p20:j.Pc=20
   ·have e:(j.Pc == 20)=true:=by grind
    simp only[e,bU,aL p20];rfl
   grind
theorem a45:zS t w=some (ZS t w (HY t.aA w (aQ t w))):=by
 obtain⟨s1,s2,s3,s4,s5⟩:=ZR h3 h2 hb hw hj;have hjob:=DL h3 hw;have hk:=hj.k;have hn:=hj.new.1;unfold zS HY ZS;rw[hjob,aJ,aFI s2,aJ];generalize hjj:aQ t w=j at *;have set2:∀x y:aH,(t.aR.set w.toNat x).set w.toNat y=t.aR.set w.toNat y:=λx y=>aQX ..;have iset:∀x:aH,idx (t.aR.set w.toNat x) w=some x:=λx=>aFP ⟨hw.1,by omega⟩;unfold AU;by_cases hp:fX j.aI j.aI.length<=j.K
 ·grind
 ·rw[eU hp,g7,aP hp,hjob,aJ,aHG hb hw,aJ];generalize iB t.aA w j.Sub=r;cases hd:r.2.gL
  ·rfl
  ·have ab:iA w true {t with aA:=r.1,aR:=t.aR.set w.toNat {j with Sub:=r.2}}=some {t with aA:=r.1,aR:=t.aR.set w.toNat (A7 {j with Sub:=r.2} r.2.Code)}:=by simp_all[iA,cT,A7]
   have go:j.gO.length<6->iA w false {t with aA:=r.1,aR:=t.aR.set w.toNat {j with Sub:=r.2}}=some {t with aA:=r.1,aR:=t.aR.set w.toNat {j with gO:=j.gO++[r.2.Out],K:=j.K+1,Sub:=AF 1 16}}:=λh6=>by simp only[iA,bO,bM,iset,aJ,set2,AT,lT,AS];rw[R0,eB];rfl
   simp only[hd,i5,bO,bM,reduceCtorEq];by_cases hc:r.2.Code=0
   ·have e:(r.2.Code != 0)=false:=by grind
    simp only[e,bO,bM,g8,aJ];grind
   grind
theorem a9Y:rE t w=some (aWO t w (XP t.bS w (aQ t w))):=by
 have hjob:=DL h3 hw;have hk:=hj.k;have hr:=hj.reads.1;unfold rE tT XP aWO;rw[hjob,aJ,aJ];generalize hjj:aQ t w=j at *;by_cases hp:(j.Reads.length:Int)<=j.K
 ·grind
 ·have hi:j.K.toNat<j.Reads.length:=by omega
  have er:rdN j=j.Reads[j.K.toNat]:=by grind[rdN]
  have hbk:=hr j.Reads[j.K.toNat] (dJ hi);rw[aP (by grind),aP hp,aJ,gX hk.1 (by omega),aJ,<-er];rw[<-er] at hbk;unfold tS tR;rw[aHJ h2 hbk,aJ,eB];have ab:fN t w true=some {t with aR:=t.aR.set w.toNat (A7 j 7)}:=by simp_all[fN,cT,A7]
  have go:fN t w false=some {t with aR:=t.aR.set w.toNat {j with K:=j.K+1}}:=by simp only[fN,bO,bM,hjob,aJ];grind[cC]
  grind
theorem aQQ{l:List Seen}(hl:l.length<=1000)(f:Seen->Bool)(g:Seen->Option Bool)(hg:∀x,g x=some (f x)):fU l g=some (l.any f):=by
 have e:g=λx=>some (f x):=funext hg;rw[e];unfold fU;rcases aH4 (s:=l) (p:=f) (by omega) with ⟨j,h,h1,h2,h3⟩|⟨h1,h3⟩
 ·rw[h3,aJ,cD (by omega)];congr 1;exact(List.any_eq_true.2 ⟨l[j],dJ h,h2⟩).symm
 ·rw[h3,aJ,eU (by omega)];congr 1;refine(aUM.2 λx hx=>?_).symm;obtain⟨i,hi,rfl⟩:=SG hx;simp[h1 i hi]
def bK9(t:Table)(w:Int)(p:List cR×aH×Bool):Table:={t with bS:=p.1,aR:=t.aR.set w.toNat p.2.1,Log:=t.Log++if p.2.2 then [⟨2,w,(aQ t w).aO,0,[],[]⟩] else []}
theorem bD9(hl:t.Log.length<=1000000):C5 t w=some (bK9 t w (O9 t.bS w (aQ t w))):=by
 obtain⟨s1,s2,s3,s4,s5⟩:=ZR h3 h2 hb hw hj;have hjob:=DL h3 hw;have hk:=hj.k;have hd:=hj.held;have hwr:=hj.wr;unfold C5 O9 bK9;rw[hjob,aJ,aJ8 (by have:=hwr.1;omega) (λx hx=>(hwr.2.1 x hx).1),aJ];generalize hjj:aQ t w=j at *;have set2:∀x y:aH,(t.aR.set w.toNat x).set w.toNat y=t.aR.set w.toNat y:=λx y=>aQX ..;have iset:∀x:aH,idx (t.aR.set w.toNat x) w=some x:=λx=>aFP ⟨hw.1,by omega⟩;have hheld:j.bI.length<=2:=by
  match h:j.bI,hd with
  |[],_=>simp
  |[_],_=>simp
  |[_,_],_=>simp
  |x::y::z::r,⟨hm,hn⟩=>
   (simp_all;omega)
 by_cases hp:j.K<(qX j.aI).length
 ·have hi:j.K.toNat<(qX j.aI).length:=by omega
  have er:gJ j=(qX j.aI)[j.K.toNat]:=by grind[gJ]
  have hbk:0<=gJ j/\gJ j<=1:=by grind[ZG,dJ]
  rw[aL (by grind),aL hp,gX hk.1 hp,aJ,<-er,aHJ h2 hbk,aJ];have ab:iH t w (qX j.aI) (gJ j) true=some {t with aR:=t.aR.set w.toNat (A7 j 7)}:=by simp_all[iH,cT,A7]
  have en:∀x:aH,x.K=j.K->x.aO=j.aO->oA t w (qX j.aI) (gJ j) (iD t.bS (gJ j)) (t.aR.set w.toNat x) =
    some {t with bS:=t.bS.set (gJ j).toNat {iD t.bS (gJ j) with gW:=w+1},aR:=t.aR.set w.toNat (if(qX j.aI).length<=j.K+1 then {x with K:=0,Pc:=8} else {x with K:=j.K+1}),Log:=t.Log++if(qX j.aI).length<=j.K+1 then [⟨2,w,j.aO,0,[],[]⟩] else []}:=λx hx hs=>by
   simp only[oA,nZ,tQ,iset,set2,aJ,hx,hs];rw[eB,eB];by_cases hq:((qX j.aI).length:Int)<=j.K+1
   ·rw[aL (by grind),R0,aL hq,aL hq]
   grind
  have go:iH t w (qX j.aI) (gJ j) false=some (if(iD t.bS (gJ j)).kC=1000000 then {t with aR:=t.aR.set w.toNat (A7 j 3)} else
    {t with bS:=t.bS.set (gJ j).toNat {iD t.bS (gJ j) with gW:=w+1},aR:=t.aR.set w.toNat (if(qX j.aI).length<=j.K+1 then {PN j with K:=0,Pc:=8} else PN j),Log:=t.Log++if(qX j.aI).length<=j.K+1 then [⟨2,w,j.aO,0,[],[]⟩] else []}):=by
   unfold iH;rw[g7,aHJ h2 hbk,aJ];by_cases hv:(iD t.bS (gJ j)).kC=1000000
   ·simp_all[cT,A7]
   ·have e:((iD t.bS (gJ j)).kC == 1000000)=false:=by grind
    simp only[e,bO,bM,aP hv,hjob,aJ];rw[contains_eq (by grind[maxLen]),aJ];by_cases hm:gJ j∈j.bI
    ·rw[cD hm,g7];have:=en j rfl rfl;rw[show t.aR.set w.toNat j=t.aR by
      rw[<-hjj];unfold aQ;rw[EE,jK (show w.toNat<t.aR.length by omega)];simp] at this
     simp_all[PN]
    ·rw[eU hm,aL (by rfl),R0];unfold D1;rw[en {j with bI:=j.bI++[gJ j]} rfl rfl];unfold PN;rw[aP hm]
  have fin:∀B:Bool,iH t w (qX j.aI) (gJ j) B=some (if B=true then {t with aR:=t.aR.set w.toNat (A7 j 7)} else if(iD t.bS (gJ j)).kC=1000000 then {t with aR:=t.aR.set w.toNat (A7 j 3)} else
    {t with bS:=t.bS.set (gJ j).toNat {iD t.bS (gJ j) with gW:=w+1},aR:=t.aR.set w.toNat (if(qX j.aI).length<=j.K+1 then {PN j with K:=0,Pc:=8} else PN j),Log:=t.Log++if(qX j.aI).length<=j.K+1 then [⟨2,w,j.aO,0,[],[]⟩] else []}):=λB=>by
   cases B
   ·simp only[bO,bM];exact go
   ·simp only[bU];exact ab
  have cf:fU j.Reads (λy0=>wU y0 (gJ j) (iD t.bS (gJ j)))=some (j.Reads.any λs=>s.cR == gJ j && s.kC != (iD t.bS (gJ j)).kC):=
   aQQ h3 h2 hb hw (by grind) (by omega) _ _ λx=>by unfold wU qA;cases x.cR == gJ j<;>rfl
  by_cases hl0:(iD t.bS (gJ j)).gW=0
  ·have e:((iD t.bS (gJ j)).gW != 0)=false:=by grind
   simp only[e,bO,bM];rw[cf,aJ,fin];by_cases hany:(j.Reads.any λs=>s.cR == gJ j && s.kC != (iD t.bS (gJ j)).kC)=true
   ·grind
   ·rw[aP hany,aP (show ¬((iD t.bS (gJ j)).gW≠0\/(j.Reads.any λs=>s.cR == gJ j && s.kC != (iD t.bS (gJ j)).kC)=true) from λq=>q.elim (λa=>a hl0) hany)];by_cases hv:(iD t.bS (gJ j)).kC=1000000
    ·rw[aL hv,aL hv];simp
    ·rw[aP hv,aP hv];by_cases hq:((qX j.aI).length:Int)<=j.K+1
     ·simp only[aL hq];rfl
     ·simp only[aP hq];rfl
  grind
 ·rw[aP (by grind),aP hp];unfold nZ tQ;rw[hjob,aJ,dM,R0,aJ];rfl
end
def aZT(t:Table)(w:Int)(p:aA×List cR×aH):Table:={t with aA:=p.1,bS:=p.2.1,aR:=t.aR.set w.toNat p.2.2}
theorem aOE{j:aH}(hk:0<=j.K/\j.K<=100)(x:aW):pB j x=some (SA j x):=by
 unfold pB SA;cases x.KJ
 ·rfl
 ·simp only[bU];grind[cC]
theorem a9Z{j:aH}(hk:0<=j.K):lX j=some (SB j):=by
 unfold lX SB;by_cases h:j.K<j.cH.length
 ·have hi:j.K.toNat<j.cH.length:=by omega
  rw[aL (by grind),aL h,gX hk h,aJ];simp only[lT,aJ,rY,EE,jK hi,Option.getD_some];rfl
 grind
theorem aZU{m:Mem}(hm:lC m){w:Int}(hw:0<=w/\w<=2)(x:Int):∃c,NG m w x=some (aZS m w x,c):=by
 obtain⟨hcnt,h3,h9,h1,h2,hsm,hcp,hlo,hsG,hsO⟩:=lC.facts hm;have hbl:m.Heap.Bytes.length<=maxLen:=by grind[maxLen]
 unfold NG aZS;rw[CF hbl (by omega),cD hm,aJ,g7,nL,cD hw,aJ];unfold C7;rw[g7,HP hm.1.1.1 (by omega) (by omega) (by omega),aJ];by_cases hl:mN m x
 ·obtain⟨m',e1,e2,_,_⟩:=aKZ hm hw hl;simp_all[aFM]
 simp_all[QQ]
theorem bEA{O:Type}{l:List O}{a b:Nat}(hab:a<=b)(hb:b<=l.length):((cW l a (l.drop b)).take (a+(l.length-b))).drop 0=l.take a++l.drop b:=by
 have h1:(l.take a).length=a:=by grind
 have h2:(l.drop b).length=l.length-b:=by simp
 unfold cW;rw[PO,aHU (l:=l.drop b) (by omega),<-rI,show a+(l.length-b)=(l.take a++l.drop b).length by grind];grind
theorem aWP{l:List Int}(h:0<l.length)(hl:l.length<=1000):qC l 0 1=some (l.drop 1):=by
 unfold qC;rw[R1,g7,R1,R1,bY (by decide),bEA (by decide) (show Int.toNat 1<=l.length from h),bY]
 ·rfl
 ·rw[eN (by simp)];simp only[BA,aBD,PQ,Int.toNat_zero];omega
section
variable {t:Table} {w:Int} (h3:t.aR.length=3) (h2:t.bS.length=2) (hb:kW t.aA) (hw:0<=w/\w<=2) (hj:JB (aQ t w))
include h3 h2 hb hw hj
theorem a90:zU t w=some (aZT t w (CL t.aA t.bS (aQ t w))):=by
 obtain⟨s1,s2,s3,s4,s5⟩:=ZR h3 h2 hb hw hj;have hjob:=DL h3 hw;have hk:=hj.k;have hwr:=hj.wr;have hol:=hj.old.1;unfold zU AZ CL aZT;rw[hjob,aJ,aJ];generalize hjj:aQ t w=j at *;have set2:∀x y:aH,(t.aR.set w.toNat x).set w.toNat y=t.aR.set w.toNat y:=λx y=>aQX ..;have iset:∀x:aH,idx (t.aR.set w.toNat x) w=some x:=λx=>aFP ⟨hw.1,by omega⟩;by_cases hp:(j.aI.length:Int)<=j.K
 ·grind
 ·have hi:j.K.toNat<j.aI.length:=by omega
  have er:sU j=j.aI[j.K.toNat]:=by grind[sU]
  have hx:=hwr.2.1 j.aI[j.K.toNat] (dJ hi);rw[<-er] at hx;have hbk:0<=oJ (sU j).Key/\oJ (sU j).Key<=1:=by unfold oJ;omega
  rw[aP (by grind),aP hp,aJ,gX hk.1 (by omega),aJ,<-er];unfold AY;rw[R5,aJ,aHJ h2 hbk,aJ,hjob,aJ];generalize sU j=x at *;generalize hbb:oJ x.Key=bi at *;have ex:(⟨x.Key,x.KJ,x.eI⟩:aW)=x:=rfl;rw[ex];by_cases p9:j.Pc=9
  ·have e:(j.Pc == 9)=true:=by grind
   simp only[e,bU,aL p9];by_cases hh:(iD t.bS bi).Head=0
   ·have e:((iD t.bS bi).Head == 0)=true:=by grind
    simp only[e,bU,aL hh];grind[aOE]
   grind
  ·have e : (j.Pc == 9) = false:=by grind
   simp only[e,bO,bM,aP p9];by_cases p10:j.Pc=10
   ·have e:(j.Pc == 10)=true:=by grind
    simp only[e,bU,aL p10];obtain⟨c,e⟩:=aRQ hb.1.1 j.H;rw[e,aJ];simp only;by_cases hkey:(ZN t.aA.Mem.Heap j.H).Key=x.Key
    ·grind
    ·have e:((ZN t.aA.Mem.Heap j.H).Key == x.Key)=false:=by grind
     simp only[e,bO,bM,aP hkey,aT0,aJ];by_cases hs:TZ (ZN t.aA.Mem.Heap j.H)=0
     ·have e:(TZ (ZN t.aA.Mem.Heap j.H) == 0)=true:=by grind
      simp only[e,bU,aL hs];grind[aOE]
     simp_all[AV]
   ·have e:(j.Pc == 10)=false:=by grind
    simp only[e,bO,bM,aP p10];by_cases p11:j.Pc=11
    ·have e:(j.Pc == 11)=true:=by grind
     simp only[e,bU,aL p11];have cut:∀u:Table,u.aR=t.aR->mY w x.Key x.KJ x.eI u=some {u with aR:=t.aR.set w.toNat (SA (T1 j) x)}:=λu hu=>by
      have hju:idx u.aR w=some j:=by grind
      have last:∀v:Table,∀y:aH,idx v.aR w=some y->(0<=y.K/\y.K<=100)->mX w x.Key x.KJ x.eI v=some {v with aR:=v.aR.set w.toNat (SA y x)}:=λv y hy hyk=>by simp_all[mX,aOE]
      unfold mY rF AW T1;rw[hju,aJ,g8,aJ];by_cases hh:kU j.H
      ·rw[cD hh,aL rfl];by_cases h6:j.cH.length<6
       ·rw[cD (by omega),aL rfl,aJ,R0,last _ {j with cH:=j.cH++[j.H]} (by grind) (by grind),aL ⟨hh,h6⟩];grind
       grind
      grind
     by_cases hpv:j.gN=0
     ·simp_all[aT0]
     ·have e:(j.gN == 0)=false:=by grind
      simp only[e,bO,bM,aP hpv,aT0,aJ];obtain⟨c,e⟩:=a41 hb.1.1 j.gN (TZ j.Node);grind[AX]
    ·have e:(j.Pc == 11)=false:=by grind
     simp only[e,bO,bM,aP p11];have hpn:0<=fX j.aI j.K:=by grind[fX]
     have hbs:t.bS.set bi.toNat (iD t.bS bi)=t.bS:=by grind[iD,aLA]
     unfold LS;rw[aFI s2,aJ];by_cases hn:(j.gO.length:Int)<=fX j.aI j.K
     ·rw[aL (by grind),aL hn];simp only[cT,aJ,hbs];rfl
     ·have hi2:(fX j.aI j.K).toNat<j.gO.length:=by omega
      have en:IB j=j.gO[(fX j.aI j.K).toNat]:=by grind[IB]
      rw[aP (by grind),aP hn,gX hpn (by omega),<-en];by_cases p12:j.Pc=12
      ·have e:(j.Pc == 12)=true:=by grind
       simp only[e,bU,aL p12,aJ];obtain⟨c,e⟩:=aZR hb.1.1 (IB j) ⟨x.Key,x.eI,(iD t.bS bi).Head⟩;grind[D2]
      ·have e:(j.Pc == 12)=false:=by grind
       simp only[e,bO,bM,aP p12,aJ];grind[cC]
def a2N(t:Table)(w:Int)(p:List cR×aH):Table:={t with bS:=p.1,aR:=t.aR.set w.toNat p.2}
theorem a46(hk1:∀x∈t.bS,BkV x):wV t w=some (a2N t w (PA t.bS (aQ t w))):=by
 have hjob:=DL h3 hw;have hd:=hj.held;unfold wV PA a2N;rw[hjob,aJ];generalize hjj:aQ t w=j at *;have hheld:j.bI.length<=2:=by
  match h:j.bI,hd with
  |[],_=>simp
  |[_],_=>simp
  |[_,_],_=>simp
  |x::y::z::r,⟨hm,hn⟩=>
   (simp_all;omega)
 by_cases hp:0<j.bI.length
 ·have er:CM j=j.bI[0]:=by grind[CM]
  have hbk:=hd.1 j.bI[0] (dJ hp);rw[<-er] at hbk;have hbv:BkV (iD t.bS (CM j)):=by grind[iD]
  have hver:=hbv.2.1;rw[aL (by grind),aL hp,show(0:Int)=((0:Nat):Int) from rfl,aV hp,aJ,<-er,aHJ h2 hbk,aJ];have un:∀k,lY t w k=some {t with bS:=k,aR:=t.aR.set w.toNat {j with bI:=j.bI.drop 1}}:=λk=>by grind[lY,aWP]
  by_cases p14:j.Pc=14
  ·have e:(j.Pc == 14)=true:=by grind
   simp only[e,bU,aL p14];grind[cC]
  ·have e:(j.Pc == 14)=false:=by simpa using p14
   simp only[e,bO,bM,aP p14];rw[un]
 ·rw[aP (by simpa using hp),aP hp];by_cases p16:j.Pc=16
  ·have e:(j.Pc == 16)=true:=by simpa using p16
   simp only[e,bU,aL p16]
  ·have e:(j.Pc == 16)=false:=by simpa using p16
   simp only[e,bO,bM,aP p16];rw[a9Z (j:={j with Pc:=15,K:=0}) (H6 _)];rfl
theorem aZV:wW t w=some (ZS t w (LC t.aA w (aQ t w))):=by
 have hjob:=DL h3 hw;have hk:=hj.k;unfold wW yF LC ZS;rw[hjob,aJ,aJ];generalize hjj:aQ t w=j at *;by_cases hp:(j.cH.length:Int)<=j.K
 ·grind
 ·rw[aP (by grind),aP hp,aJ,aHG hb hw,aJ];generalize iB t.aA w j.Sub=r;cases hd:r.2.gL
  ·simp
  ·simp only[hd,bU];grind[cC,a9Z]
theorem drop_eq:C8 t w=some (ZS t w (JG t.aA w (aQ t w))):=by
 have hjob:=DL h3 hw;have hn:=hj.new;unfold C8 JG ZS;rw[hjob,aJ];generalize hjj:aQ t w=j at *;by_cases hp:j.gO.length=0
 ·grind
 ·have hp0:0<j.gO.length:=by omega
  have er:j.gO.getD 0 0=j.gO[0]:=by grind
  have hh:=hn.2 j.gO[0] (dJ hp0);rw[<-er] at hh;rw[aP (by grind),aP hp,show(0:Int)=((0:Nat):Int) from rfl,aV hp0,aJ,<-er,show((0:Nat):Int)=0 from rfl,aWP hp0 (by omega),aJ,(kU.mod hh).1,W8 hb.1.2.2.1,aJ];by_cases hl:bI t.aA.aM (j.gO.getD 0 0 % 32)
  ·grind
  ·rw[eU hl,aL (by rfl),aP hl];obtain⟨c,e⟩:=aZU hb.1.1 hw (j.gO.getD 0 0);rw[e];rfl
theorem aZW(hl:t.Log.length<=1000000):tU t w=some {t with aR:=t.aR.set w.toNat dA,Log:=t.Log++[tlE w (aQ t w)]}:=by
 have hjob:=DL h3 hw;unfold tU tlE;rw[hjob,aJ];generalize hjj:aQ t w=j at *;by_cases hc:j.Code=0
 ·have e:(j.Code == 0)=true:=by grind
  simp only[e,bU,aL hc];rw[R0];rfl
 ·have e:(j.Code == 0)=false:=by grind
  simp only[e,bO,bM,aP hc];rw[R0];rfl
end
theorem a47{b:aA}(hb:kW b){w:Int}(hw:0<=w/\w<=2):∃c,C9 b w=some (c,{b with aC:=(D8 b.aC w).1}):=by obtain⟨r,e1,e2,_,_⟩:=aWL hb.1.2.1 hw;rw[aRN hb.1.2.1 hw] at e1;simp_all[C9]
section
variable {t:Table} {w:Int} (h3:t.aR.length=3) (h2:t.bS.length=2) (hb:kW t.aA) (hw:0<=w/\w<=2)
include h3 h2 hb hw
theorem bEB(hq3:t.dC.length=3)(hqv:∀q∈t.dC,q.List.length<=12/\∀b∈q.List,ZQ b)(hs:0<=t.aO/\t.aO<=1000000)(hl:t.Log.length<=1000000) :
  zI t w=some (if(o5 t w).length=0\/t.aO=1000000 then t else LD t w ((o5 t w).getD 0 ⟨false,[]⟩)):=by
 have hqi:w.toNat<t.dC.length:=by omega
 have hq:idx t.dC w=some ⟨o5 t w⟩:=by simp_all[gX,o5]
 have hqm:(⟨o5 t w⟩:aN)∈t.dC:=by unfold o5;rw[EE,jK hqi];exact dJ _
 have hqq:=hqv _ hqm;simp only at hqq;unfold zI;rw[hq,aJ];simp only;by_cases h0:(o5 t w).length=0
 ·simp_all[mU]
 ·have e:(((o5 t w).length:Int) == 0)=false:=by grind
  rw[aP (by rw[e];simp)];unfold mU;by_cases hm:t.aO=1000000
  ·grind
  ·have e:(t.aO == 1000000)=false:=by grind
   have hp0:0<(o5 t w).length:=by omega
   have er:(o5 t w).getD 0 ⟨false,[]⟩=(o5 t w)[0]:=by grind
   have hbv:=hqq.2 (o5 t w)[0] (dJ hp0);rw[<-er] at hbv;rw[aP (by rw[e];simp),hq,aJ];simp only;have i0:idx (o5 t w) 0=some ((o5 t w)[0]):=aV hp0;rw[i0,aJ,<-er,aP (λq=>q.elim h0 hm)];unfold MG;rw[R1,aJ];generalize hbb:(o5 t w).getD 0 ⟨false,[]⟩=b at *;simp only[lT,aJ];unfold AO;have fin:∀x:aH,x.aO=t.aO+1->x.Batch.Collect=b.Collect->mT t w ⟨o5 t w⟩ b x=some ⟨t.aA,t.bS,t.aR.set w.toNat {x with Batch:=⟨x.Batch.Collect,b.bW⟩,Reads:=[],aI:=[],jV:=[],gO:=[],bI:=[],cH:=[]},t.dC.set w.toNat ⟨(o5 t w).drop 1⟩,t.Log++[⟨1,w,t.aO+1,0,b.bW,[]⟩],t.aO+1⟩:=λx hx _=>by unfold mT lE AN;rw[DL h3 hw,aJ,bY (by have:=hbv.2.1;simp;omega),aJ,R0,hx,eB];rfl
   have e1:bA (t.aO+1)=t.aO+1:=eB;unfold LD lB;cases hc:b.Collect
   ·rw[g7,fin _ (by omega) (by grind)];simp only[e1,hc,bO,bM];have eb:(⟨false,b.bW⟩:Batch)=b:=by cases b;grind
    rw[eb];rfl
   ·rw[aL rfl];simp only[lT,aJ];rw[fin _ (by omega) (by grind)];simp only[e1,hc,bU];have eb:(⟨true,b.bW⟩:Batch)=b:=by cases b;grind
    rw[eb];rfl
end
theorem VN(t:Table)(w:Int)(p:aA×aH):EC t w ⟨p.1,t.bS,p.2,[]⟩=ZS t w p:=by grind[EC,ZS]
theorem aWQ{t:Table}(hv:TV t)(hl:t.Log.length<=1000000){w:Int}(hw:0<=w/\w<=2):vB t w=some (iL t w):=by
 have h3:=hv.sV.1;have h2:=hv.bk.1;have hb:=hv.base;have hjob:=DL h3 hw;have hjv:=hv.sV.2 _ (rH h3 hw);unfold vB iL;rw[hjob,aJ];cases hbusy:(aQ t w).cO
 ·simp only[NZ,bU,bO,bM];rw[bEB h3 h2 hb hw hv.todo.1 hv.todo.2 hv.ser hl];rfl
 ·have hj : JB (aQ t w):=hjv.resolve_left λe=>by rw[e] at hbusy; cases hbusy
  simp only[i5,bO,bM,bU];unfold qW;by_cases p0:(aQ t w).Pc=0\/(aQ t w).Pc=20\/(aQ t w).Pc=21
  ·rw[aL p0,VN];have go:jS t w (aQ t w) true=some (ZS t w (jT t.aA w (aQ t w))):=by simp_all[jS,a9X]
   grind
  ·rw[aP p0];have e0:((aQ t w).Pc == 0)=false:=by simp;omega
   have e20:((aQ t w).Pc == 20)=false:=by simp;omega
   have e21:((aQ t w).Pc == 21)=false:=by simp;omega
   simp only[e0,e20,e21,bO,bM];unfold jS;simp only[bO,bM,dI,aJ];by_cases p1:(aQ t w).Pc=1
   ·have e:((aQ t w).Pc == 1)=true:=by grind
    simp_all[ZR,a9W,EC]
   ·have e : ((aQ t w).Pc == 1) = false:=by grind
    simp only[e,bO,bM,aP p1];by_cases p2:2<=(aQ t w).Pc/\(aQ t w).Pc<=5
    ·simp_all[bD8,EC,aWO]
    ·simp only[eU p2,bO,bM,aP p2];by_cases p6:(aQ t w).Pc=6
     ·simp_all[a45,VN]
     ·have e : ((aQ t w).Pc == 6) = false:=by grind
      simp only[e,bO,bM,aP p6];by_cases p7:(aQ t w).Pc=7
      ·have e:((aQ t w).Pc == 7)=true:=by grind
       simp only[e,bU,aL p7];rw[bD9 h3 h2 hb hw hj hl];rfl
      ·have e : ((aQ t w).Pc == 7) = false:=by grind
       simp only[e,bO,bM,aP p7];by_cases p8:(aQ t w).Pc=8
       ·simp_all[a9Y,EC,aWO]
       ·have e : ((aQ t w).Pc == 8) = false:=by grind
        simp only[e,bO,bM,aP p8];by_cases p9:9<=(aQ t w).Pc/\(aQ t w).Pc<=13
        ·simp_all[a90,EC,aZT]
        ·simp only[eU p9,bO,bM,aP p9];by_cases p14:(aQ t w).Pc=14\/(aQ t w).Pc=16
         ·rw[aL p14];have go:lF t w (aQ t w) true=some (a2N t w (PA t.bS (aQ t w))):=by unfold lF;rw[aL rfl,a46 h3 h2 hb hw hj hv.bk.2];rfl
          grind[a2N,EC]
         ·have e14:((aQ t w).Pc == 14)=false:=by simp;omega
          have e16:((aQ t w).Pc == 16)=false:=by simp;omega
          simp only[e14,e16,bO,bM,aP p14];unfold lF;simp only[bO,bM];by_cases p15:(aQ t w).Pc=15
          ·simp_all[aZV,VN]
          ·have e:((aQ t w).Pc == 15)=false:=by grind
           simp only[e,bO,bM,aP p15];by_cases p17:(aQ t w).Pc=17
           ·simp_all[drop_eq,VN]
           ·have e:((aQ t w).Pc == 17)=false:=by grind
            simp only[e,bO,bM,aP p17];by_cases p18:(aQ t w).Pc=18
            ·have e:((aQ t w).Pc == 18)=true:=by grind
             simp only[e,bU,aL p18];grind[a47,EC]
            ·have e:((aQ t w).Pc == 18)=false:=by grind
             simp only[e,bO,bM,aP p18];by_cases p19:(aQ t w).Pc=19
             ·have e:((aQ t w).Pc == 19)=true:=by grind
              simp only[e,bU,aL p19];rw[aZW h3 h2 hb hw hj hl];rfl
             simp_all[EC,cT,A7]
end Go.Gv
end
