import Derived.Test.YtkinioiglogchaaGreatXUE
set_option linter.unusedVariables false
set_option linter.unusedSimpArgs false
set_option linter.unusedSectionVars false
set_option linter.constructorNameAsVariable false
set_option linter.unnecessarySimpa false
noncomputable section
namespace Go.Gv
variable{K c i n s w x:Int}{A Ky l:List Int}{k k':List bX}{m m':Mem}{e t:Table}{j j':aI}
def aSX(l:List iD):Prop:=∀A e B,l=A++e::B->e.Kind=2->(∃c∈A,c.Kind=1/\c.aG=e.aG)/\∀x∈A,x.Kind=3->x.aG≠e.aG
theorem aSX.nil:aSX []:=λA e B h=>by simp_all
theorem aY7{O:Type}{l A B:List O}{x e:O}(h:l++[x]=A++e::B):(l=A/\x=e/\B=[])\/∃B',B=B'++[x]/\l=A++e::B':=by
 rcases Z8 B with rfl|⟨B',y,hB⟩
 ·have:=List.append_inj' h rfl;simp at this;exact .inl ⟨this.1,this.2,rfl⟩
 ·rw[aJZ] at hB;subst hB;rw[<-D7,<-oV] at h;have:=List.append_inj' h rfl;simp at this;exact .inr ⟨B',by rw[this.2],this.1⟩
theorem aSX.app{l:List iD}(h:aSX l){x:iD}(hx:x.Kind=2->(∃c∈l,c.Kind=1/\c.aG=x.aG)/\∀y∈l,y.Kind=3->y.aG≠x.aG):aSX (l++[x]):=λA e B he hk=>by
 rcases aY7 he with ⟨rfl,rfl,_⟩|⟨B',_,h2⟩
 ·exact hx hk
 ·exact h A e B' h2 hk
structure JL (l:List iD) (s:Int):Prop where
 call:∃c∈l,c.Kind=1/\c.aG=s
 tell:∀x∈l,x.Kind=3->x.aG≠s
structure a39 (t:Table):Prop where
 le:∀e∈t.Log,e.aG<=t.aG
 jle:∀w,0<=w/\w<=2->(aE t w).bU=true->(aE t w).aG<=t.aG
 job:∀w,0<=w/\w<=2->(aE t w).bU=true->JL t.Log (aE t w).aG
 ne:∀v w,0<=v/\v<=2->0<=w/\w<=2->v≠w->(aE t v).bU=true->(aE t w).bU=true->(aE t v).aG≠(aE t w).aG
 pt:aSX t.Log
theorem a1Q(j:aI)(x:aT):(nT j x).2.aG=j.aG/\(nT j x).2.bU=j.bU:=by grind[nT,sE]
theorem a1R(j:aI)(c:iB)(v:Int)(is:Bool):(qL j c v is).aG=j.aG/\(qL j c v is).bU=j.bU:=by
 unfold qL;split
 ·generalize (if is then v else 0)=u;unfold WN;have h:=a1Q j ⟨c.Key,false,G5 u c.dM⟩;split
  ·exact h
  ·exact h
 ·exact⟨rfl,rfl⟩
theorem aJH(j:aI):(qH j).aG=j.aG/\(qH j).bU=j.bU:=by grind[qH,a1Q,a1R]
theorem aD8(b:aA)(k:List bX)(w:Int)(j:aI):(iM b k w j).aG=j.aG/\(iM b k w j).bU=j.bU:=by
 unfold iM;split
 ·split<;>exact⟨rfl,rfl⟩
 ·split
  ·simp
  ·split
   ·split
    ·exact⟨rfl,rfl⟩
    ·split<;>exact⟨rfl,rfl⟩
   ·split
    ·exact⟨rfl,rfl⟩
    ·split
     ·exact⟨rfl,rfl⟩
     ·split
      ·grind[a1R]
      ·exact⟨rfl,rfl⟩
theorem aJI(b:aA)(w:Int)(j:aI):(vH b w j).2.aG=j.aG/\(vH b w j).2.bU=j.bU:=by
 unfold vH;split
 ·simp
 ·simp only;split
  ·simp
  ·split<;>exact⟨rfl,rfl⟩
theorem aJJ(k:List bX)(w:Int)(j:aI):(oD k w j).2.1.aG=j.aG/\(oD k w j).2.1.bU=j.bU:=by
 unfold oD;split
 ·split
  ·exact⟨rfl,rfl⟩
  ·split
   ·exact⟨rfl,rfl⟩
   ·split<;>exact⟨rfl,rfl⟩
 simp
theorem aJK(k:List bX)(w:Int)(j:aI):(KH k w j).aG=j.aG/\(KH k w j).bU=j.bU:=by
 unfold KH;split
 ·simp
 ·split<;>exact⟨rfl,rfl⟩
theorem aY8(j:aI)(x:aT):(MO j x).aG=j.aG/\(MO j x).bU=j.bU:=by grind[MO]
theorem bEC(j:aI):(MP j).aG=j.aG/\(MP j).bU=j.bU:=by grind[MP]
theorem aJL(b:aA)(k:List bX)(j:aI):(lV b k j).2.2.aG=j.aG/\(lV b k j).2.2.bU=j.bU:=by
 unfold lV;split
 ·simp
 ·split
  ·grind[aY8]
  ·split
   ·grind[aY8]
   ·split
    ·grind[aY8,bEC]
    ·split
     ·exact⟨rfl,rfl⟩
     grind
theorem a1S(j:aI):(KI j).aG=j.aG/\(KI j).bU=j.bU:=by grind[KI]
theorem aJM(k:List bX)(j:aI):(AO k j).2.aG=j.aG/\(AO k j).2.bU=j.bU:=by grind[AO,a1S]
theorem aJN(b:aA)(w:Int)(j:aI):(DL b w j).2.aG=j.aG/\(DL b w j).2.bU=j.bU:=by grind[DL,a1S]
theorem aJO(b:aA)(w:Int)(j:aI):(DM b w j).2.aG=j.aG/\(DM b w j).2.bU=j.bU:=by grind[DM]
theorem aJP(b:aA)(w:Int)(j:aI):(oE b w j).2.aG=j.aG/\(oE b w j).2.bU=j.bU:=by grind[oE]
def S6(w:Int)(j:aI)(r:TR):Prop:=
 (r.j.aG=j.aG/\r.j.bU=j.bU/\(r.l=[]\/r.l=[⟨2,w,j.aG,0,[],[]⟩]))\/(r.j=cZ/\r.l=[tlE w j])
theorem aVX(b:aA)(k:List bX)(w:Int)(j:aI):S6 w j (fF b k w j):=by
 unfold fF;refine dL (P:=S6 w j) (λ_=>.inl ⟨(aJP b w j).1,(aJP b w j).2,.inl rfl⟩) λ_=>dL (P:=S6 w j) (λ_=>.inl ⟨(aJH j).1,(aJH j).2,.inl rfl⟩) λ_=>
  dL (P:=S6 w j) (λ_=>.inl ⟨(aD8 b k w j).1,(aD8 b k w j).2,.inl rfl⟩) λ_=>dL (P:=S6 w j) (λ_=>.inl ⟨(aJI b w j).1,(aJI b w j).2,.inl rfl⟩) λ_=>
  dL (P:=S6 w j) (λ_=>.inl ⟨(aJJ k w j).1,(aJJ k w j).2,?_⟩) λ_=>dL (P:=S6 w j) (λ_=>.inl ⟨(aJK k w j).1,(aJK k w j).2,.inl rfl⟩) λ_=>
  dL (P:=S6 w j) (λ_=>.inl ⟨(aJL b k j).1,(aJL b k j).2,.inl rfl⟩) λ_=>dL (P:=S6 w j) (λ_=>.inl ⟨(aJM k j).1,(aJM k j).2,.inl rfl⟩) λ_=>
  dL (P:=S6 w j) (λ_=>.inl ⟨(aJN b w j).1,(aJN b w j).2,.inl rfl⟩) λ_=>dL (P:=S6 w j) (λ_=>.inl ⟨(aJO b w j).1,(aJO b w j).2,.inl rfl⟩) λ_=>
  dL (P:=S6 w j) (λ_=>.inl ⟨rfl,rfl,.inl rfl⟩) λ_=>dL (P:=S6 w j) (λ_=>.inr ⟨rfl,rfl⟩) λ_=>.inl ⟨rfl,rfl,.inl rfl⟩
 simp
theorem aSY{l:List aI}{v:Int}{x:aI}(h3:t.aR.length=3)(hl:l=t.aR.set w.toNat x)(hw:0<=w/\w<=2)(hv:0<=v/\v<=2):l.getD v.toNat cZ=if v=w then x else aE t v:=by subst hl;unfold aE;grind
theorem a39.step(hv:TV t)(hw:0<=w/\w<=2)(h:a39 t):a39 (bH t w):=by
 have h3:=hv.yN.1;unfold bH;split
 ·rename_i hb;have hJ:=h.job w hw hb;have hS:=h.jle w hw hb;rcases aVX t.aA t.aS w (aE t w) with ⟨s1,s2,hl⟩|⟨s1,hl⟩
  ·
   have hjob:∀v,0<=v/\v<=2->(aE (yL t w (fF t.aA t.aS w (aE t w))) v).aG=(aE t v).aG/\(aE (yL t w (fF t.aA t.aS w (aE t w))) v).bU=(aE t v).bU:=λv hv'=>by grind[aE,yL]
   have hnot:∀x∈(fF t.aA t.aS w (aE t w)).l,x.Kind=2/\x.aG=(aE t w).aG:=λx hx=>aj
   have keepJ:∀s,JL t.Log s->JL (t.Log++(fF t.aA t.aS w (aE t w)).l) s:=λs ⟨⟨c,hc,h1⟩,h2⟩=>⟨⟨c,U7 _ hc,h1⟩,λx hx hk=>by
    grind⟩
   refine⟨λe he=>?_,λv hv' hb'=>?_,λv hv' hb'=>?_,λv u hv' hu hne hb1 hb2=>?_,?_⟩
   ·rcases dE.1 he with he|he
    ·exact h.le e he
    ·rw[(hnot e he).2];exact hS
   ·rw[(hjob v hv').1];exact h.jle v hv' aj
   ·rw[(hjob v hv').1];exact keepJ _ (h.job v hv' aj)
   ·rw[(hjob v hv').1,(hjob u hu).1];exact h.ne v u hv' hu hne aj aj
   ·show aSX (t.Log++_);rcases hl with hl|hl
    ·rw[hl,uD];exact h.pt
    ·rw[hl];exact h.pt.app λ_=>⟨hJ.call,hJ.tell⟩
  ·
   have hjob:∀v,0<=v/\v<=2->v≠w->aE (yL t w (fF t.aA t.aS w (aE t w))) v=aE t v:=λv hv' hne=>by unfold aE yL;grind
   have hidle:(aE (yL t w (fF t.aA t.aS w (aE t w))) w).bU=false:=by have e:aE (yL t w (fF t.aA t.aS w (aE t w))) w=(fF t.aA t.aS w (aE t w)).j:=(aSY h3 rfl hw hw).trans (aN rfl);rw[e,s1];rfl
   have hne':∀v,(aE (yL t w (fF t.aA t.aS w (aE t w))) v).bU=true->v≠w:=λv hb' e=>aj
   refine⟨λe he=>?_,λv hv' hb'=>?_,λv hv' hb'=>?_,λv u hv' hu hne hb1 hb2=>?_,?_⟩
   ·rcases dE.1 he with he|he
    ·exact h.le e he
    ·rw[hl,jO] at he;rw[he];exact hS
   ·have hn:=hne' v hb';rw[hjob v hv' hn] at hb' ⊢;exact h.jle v hv' hb'
   ·have hn:=hne' v hb';rw[hjob v hv' hn] at hb' ⊢;obtain⟨⟨c,hc,h1⟩,h2⟩:=h.job v hv' hb';refine⟨⟨c,U7 _ hc,h1⟩,λx hx hk=>?_⟩;rcases dE.1 hx with hx|hx
    ·grind
    ·rw[hl,jO] at hx;rw[hx];exact h.ne w v hw hv' (λe=>hn e.symm) hb hb'
   ·have hn1:=hne' v hb1;have hn2:=hne' u hb2;rw[hjob v hv' hn1] at hb1 ⊢;rw[hjob u hu hn2] at hb2 ⊢;exact h.ne v u hv' hu hne hb1 hb2
   ·show aSX (t.Log++_);rw[hl];exact h.pt.app λq=>by simp[tlE] at q
 ·split
  ·exact h
  ·rename_i hb hq;have hfresh:∀e∈t.Log,e.aG≠t.aG+1:=λe he q=>by have:=h.le e he;omega
   generalize (rZ t w).getD 0 ⟨false,[]⟩=b;have hjob:∀v,0<=v/\v<=2->aE (sA t w b) v=if v=w then jG b (t.aG+1) else aE t v:=λv hv'=>by grind[aE,sA]
   have hser:(sA t w b).aG=t.aG+1:=rfl;refine⟨λe he=>?_,λv hv' hb'=>?_,λv hv' hb'=>?_,λv u hv' hu hne hb1 hb2=>?_,?_⟩
   ·rw[hser];rcases dE.1 he with he|he
    ·have:=h.le e he;omega
    grind
   ·rw[hjob v hv'] at hb' ⊢;rw[hser];split
    ·exact KJ _
    ·rename_i e;rw[aP e] at hb';have:=h.jle v hv' hb';omega
   ·rw[hjob v hv'] at hb' ⊢;split
    ·refine⟨⟨_,aB8 _ (jO.2 rfl),rfl,rfl⟩,λx hx hk=>?_⟩;rcases dE.1 hx with hx|hx
     ·exact hfresh x hx
     ·rw[jO] at hx;rw[hx] at hk;cases hk
    ·rename_i e;rw[aP e] at hb';obtain⟨⟨c,hc,h1⟩,h2⟩:=h.job v hv' hb';refine⟨⟨c,U7 _ hc,h1⟩,λx hx hk=>?_⟩;rcases dE.1 hx with hx|hx
     ·exact h2 x hx hk
     ·rw[jO] at hx;rw[hx] at hk;cases hk
   ·rw[hjob v hv'] at hb1 ⊢;rw[hjob u hu] at hb2 ⊢;by_cases e1:v=w
    ·rw[aN e1];have e2:u≠w:=λe=>hne (e1.trans e.symm);rw[aP e2] at hb2 ⊢;have:=h.jle u hu hb2;show t.aG+1≠_;omega
    ·rw[aP e1] at hb1 ⊢;by_cases e2:u=w
     ·rw[aN e2];have:=h.jle v hv' hb1;show _≠t.aG+1;omega
     ·rw[aP e2] at hb2 ⊢;exact h.ne v u hv' hu hne hb1 hb2
   ·exact h.pt.app λq=>by cases q
theorem a39.zero(l:List aO):a39 (dC l):=by
 have hj:∀w,0<=w/\w<=2->(aE (dC l) w).bU=false:=λw hw=>by
  have:w=0\/w=1\/w=2:=aa
  rcases this with rfl|rfl|rfl<;>rfl
 exact⟨λe he=>(by grind[dC]),λw hw h=>aj,λw hw h=>aj,λv w hv _ _ h=>aj,aSX.nil⟩
theorem aQO:∀(l:List Int) (t:Table),(HO t l).Log.length<=t.Log.length+l.length
 |[],t=>iT _
 |p::l,t=>by have h1:=aQO l (P4 t p);grind[ZK,HO]
def isE(kind s:Int)(e:iD):Bool:=e.Kind == kind && e.aG == s
def sG(l:List iD)(kind s:Int):Int:=if l.findIdx (isE kind s)<l.length then(l.findIdx (isE kind s):Int) else -1
theorem aVY{l:List iD}{p:iD->Bool}{f:Int->Option (Step Int (Out Unit Int))}{m:(Out Unit Int)->Option Int}(hl:l.length<=1000000)
  (hf:∀k:Nat,f (k:Int)=if h:k<l.length then(if p l[k] then some (.stop (Out.ret (k:Int))) else some (.next ((k+1:Nat):Int))) else some (.stop (Out.brk ()))) (m1:∀r,m (.ret r)=some r) (m2:m (.brk ())=some (-1)) :
  (loop f 0).bind m=some (if l.findIdx p<l.length then(l.findIdx p:Int) else -1):=by
 rcases SR (f:=f) (p:=p) aa hf l.length 0 aa with ⟨j,h,_,h2,h3,h4⟩|⟨h1,h2⟩
 ·have e:l.findIdx p=j:=by rw[List.findIdx_eq h];exact⟨h3,λi hi=>h2 i aa (i4 _) hi⟩
  rw[show(0:Int)=((0:Nat):Int) from rfl,h4,aL,m1,e,aN h]
 ·have e:¬l.findIdx p<l.length:=λq=>by have:=aJ0 (w:=q);rw[h1 _ q (i4 _)] at this;cases this
  rw[show(0:Int)=((0:Nat):Int) from rfl,h2,aL,m2,aP e]
theorem aD9{l:List iD}(hl:l.length<=1000000)(kind s:Int):F8 l kind s=some (sG l kind s):=by
 unfold F8 sG;refine aVY hl (λk=>?_) (λ_=>rfl) rfl;simp only[VX,CI];by_cases h:k<l.length
 ·rw[dif_pos h,eG,aW h];grind[cQ,isE]
 grind
theorem UZ{l:List iD}(hl:l.length<=1000000)(kind s:Int):zA l kind s=some (sG l kind s):=by
 unfold zA sG xR;rw[aVY (l:=l) (p:=isE kind s) hl (λk=>?_) (λ_=>rfl) rfl]
 ·rfl
 ·simp only[DV,NJ,wL];by_cases h:k<l.length
  ·rw[dif_pos h,eG,aW h];grind[cQ,isE]
  grind
def aM4(l:List iD)(s:Int):Bool:=decide (0<=sG l 3 s) && ((l.getD (sG l 3 s).toNat ⟨0,0,0,0,[],[]⟩).Code == 0)
def BQ(l:List iD)(out:List Int)(e:iD):List Int:=if e.Kind=2/\e.aG∉out/\aM4 l e.aG=true then out++[e.aG] else out
def qM(l:List iD):List Int:=l.foldl (BQ l) []
theorem a9O(l:List iD)(out:List Int)(e:iD):(BQ l out e).length<=out.length+1:=by grind[BQ]
theorem aEA(l:List iD):∀(es:List iD) (out:List Int),(es.foldl (BQ l) out).length<=out.length+es.length
 |[],out=>iT _
 |e::es,out=>by have h1:=aEA l es (BQ l out e);grind[a9O]
theorem aM5{l:List iD}{k:Int}(h:0<=sG l k s):(sG l k s).toNat<l.length:=by unfold sG at h ⊢;omega
theorem aEB{l:List iD}{k:Int}(h:0<=sG l k s):idx l (sG l k s)=some (l.getD (sG l k s).toNat ⟨0,0,0,0,[],[]⟩):=by grind[aM5,hU]
theorem aVZ{l:List iD}(hl:l.length<=1000000):aLA l=some (qM l)/\NL l=some (qM l):=by
 have hlen:∀k,((l.take k).foldl (BQ l) []).length<=1000000:=λk=>by grind[aEA]
 have ht:∀k (h:k<l.length),(l.take (k+1)).foldl (BQ l) []=BQ l ((l.take k).foldl (BQ l) []) l[k]:=λk h=>by grind[JN]
 unfold qM;constructor
 ·have hs:∀k,k<l.length->BG l ((l.take k).foldl (BQ l) [],(k:Int))=some (.next ((l.take (k+1)).foldl (BQ l) [],((k+1:Nat):Int))):=λk hk=>by
   have h1:=hlen k;rw[ht k hk];generalize (l.take k).foldl (BQ l) []=out at h1 ⊢;unfold BQ;simp only[BG,QX,QW,JF];rw[eG,aW hk];simp only[aL];by_cases hk2:l[k].Kind=2
   ·have e:(l[k].Kind != 2)=false:=aj
    simp only[e,bV,bR];rw[aAU (by grind[maxLen]),aL];by_cases hm:l[k].aG∈out
    ·rw[cN hm,aN rfl,dU,aP (λq=>q.2.1 hm)];rfl
    ·rw[gJ hm,gI,aD9 hl,aL];by_cases hp:0<=sG l 3 l[k].aG
     ·rw[cN hp,aN rfl,aEB hp,aL];by_cases hc:((l.getD (sG l 3 l[k].aG).toNat ⟨0,0,0,0,[],[]⟩).Code == 0)=true
      ·rw[aN hc,OE,dU,aN ⟨hk2,hm,by grind[aM4]⟩];rfl
      ·have hc':=aa
       rw[aP hc,dU,aP (λq=>by simp_all[aM4])];rfl
     ·rw[gJ hp];simp only[bV,bR];rw[dU,aP (show ¬(l[k].Kind=2/\l[k].aG∉out/\aM4 l l[k].aG=true) from λq=>by grind[aM4])];rfl
   ·have e:(l[k].Kind != 2)=true:=aj
    simp only[e,bW];rw[dU,aP (λq=>hk2 q.1)];rfl
  have he:BG l ((l.take l.length).foldl (BQ l) [],(l.length:Int))=some (.stop (l.foldl (BQ l) [])):=by simp[BG]
  unfold aLA;rw[show(([]:List Int),(0:Int))=((l.take 0).foldl (BQ l) [],((0:Nat):Int)) from rfl,gT l.length (λk=>((l.take k).foldl (BQ l) [],(k:Int))) (l.foldl (BQ l) []) hs he];rfl
 ·have hs:∀k,k<l.length->A6 l ((l.take k).foldl (BQ l) [],(k:Int))=some (.next ((l.take (k+1)).foldl (BQ l) [],((k+1:Nat):Int))):=λk hk=>by
   have h1:=hlen k;rw[ht k hk];generalize (l.take k).foldl (BQ l) []=out at h1 ⊢;unfold BQ;simp only[A6,JA,I9,A5];rw[eG,aW hk];simp only[aL];by_cases hk2:l[k].Kind=2
   ·have e:(l[k].Kind != 2)=false:=aj
    simp only[e,bV,bR];rw[contains_eq (by grind[maxLen]),aL];by_cases hm:l[k].aG∈out
    ·rw[cN hm,aN rfl,dU,aP (λq=>q.2.1 hm)];rfl
    ·rw[gJ hm,gI,UZ hl,aL];by_cases hp:0<=sG l 3 l[k].aG
     ·rw[cN hp,aN rfl,aEB hp,aL];by_cases hc:((l.getD (sG l 3 l[k].aG).toNat ⟨0,0,0,0,[],[]⟩).Code == 0)=true
      ·rw[aN hc,OE,dU,aN ⟨hk2,hm,by grind[aM4]⟩];rfl
      ·rw[aP hc,dU,aP (λq=>by simp_all[aM4])];rfl
     ·rw[gJ hp];simp only[bV,bR];rw[dU,aP (show ¬(l[k].Kind=2/\l[k].aG∉out/\aM4 l l[k].aG=true) from λq=>by grind[aM4])];rfl
   ·have e:(l[k].Kind != 2)=true:=aj
    simp only[e,bW];rw[dU,aP (λq=>hk2 q.1)];rfl
  have he:A6 l ((l.take l.length).foldl (BQ l) [],(l.length:Int))=some (.stop (l.foldl (BQ l) [])):=by simp[A6]
  unfold NL;rw[show(([]:List Int),(0:Int))=((l.take 0).foldl (BQ l) [],((0:Nat):Int)) from rfl,gT l.length (λk=>((l.take k).foldl (BQ l) [],(k:Int))) (l.foldl (BQ l) []) hs he];rfl
section
variable {b:aA} (hb:mV b)
include hb
theorem mV.fits:b.Mem.Heap.Bytes.length<=maxLen/\(iC b.Mem.aD).length<=1073741824/\b.aC.cE.length<=maxLen/\b.aQ.length<=maxLen/\(dV b.aQ).length<=1073741824/\b.qJ.length<=maxLen:=by obtain⟨h1,h2,h3,h4,_⟩:=lU.facts hb.1.1;have a:=hb.1.2.1.2.1;have c:=hb.1.2.2.1.1;have d:=hb.1.2.2.1.2.1;have e:=hb.1.2.2.2.1;grind[maxLen]
end
def bED(p:Nat->Bool)(n:Nat):Nat:=((List.range n).filter p).length
theorem yO:∀{l m:List Int},l.Nodup->(∀x∈l,x∈m)->l.length<=m.length
 |[],_,_,_=>i4 _
 |a::t,m,hn,h=>by rw[WU] at hn;have ha:a∈m:=h a (aAB ..);have ih:=yO (l:=t) (m:=m.erase a) hn.2 (λx hx=>(List.mem_erase_of_ne (λe:x=a=>hn.1 aj)).2 (h x (lE _ hx)));grind
theorem a4A{p:Nat->Bool}{n:Nat}(hn:l.Nodup)(hr:∀x∈l,0<=x/\x<(n:Int))(hp:∀i:Nat,i<n->(p i=true↔(i:Int)∈l)):bED p n=l.length:=by
 have e:bED p n=(((List.range n).filter p).map (λi:Nat=>(i:Int))).length:=by simp[bED]
 have nd:(((List.range n).filter p).map (λi:Nat=>(i:Int))).Nodup:=by rw[List.nodup_iff_pairwise_ne];refine List.Pairwise.map (R:=λa b:Nat=>a≠b) _ (λa b h=>aa) ?_;grind[List.nodup_range]
 have a:=yO (m:=l) nd (λx hx=>by
  grind)
 have b:=yO (l:=l) (m:=((List.range n).filter p).map (λi:Nat=>(i:Int))) hn (λx hx=>by
  have:=hr x hx;refine AR.2 ⟨x.toNat,aJ1.2 ⟨List.mem_range.2 aa,(hp _ aa).2 aj⟩,aa⟩)
 omega
theorem aBZ(hm:lU m){h:Int}(hw:0<=w/\w<=2)(hv:mN m h):(∀t,bK (pU m w h).Heap t=bK m.Heap t)/\(∀t,0<=bK m.Heap t->kP (pU m w h).Heap t=if t=h % 32 then h/32+1 else kP m.Heap t) /\
  (∀t,t≠h % 32->(t∈iC (pU m w h).aD↔t∈iC m.aD))/\eK (pU m w h) (h % 32)≠3:=by
 obtain⟨hcnt,h3,h9,h1,h2,hsm,hcp,hlo,hsG,hsO⟩:=lU.facts hm;have hcl:=dN hv.2.1;have hc2:0<=bK m.Heap (h % 32)/\bK m.Heap (h % 32)<=2:=by obtain⟨_,q,e⟩:=qU hcl;rw[e];exact jW.1 aa
 have hg6:1<=h/32/\h/32<=6:=by have:=hv.1;unfold lK at this;omega
 obtain⟨_,hg⟩:=HOk.a8X hm.1.1 hcl (g:=h/32+1) aa;have hh:(pU m w h).Heap=⟨st4 m.Heap.Bytes (iZ (h % 32) (bK m.Heap (h % 32))).toNat (h/32+1),m.Heap.Class⟩:=by unfold pU;simp only[apply_ite Mem.Heap,ite_self]
 have kx:(w*3+bK m.Heap (h % 32)).toNat<m.aD.Own.length:=aa
 have ky:(bK m.Heap (h % 32)).toNat<m.aD.Global.length:=aa
 have hl:∀t,t∈iC (pU m w h).aD↔t∈iC m.aD\/(h/32+1<=6/\t=h % 32):=λt=>by
  unfold pU iC;by_cases q:h/32+1<=6
  ·rw[aN q];split
   ·rw[<-dY kx];simp only[dE,GY kx,jO,q,true_and];constructor
    ·rintro(a|a|a)
     ·exact .inl (.inl a)
     ·exact .inl (.inr a)
     ·exact .inr a
    ·rintro((a|a)|a)
     ·exact .inl a
     ·exact .inr (.inl a)
     ·exact .inr (.inr a)
   ·rw[<-dY ky];simp only[dE,GY ky,jO,q,true_and];constructor
    ·rintro((a|a)|a)
     ·exact .inl (.inl a)
     ·exact .inr a
     ·exact .inl (.inr a)
    ·rintro((a|a)|a)
     ·exact .inl (.inl a)
     ·exact .inr a
     ·exact .inl (.inr a)
  ·rw[aP q];simp only[dE,q,false_and,or_false]
 refine⟨λt=>by rw[hh];rfl,λt ht=>by rw[hh];exact hg t ht,λt ht=>by rw[hl];exact⟨λx=>x.elim id λy=>absurd y.2 ht,.inl⟩,λhu=>?_⟩;have hu':=iL.1 hu;have e1:kP (pU m w h).Heap (h % 32)=h/32+1:=by rw[hh,hg _ hcl,aN rfl]
 rw[e1] at hu';exact hu'.2.1 ((hl _).2 (.inr ⟨hu'.2.2,rfl⟩))
theorem aM6(hm:lU m){h:Int}(hw:0<=w/\w<=2)(hv:mN m h){t:Int}(ht:t≠h % 32):eK (pU m w h) t=eK m t:=by
 obtain⟨a,b,c,_⟩:=aBZ hm hw hv;by_cases q:0<=bK m.Heap t
 ·exact aD3 (a t) (by rw[b t q,aP ht]) (c t ht)
 ·have e:bK (pU m w h).Heap t=bK m.Heap t:=a t;unfold eK;rw[e,aN aa,aN aa]
theorem aV0{l:List eN}{j:Nat}(h:j<l.length):ML l (j:Int)=l[j]:=by
 have:=YV (l:=l) (k:=(j:Int)) aa;rw[aW h] at this;injection this with this
 exact this.symm
def bIZ(h:Heap)(s:Int):Int:=ld h.Bytes ((iZ s (bK h s)).toNat+4) 4
theorem aV1{h:Heap}(hc:0<=bK h s):(iZ s (bK h s)).toNat+8<=384:=(bLH hc).1
theorem bEE{h:Heap}(hh:HOk h)(hc:0<=bK h s):1<=kP h s/\kP h s<=7:=by obtain⟨p,i,p6,hi,es,ec,eo,ep⟩:=pT hc;have hold:=(GX hh.1 p6).1 (hh.2 p p6);simp_all[aBV,aP,kP]
structure aSZ (m m':Mem) (x:Int):Prop where
 was:eK m x≠3
 now:eK m' x=3
 gen:1<=kP m'.Heap x/\kP m'.Heap x<=6
 rest:∀t,t≠x->(eK m' t=3↔eK m t=3)
 same:∀t,eK m t=3->kP m'.Heap t=kP m.Heap t/\bIZ m'.Heap t=bIZ m.Heap t
theorem aQP(hm:lU m){ls:aD}(h1:∀t,t∈iC m.aD↔t∈iC ls\/t=x)(h2:x∉iC ls):aSZ m ⟨m.Heap,ls⟩ x:=by have hx:x∈iC m.aD:=(h1 x).2 (.inr rfl);obtain⟨a,b⟩:=lU.oC hm hx;refine⟨λq=>(iL.1 q).2.1 hx,iL.2 ⟨a,h2,b⟩,⟨(bEE hm.1.1 a).1,b⟩,λt ht=>?_,λt _=>⟨rfl,rfl⟩⟩;grind[iL]
theorem a4B(h:l≠[]):l=(N6 l).1++[(N6 l).2]:=by
 unfold N6;rcases Z8 l with rfl|⟨L,b,rfl⟩
 ·exact absurd rfl h
 ·simp
theorem aV2{l:List bB}{k:Nat}(hk:k<l.length)(h:fM l k≠[]):∃A B,fE l=A++((N6 (fM l k)).2::B)/\fE (l.set k ⟨(N6 (fM l k)).1⟩)=A++B:=by grind[a4B,N6,D1,dY,IE]
theorem aV3{l:List bB}{k:Nat}(hk:k<l.length)(h:fM l k=[]):l.set k ⟨(N6 (fM l k)).1⟩=l/\(N6 (fM l k)).2 = -1:=by
 rw[h];refine⟨?_,rfl⟩;have e:(⟨(N6 []).1⟩:bB)=l[k]:=by
  have:=dY hk;rw[h] at this;cases hl:l[k] with
  |mk s=>rw[hl] at this;simp only at this;subst this;rfl
 simp_all
theorem aS0(hm:lU m)(hw:0<=w/\w<=2)(hc:0<=c/\c<=2):(GZ m w c=(m,-1))\/0<=(GZ m w c).2/\aSZ m (GZ m w c).1 (GZ m w c).2:=by
 obtain⟨hcnt,h3,h9,_⟩:=lU.facts hm;have hk:(w*3+c).toNat<m.aD.Own.length:=aa
 unfold GZ;by_cases q:fM m.aD.Own (w*3+c).toNat=[]
 ·left;obtain⟨a,b⟩:=aV3 hk q;rw[a,b]
 ·right;obtain⟨A,B,e1,e2⟩:=aV2 hk q;have nd:=hm.1.2.2.2.2.2;have rg:=hm.1.2.2.2.2.1;unfold iC at nd rg;rw[e1] at nd rg;refine⟨(rg _ ae).1,aQP hm (λt=>?_) ?_⟩
  ·grind[iC]
  grind[iC]
theorem aPK(hm:lU m)(hc:0<=c/\c<=2):(zK m c=(m,-1))\/0<=(zK m c).2/\aSZ m (zK m c).1 (zK m c).2:=by
 obtain⟨hcnt,h3,h9,_⟩:=lU.facts hm;have hk:c.toNat<m.aD.Global.length:=aa
 unfold zK;by_cases q:fM m.aD.Global c.toNat=[]
 ·left;obtain⟨a,b⟩:=aV3 hk q;rw[a,b]
 ·right;obtain⟨A,B,e1,e2⟩:=aV2 hk q;have nd:=hm.1.2.2.2.2.2;have rg:=hm.1.2.2.2.2.1;unfold iC at nd rg;rw[e1] at nd rg;refine⟨(rg _ ae).1,aQP hm (λt=>?_) ?_⟩
  ·grind[iC]
  grind[iC]
theorem aY9(hm:lU m)(hc:0<=c/\c<=2):(yK m c=(m,-1))\/0<=(yK m c).2/\aSZ m (yK m c).1 (yK m c).2:=by
 obtain⟨hcnt,h3,h9,h1,_⟩:=lU.facts hm;have hs:=hm.1.1.1;unfold yK;by_cases q:pgF m.Heap=6
 ·grind
 right;rw[aP q];obtain⟨hp,hun⟩:=aYS hs q;generalize pgF m.Heap=p at hp hun;obtain⟨a,b,d,e⟩:=HOk.a8Z hm.1.1 hp aa hc;have hpp:0<cH c:=jW.2 hc;have hp4:=pQ c;have hk:c.toNat<m.aD.Global.length:=aa
 have hcons:gS p (cH c).toNat=(p:Int)*4::(gS p (cH c).toNat).drop 1:=by
  have:0<(gS p (cH c).toNat).length:=by grind[aFV]
  have h0:=uE this;rw[U5] at h0;have e0:(gS p (cH c).toNat)[0]=(p:Int)*4:=by simp[gS]
  grind
 have hnd:=aVH p (cH c).toNat;rw[hcons,WU] at hnd;have hxs:∀t,t∈(gS p (cH c).toNat).drop 1↔∃i,i<(cH c).toNat/\t=(p:Int)*4+(i:Nat)/\i≠0:=λt=>by
  constructor
  ·intro h;obtain⟨i,hi,rfl⟩:=a80 (RN h);grind
  ·rintro⟨i,hi,rfl,i0⟩;have hmem:(p:Int)*4+(i:Nat)∈gS p (cH c).toNat:=by grind[gS]
   grind
 generalize (gS p (cH c).toNat).drop 1=xs at hnd hxs;have hmem:∀t,t∈iC ⟨m.aD.Global.set c.toNat ⟨fM m.aD.Global c.toNat++xs⟩,m.aD.Own⟩↔t∈iC m.aD\/t∈xs:=λt=>by unfold iC;rw[<-dY hk];simp[GY,or_right_comm]
 have hno:∀i,i<(cH c).toNat->¬0<=bK m.Heap ((p:Int)*4+(i:Nat)):=λi hi z=>(d _ z).1 aa;have e0:=e 0 aa;rw[show(p:Int)*4+((0:Nat):Int)=(p:Int)*4 by omega] at e0;have hno0:=hno 0 aa;rw[show(p:Int)*4+((0:Nat):Int)=(p:Int)*4 by omega] at hno0;have bts:=λj=>(a1H hm.1.1.1.1 hp hc (cH c).toNat aa j).1;have hbl:=K9 m.Heap.Bytes p c (cH c).toNat;refine⟨aa,λz=>hno0 (iL.1 z).1,iL.2 ⟨aj,λz=>?_,aj⟩,aj,λt ht=>?_,λt ht=>?_⟩
 ·grind[lU.oC]
 ·rw[iL,iL];simp only at ht;by_cases z:0<=bK m.Heap t
  ·obtain⟨z1,z2⟩:=d t z;have zx:t∉xs:=λy=>by obtain⟨i,hi,rfl,_⟩:=(hxs t).1 y;omega
   have:t∈iC (⟨m.aD.Global.set c.toNat ⟨fM m.aD.Global c.toNat++xs⟩,m.aD.Own⟩:aD)↔t∈iC m.aD:=aj
   simp only[this,b t z1,z2]
  ·refine⟨λy=>?_,λy=>absurd y.1 z⟩;exfalso;obtain⟨y1,y2,y3⟩:=y;by_cases zp:(t/4).toNat=p
   ·obtain⟨r1,r2,r3⟩:=qU y1;rw[zp,YS hs hp,aN rfl] at r2;exact y2 ((hmem t).2 (.inr ((hxs t).2 ⟨(t % 4).toNat,aa,aa,aa⟩)))
   grind
 ·have ht':=iL.1 ht;obtain⟨z1,z2⟩:=d t ht'.1;refine⟨z2,?_⟩;obtain⟨p',i',p6',hi',es',ec',eo',ep'⟩:=pT ht'.1;have hend:=aV1 ht'.1;have hz':=zJ hs p6' rfl hi';have room:8+i'*(bD (cX m.Heap p')).toNat+8<=64:=by
   have hcl:0<=cX m.Heap p'/\cX m.Heap p'<=2:=jW.1 aa;generalize cX m.Heap p'=c' at hi' hcl;rcases m9 hcl with rfl|rfl|rfl
   ·grind[cH,bD]
   ·grind[cH,bD]
   grind[cH,bD]
  unfold bIZ;simp only;rw[b t z1];exact JK aa hbl λj j1 j2=>bts j aa
theorem a9P{h:Heap}{t:Int}(hc:0<=bK h s)(ht:0<=bK h t)(hn:s≠t):(iZ s (bK h s)).toNat+4+(jC (bK h s)).toNat<=(iZ t (bK h t)).toNat\/(iZ t (bK h t)).toNat+4+(jC (bK h t)).toNat<=(iZ s (bK h s)).toNat:=by
 obtain⟨p,i,p6,hi,es,ec,eo,ep⟩:=pT hc;obtain⟨q,j,q6,hj,fs,fc,fo,fp⟩:=pT ht;rw[eo,fo,ec,fc];have room:∀{c:Int} {i:Nat},i<(cH c).toNat->(c=0/\i<4/\(bD c).toNat=12/\(jC c).toNat=8)\/(c=1/\i<2/\(bD c).toNat=20/\(jC c).toNat=16)\/(c=2/\i<1/\(bD c).toNat=44/\(jC c).toNat=40):=λ{c i} h=>by
  rcases m9 (jW.1 (show 0<cH c by omega)) with rfl|rfl|rfl
  ·exact .inl ⟨rfl,h,rfl,rfl⟩
  ·exact .inr (.inl ⟨rfl,h,rfl,rfl⟩)
  ·exact .inr (.inr ⟨rfl,h,rfl,rfl⟩)
 by_cases e:p=q
 ·subst e;have hij:i≠j:=λe=>hn aa;have r2:=room hj;rcases room hi with ⟨_,a,b,c⟩|⟨_,a,b,c⟩|⟨_,a,b,c⟩
  ·rw[b,c];omega
  ·rw[b,c];omega
  ·omega
 ·have:p<q\/q<p:=aa
  rcases room hi with ⟨_,a,b,c⟩|⟨_,a,b,c⟩|⟨_,a,b,c⟩<;>rcases room hj with ⟨_,a',b',c'⟩|⟨_,a',b',c'⟩|⟨_,a',b',c'⟩<;>rw[b,c,b',c']<;>omega
theorem aV4{b b':List Int}{a:Nat}(h:a+2<=b.length)(hl:b'.length=b.length)(hs:∀j,a<=j->j<a+2->bt b' j=bt b j):ld b' a 2=ld b a 2:=by grind[ld,uE,aMH]
theorem aM7{h h':Heap}{t:Int}(h384:h.Bytes.length=384)(hc:0<=bK h t)(h10:10<=jC (bK h t))(e:bK h' t=bK h t)(hl:h'.Bytes.length=h.Bytes.length)(hs:∀j,AN h t<=j->j<AN h t+10->bt h'.Bytes j=bt h.Bytes j):Z3 h' t=Z3 h t:=by grind[DJ,AN,Z3,aV4,JK]
def Kn(m m':Mem)(z:Int):Prop:=∀x,kE m x->x % 32≠z->kE m' x/\Z3 m'.Heap (x % 32)=Z3 m.Heap (x % 32)
theorem Kn.refl(m:Mem)(z:Int):Kn m m z:=λ_ h _=>⟨h,rfl⟩
theorem vG.kn{z:Int}(h:vG m m' z)(hn:∀x,kE m x->x % 32≠z->Z3 m'.Heap (x % 32)=Z3 m.Heap (x % 32)):Kn m m' z:=λx hx hz=>by obtain⟨a,b,c⟩:=h.2 _ hx.1.2.1 hz;exact⟨⟨⟨hx.1.1,a,by rw[b];exact hx.1.2.2⟩,by rw[c];exact hx.2⟩,hn x hx hz⟩
theorem aJR(hm:lU m){h:Int}(hw:0<=w/\w<=2)(hv:mN m h):Kn m (pU m w h) (h % 32):=by
 obtain⟨m',e1,e2,_,hs⟩:=aJD hm hw hv;rw[aD4 hm hw hv] at e1;injection e1 with e1
 rw[<-e1] at hs;refine hs.kn λx hx hz=>?_;have hcl:=dN hv.2.1;have h384:=hm.1.1.1.1;have hh:(pU m w h).Heap=⟨st4 m.Heap.Bytes (iZ (h % 32) (bK m.Heap (h % 32))).toNat (h/32+1),m.Heap.Class⟩:=by simp[pU,apply_ite]
 rw[hh];have hc:=dN hx.1.2.1;have e:=aV1 hcl;have a:=a9P hcl hc (λq=>hz q.symm);have s1:=(DJ hc hx.2).2;have s2:8<=(jC (bK m.Heap (h % 32))).toNat:=by have:=qU hcl;have hh:=jW.1 (show 0<cH (cX m.Heap (h % 32/4).toNat) by omega);rw[this.2.2];rcases m9 hh with e|e|e<;>rw[e]<;>decide
 refine aM7 h384 hc hx.2 rfl (GW ..) λj j1 j2=>?_;unfold AN at j1 j2;rw[IF aa,gR,gR]
theorem a1T(hm:lU m)(hx:kE m x){o:Nat}{t:List UInt8}(ho:o+t.length<=10):Kn m ⟨⟨jX m.Heap.Bytes (AN m.Heap (x % 32)+o) t,m.Heap.Class⟩,m.aD⟩ (x % 32):=by have hcl:=dN hx.1.2.1;have r:=DJ hcl hx.2;have h384:=hm.1.1.1.1;have h:=lU.jX hm hcl (o:=o) (t:=t) aa;refine λy hy hz=>?_;have hc:=dN hy.1.2.1;obtain⟨a,b,c⟩:=h.2 _ hy.1.2.1 aa;have ap:=a9P hcl hc (λq=>hz q.symm);have s1:=(DJ hc hy.2).2;refine⟨⟨⟨hy.1.1,a,b.trans hy.1.2.2⟩,hy.2⟩,aM7 h384 hc hy.2 rfl (BP ..) λj j1 j2=>?_⟩;grind[AN,MM]
theorem kE.jX(hm:lU m)(hx:kE m x){o:Nat}{t:List UInt8}(ho:o+t.length<=10):kE ⟨⟨Gv.jX m.Heap.Bytes (AN m.Heap (x % 32)+o) t,m.Heap.Class⟩,m.aD⟩ x:=by have hcl:=dN hx.1.2.1;have r:=DJ hcl hx.2;have h:=lU.jX hm hcl (o:=o) (t:=t) aa;obtain⟨a,b,c⟩:=h.2 _ hx.1.2.1 aa;exact⟨⟨hx.1.1,a,b.trans hx.1.2.2⟩,hx.2⟩
theorem a9Q{b:List Int}{a:Nat}{t:List UInt8}(h:a+t.length<=b.length){k:Nat}(j:Nat)(e:k=a+j)(hj:j<t.length):bt (jX b a t) k=(t[j].toNat:Int):=by grind[aMO]
theorem u8v(z:Int):((u8 z).toNat:Int)=z % 256:=by grind[u8,UInt8.toNat_ofNat_of_lt']
theorem aZA{b:List Int}{a k:Nat}{t l r:List UInt8}(ht:t=l++nV n++r)(hk:k=a+l.length)(h:a+t.length<=b.length)(hn:0<=n/\n<=4294967295):ld (jX b a t) k 4=n:=by
 have e:∀j (hj:j<4),bt (jX b a t) (k+j)=(((nV n)[j]'(by grind[nV])).toNat:Int):=λj hj=>by
  have h4:(nV n).length=4:=rfl;have hl:t.length=l.length+4+r.length:=aj
  rw[a9Q h (l.length+j) aa aa];grind
 have h4:(nV n).length=4:=rfl;have hl:t.length=l.length+4+r.length:=aj
 have e0:=e 0 aa;have e1:=e 1 aa;have e2:=e 2 aa;have e3:=e 3 aa;simp only[nV,List.getElem_cons_zero,List.getElem_cons_succ,u8v,U8] at e0 e1 e2 e3;grind[ld4,BP]
section
variable {m:Mem} (hm:lU m) {x:Int} (hx:kE m x)
include hm hx
theorem a1U{o:Nat}{t:List UInt8}(ho:o+t.length<=10)(s:Int):eK ⟨⟨jX m.Heap.Bytes (AN m.Heap (x % 32)+o) t,m.Heap.Class⟩,m.aD⟩ s=eK m s:=by
 have hcl:=dN hx.1.2.1;have r:=DJ hcl hx.2;have h:=(HOk.jX hm.1.1 hcl (o:=o) (t:=t) aa).2;by_cases q:0<=bK m.Heap s
 ·exact aD3 rfl (h s q) Iff.rfl
 ·have c:bK m.Heap s<0:=aa
  exact(aN (show bK _ s<0 from c)).trans (aN c).symm
structure Wr1 (m m':Mem) (x:Int) (n:gN):Prop where
 ok:kE m' x
 nod:Z3 m'.Heap (x % 32)=n
 kn:Kn m m' (x % 32)
 st:∀s,eK m' s=eK m s
theorem bEF{y:Int}(hy:oB y):Wr1 m (Gv.aGQ m x y) x {Z3 m.Heap (x % 32) with Next:=y}:=by have hcl:=dN hx.1.2.1;have r:=(DJ hcl hx.2).1;have h384:=hm.1.1.1.1;have h4:(nV y).length=4:=rfl;have hr:=aD6 hy;unfold Gv.aGQ;rw[aN ⟨hy,hx⟩];refine⟨kE.jX hm hx aa,?_,a1T hm hx aa,a1U hm hx aa⟩;have ed:AN ⟨jX m.Heap.Bytes (AN m.Heap (x % 32)+6) (nV y),m.Heap.Class⟩ (x % 32)=AN m.Heap (x % 32):=rfl;unfold Z3;simp only[ed];rw[aV4 aa (BP ..) λj a b=>MM _ aa aa,JK aa (BP ..) λj a b=>MM _ aa aa,aZA (l:=[]) (r:=[]) (n:=y) ae ae aa aa]
theorem bI0{n:gN}(hn:aBX n):Wr1 m (aAY m x n) x n:=by
 have hcl:=dN hx.1.2.1;have r:=(DJ hcl hx.2).1;have h384:=hm.1.1.1.1;have hl:(aPI n).length=10:=by simp[aPI,S3,nV]
 have hr:=aD6 hn.2.2;have hk:=hn.1;have hv:=hn.2.1;unfold aAY;rw[aN ⟨hn,hx⟩];refine⟨kE.jX hm hx (o:=0) aa,?_,a1T hm hx (o:=0) aa,a1U hm hx (o:=0) aa⟩;have ed:AN ⟨jX m.Heap.Bytes (AN m.Heap (x % 32)) (aPI n),m.Heap.Class⟩ (x % 32)=AN m.Heap (x % 32):=rfl;have hle:AN m.Heap (x % 32)+(aPI n).length<=m.Heap.Bytes.length:=aa
 have e2:ld (jX m.Heap.Bytes (AN m.Heap (x % 32)) (aPI n)) (AN m.Heap (x % 32)) 2=n.Key:=by
  have e:∀{b:List Int} {a:Nat},a+2<=b.length->ld b a 2=bt b a*256+bt b (a+1):=λh=>by grind[ld,uE,ldF,aMH]
  rw[e (by grind[BP]),a9Q hle 0 (U8 _).symm aa,a9Q hle 1 rfl aa];grind[aPI,S3,u8v]
 unfold Z3;simp only[ed];rw[e2,aZA (l:=S3 n.Key) (r:=nV n.Next) (n:=n.dM) (by simp[aPI]) (by simp[S3]) hle aa,aZA (l:=S3 n.Key++nV n.dM) (r:=[]) (n:=n.Next) (by simp[aPI]) (by simp[S3,nV]) hle aa]
end
theorem a1V(e:m'.Heap=m.Heap)(h:aSZ m m' x):Kn m m' (-1):=λy hy _=>by have h1:=(h.rest (y % 32) (λq=>h.was (q ▸ hy.1.2.1))).2 hy.1.2.1;grind[kE,mN]
theorem a1W(h:0<=(N6 l).2):(N6 l).2∈l:=by
 rcases Z8 l with rfl|⟨L,b,rfl⟩
 ·exact absurd h (by simp[N6])
 ·simp[N6]
theorem a9R(hm:lU m)(hc:0<=c/\c<=2)(h:aSZ m (yK m c).1 (yK m c).2):Kn m (yK m c).1 (-1)/\bK (yK m c).1.Heap (yK m c).2=c:=by
 have hs:=hm.1.1.1;unfold yK at h ⊢;by_cases q:pgF m.Heap=6
 ·rw[aN q] at h;exact absurd h.now h.was
 rw[aP q] at h ⊢;obtain⟨hp,hun⟩:=aYS hs q;generalize pgF m.Heap=p at hp hun h;obtain⟨a,b,d,e⟩:=HOk.a8Z hm.1.1 hp aa hc;have hpp:0<cH c:=jW.2 hc;have e0:=(e 0 aa).1;rw[show(p:Int)*4+((0:Nat):Int)=(p:Int)*4 by omega] at e0;refine⟨λy hy _=>?_,e0⟩;have h1:=(h.rest (y % 32) (λq=>h.was (q ▸ hy.1.2.1))).2 hy.1.2.1;have hcl:=dN hy.1.2.1;obtain⟨z1,z2⟩:=d _ hcl;have ec:=b _ z1;refine⟨⟨⟨hy.1.1,h1,z2.trans hy.1.2.2⟩,by show 10<=jC (bK _ _);rw[ec];exact hy.2⟩,?_⟩;have bts:=λj=>(a1H hm.1.1.1.1 hp hc (cH c).toNat aa j).1;obtain⟨p',i',p6',hi',es',ec',eo',ep'⟩:=pT hcl;have r:=DJ hcl hy.2;refine aM7 hm.1.1.1.1 hcl hy.2 ec (K9 ..) λj j1 j2=>bts j ?_;unfold AN at j1 j2;have room:8+i'*(bD (cX m.Heap p')).toNat+4+10<=64:=by
  have hcl:0<=cX m.Heap p'/\cX m.Heap p'<=2:=jW.1 aa;have h10:=hy.2;rw[ec'] at h10;generalize cX m.Heap p'=c' at hi' hcl h10;rcases m9 hcl with rfl|rfl|rfl
  ·exact absurd h10 ai
  ·rw[show(cH 1).toNat=2 from rfl] at hi';rw[show(bD 1).toNat=20 from rfl];omega
  simp_all[cH]
 omega
structure AlT (b:aA) (s:Sub) (r:aA×Sub):Prop where
 clock:r.1.aC=b.aC
 bOU:r.1.aQ=b.aQ
 haz:r.1.qJ=b.qJ
 two:r.1.Mem=b.Mem/\(r.2.gU=true/\r.2.Code=3\/s.Pc<=2/\r.2={s with Pc:=s.Pc+1}) \/
  r.2.gU=true/\r.2.Code=0/\kE r.1.Mem r.2.Out/\aSZ b.Mem r.1.Mem (r.2.Out % 32)/\Kn b.Mem r.1.Mem (-1)
theorem aJS{b:aA}(hm:lU b.Mem)(hw:0<=w/\w<=2){s:Sub}(hk:s.Kind=1)(hd:s.gU=false)(hp:0<=s.Pc/\s.Pc<=3)(ha:s.A=16):AlT b s (iG b w s):=by
 have e:iG b w s=YU b w s:=by grind[iG]
 rw[e];have h1:LA s.A=1:=by rw[ha];rfl
 have fin:∀p:Mem×Int,(p=(b.Mem,-1)\/0<=p.2/\aSZ b.Mem p.1 p.2)->(aSZ b.Mem p.1 p.2->0<=p.2->Kn b.Mem p.1 (-1)/\bK p.1.Heap p.2=1)->AlT b s (N7 b s p):=λp h hk=>by
  unfold N7;rcases h with rfl|⟨h0,h1⟩
  ·rw[gI];split
   ·exact⟨rfl,rfl,rfl,.inl ⟨rfl,.inl ⟨rfl,rfl⟩⟩⟩
   ·exact⟨rfl,rfl,rfl,.inl ⟨rfl,.inr ⟨aa,rfl⟩⟩⟩
  ·obtain⟨k1,k2⟩:=hk h1 h0;rw[aN h0];have h23:=(qU (iL.1 h1.now).1).1;have eh:aYT p.1 p.2=kP p.1.Heap p.2*32+p.2:=aN h1.gen;have hg:=h1.gen;have e1:aYT p.1 p.2 % 32=p.2:=aa
   have e2:aYT p.1 p.2/32=kP p.1.Heap p.2:=aa
   have hn:lK (aYT p.1 p.2):=by grind[lK]
   refine⟨rfl,rfl,rfl,.inr ⟨rfl,rfl,⟨⟨hn,?_,?_⟩,?_⟩,?_,k1⟩⟩
   ·simp only[yJ];rw[e1];exact h1.now
   ·grind[yJ]
   ·simp only[yJ];rw[e1,k2];decide
   grind[yJ]
 unfold YU;rw[h1,gR];have hc:(0:Int)<=1/\(1:Int)<=2:=aa
 split
 ·refine fin _ (aS0 hm hw hc) λt h=>⟨a1V rfl t,?_⟩;have hf:=hm.2.2 (w*3+1).toNat aa _ (a1W h);rw[show(((w*3+1).toNat % 3:Nat):Int)=1 by omega] at hf;exact hf.1
 split
 ·exact fin _ (aPK hm hc) λt h=>⟨a1V rfl t,(hm.2.1 1 aa _ (a1W h)).1⟩
 grind[aY9,a9R]
abbrev fC(v:Int):Prop:=0<=v/\v<=2
abbrev oS(v:Int):Prop:=0<=v/\v<=1
def cG(m:Mem)(x:Int):gN:=Z3 m.Heap (x % 32)
def ChT(m:Mem):Int->List Int->Prop
 |x,[]=>x=0
 |x,h::r=>x=h/\kE m h/\aBX (cG m h)/\ChT m (cG m h).Next r
def Z5(l:List Int)(s:Int):Nat:=(l.map (· % 32)).count s
def kQ(j:aI):List Int:=if(6<=j.Pc/\j.Pc<=8)\/j.Pc=16\/j.Pc=17 then j.gK else if 9<=j.Pc/\j.Pc<=13 then j.gK.drop (fP j.aH j.K).toNat else []
def aF2(j:aI):List Int:=if 9<=j.Pc/\j.Pc<=14 then j.b9 else if j.Pc=15 then j.b9.drop j.K.toNat else []
def own(j:aI):List Int:=kQ j++aF2 j
def ind(b:aA)(s:Int):Nat:=if eK b.Mem s=3/\¬bG b.aQ s then 1 else 0
def cnO(J:Int->aI)(s:Int):Nat:=Z5 (own (J 0)) s+Z5 (own (J 1)) s+Z5 (own (J 2)) s
def cnC(c:Int->List Int)(s:Int):Nat:=Z5 (c 0) s+Z5 (c 1) s
def zQ(J:Int->aI)(w:Int)(j:aI):Int->aI:=λv=>if v=w then j else J v
def upC(c:Int->List Int)(i:Int)(l:List Int):Int->List Int:=λv=>if v=i then l else c v
theorem iN(J:Int->aI)(w:Int)(j:aI):zQ J w j w=j:=aN rfl
theorem uB(J:Int->aI){v:Int}(j:aI)(h:v≠w):zQ J w j v=J v:=aP h
theorem pX(c:Int->List Int)(i:Int)(l:List Int):upC c i l i=l:=aN rfl
def upQ(q:Int->Nat)(w:Int)(n:Nat):Int->Nat:=λv=>if v=w then n else q v
theorem a9T(q:Int->Nat)(w:Int):upQ q w (q w)=q:=by grind[upQ]
theorem LC(c:Int->List Int){v:Int}(l:List Int)(h:v≠i):upC c i l v=c v:=aP h
@[simp] theorem a9U (s : Int) : Z5 [] s = 0 := rfl
theorem U0(a b:List Int)(s:Int):Z5 (a++b) s=Z5 a s+Z5 b s:=by simp[Z5]
theorem P5(x:Int)(l:List Int)(s:Int):Z5 (x::l) s=Z5 l s+if x % 32=s then 1 else 0:=by grind[Z5]
theorem RK(h:x∈l):1<=Z5 l (x % 32):=List.count_pos_iff.2 (AR.2 ⟨x,h,rfl⟩)
theorem YZ{J:Int->aI}(hw:fC w)(j:aI)(s:Int):cnO (zQ J w j) s+Z5 (own (J w)) s=cnO J s+Z5 (own j) s:=by grind[cnO,zQ]
theorem aZB(J:Int->aI){v:Int}(hv:fC v)(s:Int):Z5 (own (J v)) s<=cnO J s:=by grind[cnO]
theorem bEG(J:Int->aI){v:Int}(hv:fC v)(hw:fC w)(hn:v≠w)(s:Int):Z5 (own (J v)) s+Z5 (own (J w)) s<=cnO J s:=by grind[cnO]
theorem a9V{c:Int->List Int}(hi:oS i)(l:List Int)(s:Int):cnC (upC c i l) s+Z5 (c i) s=cnC c s+Z5 l s:=by grind[cnC,upC]
theorem a9W(c:Int->List Int)(hi:oS i)(s:Int):Z5 (c i) s<=cnC c s:=by grind[cnC]
theorem a1X(c:Int->List Int){j:Int}(hi:oS i)(hj:oS j)(hn:i≠j)(s:Int):Z5 (c i) s+Z5 (c j) s<=cnC c s:=by grind[cnC]
def bi(j:aI):Int:=jD (mO j).Key
structure TW (Ky:List Int) (m:Mem) (k:List bX) (c:Int->List Int) (q:Nat) (j:aI):Prop where
 pc:0<=j.Pc/\j.Pc<=21
 nO:j.Pc<6\/20<=j.Pc->j.gK=[]
 oO:j.Pc<=8\/j.Pc=16\/j.Pc=17\/20<=j.Pc->j.b9=[]
 hc:2<=j.Pc/\j.Pc<=5->tZ j
 wl:(j.aH.length:Int)<=j.At
 n6:j.Pc=6->(j.gK.length:Int)=j.K/\j.K<=fP j.aH j.aH.length
 n7:7<=j.Pc/\j.Pc<=13->(j.gK.length:Int)=fP j.aH j.aH.length/\(9<=j.Pc->(j.b9.length:Int)<=if j.Pc<=11 then j.K else j.K+1)
 l7:j.Pc=7->∀x∈(pR j.aH).take j.K.toNat,x∈j.bG
 l8:8<=j.Pc/\j.Pc<=13->∀x∈j.aH,jD x.Key∈j.bG
 k9:10<=j.Pc/\j.Pc<=13->j.K<j.aH.length
 st:j.Pc=10\/j.Pc=11->∃A B,c (bi j)=A++j.H::B/\(j.gO=A.getLastD 0/\∀a∈A,(cG m a).Key≠(mO j).Key)/\(j.Pc=10->B.length<=q)
 cu:j.Pc=11->j.Node=cG m j.H/\j.Node.Key=(mO j).Key
 fl:j.Pc=12\/j.Pc=13->(mO j).HC=false/\∀a∈c (bi j),(cG m a).Key≠(mO j).Key
 ln:j.Pc=13->cG m (G6 j)=⟨(mO j).Key,(mO j).dM,(dW k (bi j)).Head⟩
 cd:j.Code=0/\j.Pc≠16/\j.Pc≠17\/(j.Code=3\/j.Code=6\/j.Code=7)/\16<=j.Pc/\j.Pc<=19
 at_:j.Code=0->6<=j.Pc/\j.Pc<=19->j.At=j.Batch.bM.length
 cl:j.Batch.Collect=true->j.Pc=19\/j.Pc=20\/j.Pc=21
 cl2:j.Pc=20\/j.Pc=21->j.Batch.Collect=true
 ky:(∀x∈j.aH,x.Key∈Ky)/\∀x∈j.Batch.bM,x.Key∈Ky
def Rp(m:Mem):List Int->Prop
 |[]=>True
 |h::r=>kE m h/\aBX (cG m h)/\((cG m h).Next=0\/(cG m h).Next∈r)/\Rp m r
def Sfe(b:aA)(J:Int->aI)(e x:Int):Prop:=(∀r∈dV b.aQ,r.Handle=x->e<=r.aK)/\∀v,fC v->x∉kQ (J v)/\((J v).Pc=15->(J v).K<(J v).b9.length->(J v).Sub.A=x->(J v).Sub.Pc=1->e<=(J v).Sub.E)
def mP(m:Mem)(l:List Int):List Int:=l.map λx=>(cG m x).Key
def mB(c:aC)(v:Int):Prop:=(cS c v).On=true/\(cS c v).gL=false
structure RdL (Ky:List Int) (b:aA) (J:Int->aI) (e:Int) (l:List Int):Prop where
 rp:Rp b.Mem l
 nd:(mP b.Mem l).Nodup
 ky:∀x∈mP b.Mem l,x∈Ky
 sf:∀x∈l,Sfe b J e x
def RdJ(Ky:List Int)(b:aA)(J:Int->aI)(v:Int)(q:Nat)(j:aI):Prop:=(j.Pc=3\/j.Pc=4)->mB b.aC v->∃r,(RdL Ky b J (cS b.aC v).aK (j.H::r)/\r.length<=q)/\(j.Pc=4->(j.Node.Key=(cG b.Mem j.H).Key/\j.Node.dM=(cG b.Mem j.H).dM)/\(j.Node.Next=0\/j.Node.Next∈r))
def bEH(e:Int)(l:List eN)(s:Sub):Prop:=s.Kind=4/\s.gU=false/\(s.Pc=0\/s.E<=e/\(s.Pc=1/\0<=s.Row\/s.Pc=2/\(0<=s.B/\s.B<=2)/\N9 l s/\KG (ML l s.Row) s.E\/s.Pc=3/\N9 l s/\KG (ML l s.Row) s.E))
structure SbJ (b:aA) (v:Int) (j:aI):Prop where
 al:j.Pc=6->j.Sub.Kind=1/\j.Sub.gU=false/\(0<=j.Sub.Pc/\j.Sub.Pc<=3)/\j.Sub.A=16
 rt:j.Pc=15->j.K<j.b9.length->0<=j.K/\j.Sub.Kind=2/\j.Sub.gU=false/\j.Sub.A=j.b9.getD j.K.toNat 0/\(j.Sub.Pc=0\/j.Sub.Pc=1/\0<=j.Sub.E/\j.Sub.E<=b.aC.aK)
 col:j.Pc=21->bEH b.aC.aK (dI b.aQ v) j.Sub
structure sB (Ky:List Int) (b:aA) (k:List bX) (c:Int->List Int) (q:Int->Nat) (J:Int->aI):Prop where
 hz:b.qJ=[0,0,0]
 ch:∀i,oS i->ChT b.Mem (dW k i).Head (c i)
 key:∀i,oS i->(mP b.Mem (c i)).Nodup/\∀x∈mP b.Mem (c i),jD x=i/\x∈Ky
 cnt:∀s,cnC c s+cnO J s=ind b s
 ok:∀v,fC v->∀x∈own (J v),kE b.Mem x
 tw:∀v,fC v->(J v).bU=true->TW Ky b.Mem k c (q v) (J v)
 rd:∀v,fC v->RdJ Ky b J v (q v) (J v)
 sb:∀v,fC v->SbJ b v (J v)
theorem ChT.all:∀{l:List Int} {x:Int},ChT m x l->∀y∈l,kE m y/\aBX (cG m y)
 |[],_,_,_,h=>by cases h
 |a::r,x,h,y,hy=>by
  rcases j3.1 hy with rfl|hy
  ·exact⟨h.2.1,h.2.2.1⟩
  ·exact h.2.2.2.all y hy
theorem ChT.keep:∀{l:List Int} {x:Int},ChT m x l->(∀y∈l,kE m' y/\cG m' y=cG m y)->ChT m' x l
 |[],_,h,_=>h
 |a::r,x,h,hk=>by obtain⟨a1,a2⟩:=hk a ae;exact⟨h.1,a1,by rw[a2];exact h.2.2.1,by rw[a2];exact h.2.2.2.keep λy hy=>hk y (by simp[hy])⟩
theorem ChT.split:∀{h:Int} {B:List Int} {x:Int},ChT m x (A++h::B)->ChT m h (h::B):=by
 induction A with
 |nil=>exact λh=>⟨rfl,h.2⟩
 |cons a A ih=>exact λh=>ih h.2.2.2
theorem ChT.rp:∀{l:List Int} {x:Int},ChT m x l->Rp m l
 |[],_,_=>trivial
 |[a],x,h=>⟨h.2.1,h.2.2.1,.inl h.2.2.2,trivial⟩
 |a::b::r,x,h=>⟨h.2.1,h.2.2.1,.inr (by rw[h.2.2.2.1];simp),h.2.2.2.rp⟩
theorem Rp.from:∀{l:List Int} {x:Int},Rp m l->x∈l->∃A r,l=A++x::r/\Rp m (x::r)
 |a::l,x,h,hx=>by
  by_cases e:x=a
  ·subst e;exact⟨[],l,rfl,h⟩
  ·obtain⟨A,r,e1,h1⟩:=h.2.2.2.from ((j3.1 hx).resolve_left e);grind
theorem Rp.keep:∀{l:List Int},Rp m l->(∀y∈l,kE m' y/\cG m' y=cG m y)->Rp m' l
 |[],_,_=>trivial
 |a::r,h,hk=>by obtain⟨a1,a2⟩:=hk a ae;exact⟨a1,by rw[a2];exact h.2.1,by rw[a2];exact h.2.2.1,h.2.2.2.keep λy hy=>hk y (by simp[hy])⟩
theorem Rp.ok:∀{l:List Int},Rp m l->∀y∈l,kE m y/\aBX (cG m y)
 |a::r,h,y,hy=>by
  rcases j3.1 hy with rfl|hy
  ·exact⟨h.1,h.2.1⟩
  ·exact h.2.2.2.ok y hy
theorem aF3(h:∀y∈l,(cG m' y).Key=(cG m y).Key):mP m' l=mP m l:=List.map_congr_left h
theorem kE.ne(h:kE m x):x≠0:=by have:=h.1.1.1;omega
theorem aNA(b:aA)(s:Int):ind b s<=1:=by grind[ind]
theorem Rp.cut{y:Int}(hy:cG m' y={cG m y with Next:=(cG m (cG m y).Next).Next})(h0:(cG m y).Next≠0):∀{l:List Int},Rp m l->(∀x∈l,kE m' x/\(x≠y->cG m' x=cG m x))->Rp m' l
 |[],_,_=>trivial
 |a::r,h,hk=>by
  have ih:=h.2.2.2.cut hy h0 λx hx=>hk x (by simp[hx]);obtain⟨a1,a2⟩:=hk a ae;by_cases e:a=y
  ·subst e;have hm:=h.2.2.1.resolve_left h0;obtain⟨A,q,e1,e2⟩:=h.2.2.2.from hm;rw[Rp,hy];refine⟨a1,⟨h.2.1.1,h.2.1.2.1,e2.2.1.2.2⟩,e2.2.2.1.imp id λz=>?_,ih⟩;grind
  grind[Rp]
structure Oth (b b':aA) (k k':List bX) (c c':Int->List Int) (J:Int->aI) (w:Int) (j':aI) (y z:Int):Prop where
 nod:∀x,kE b.Mem x->x % 32≠z->kE b'.Mem x/\(x≠y->cG b'.Mem x=cG b.Mem x)
 zo:z = -1\/ind b z=0\/∃x∈own (J w),x % 32=z
 yo:y=0\/y∈kQ (J w)\/(∃i,oS i/\(dW k i).eI=w+1/\y∈c i)/\cG b'.Mem y={cG b.Mem y with Next:=(cG b.Mem (cG b.Mem y).Next).Next}/\(cG b.Mem y).Next≠0
 hk:∀i,oS i->(dW k i).eI≠w+1->(dW k' i).Head=(dW k i).Head/\c' i=c i
 zs:z = -1\/∀v,fC v->v≠w->(J v).Pc=3\/(J v).Pc=4->mB b.aC v->∀x,kE b.Mem x->Sfe b J (cS b.aC v).aK x->x % 32≠z
 lr:∀r∈dV b'.aQ,r∈dV b.aQ\/(J w).Pc=15/\(J w).K<(J w).b9.length/\(J w).Sub.A=r.Handle/\(J w).Sub.Pc=1/\(J w).Sub.E=r.aK
 no:∀x∈kQ j',x∈kQ (J w)\/eK b.Mem (x % 32)≠3
 sr:j'.Pc=15->j'.K<j'.b9.length->j'.Sub.Pc=1->j'.Sub.E=b.aC.aK\/(J w).Pc=15/\(J w).K<(J w).b9.length/\(J w).Sub.A=j'.Sub.A/\(J w).Sub.Pc=1/\(J w).Sub.E=j'.Sub.E
 pin:∀v,fC v->v≠w->mB b'.aC v->mB b.aC v/\(cS b'.aC v).aK=(cS b.aC v).aK
 ep:b.aC.aK<=b'.aC.aK
 rows:∀v,fC v->v≠w->dI b'.aQ v=dI b.aQ v
section
variable {Ky:List Int} {b b':aA} {k k':List bX} {c c':Int->List Int} {J:Int->aI} {q:Int->Nat} {w:Int} {j':aI} {y z:Int}
theorem Oth.sfe(o:Oth b b' k k' c c' J w j' y z)(hw:fC w){e:Int}(he:e<=b.aC.aK)(hx:kE b.Mem x)(h:Sfe b J e x):Sfe b' (zQ J w j') e x:=by
 refine⟨λr hr er=>?_,λv hv=>?_⟩
 ·rcases o.lr r hr with q|⟨q1,q2,q3,q4,q5⟩
  ·exact h.1 r q er
  ·have:=(h.2 w hw).2 q1 q2 (by rw[q3,er]) q4;omega
 ·by_cases q:v=w
  ·subst q;rw[iN];refine⟨λm=>(o.no x m).elim (h.2 v hv).1 λs=>s hx.1.2.1,λa1 a2 a3 a4=>?_⟩;rcases o.sr a1 a2 a4 with s|⟨s1,s2,s3,s4,s5⟩
   ·omega
   ·have:=(h.2 v hv).2 s1 s2 (by rw[s3,a3]) s4;omega
  ·rw[uB _ _ q];exact h.2 v hv
variable (h:sB Ky b k c q J) (hl:∀v,fC v->ZL k v (J v)) (hw:fC w)
include h hw
theorem sB.name{v:Int}(hv:fC v)(hx:x∈own (J v)):1<=Z5 (own (J v)) (x % 32)/\cnC c (x % 32)+cnO J (x % 32)=ind b (x % 32)/\Z5 (own (J v)) (x % 32)<=cnO J (x % 32)/\ind b (x % 32)<=1:=
 ⟨RK hx,h.cnt _,aZB J hv _,aNA ..⟩
theorem sB.link(hi:oS i)(hx:x∈c i):1<=Z5 (c i) (x % 32)/\cnC c (x % 32)+cnO J (x % 32)=ind b (x % 32)/\Z5 (c i) (x % 32)<=cnC c (x % 32)/\ind b (x % 32)<=1:=
 ⟨RK hx,h.cnt _,a9W c hi _,aNA ..⟩
theorem OB(hx:x∈kQ j):x∈own j:=U7 _ hx
theorem Oth.own(o:Oth b b' k k' c c' J w j' y z){v:Int}(hv:fC v)(hn:v≠w)(hx:x∈own (J v)):kE b'.Mem x/\cG b'.Mem x=cG b.Mem x:=by
 have a:=h.name hw hv hx;have two:=bEG J hv hw hn (x % 32);have hz:x % 32≠z:=λe=>by
  rcases o.zo with q|q|⟨u,hu,eu⟩
  ·omega
  ·grind
  ·have:=h.name hw hw hu;grind
 have hy:x≠y:=λe=>by
  subst e;rcases o.yo with q|q|⟨⟨i,hi,_,hc⟩,_⟩
  ·exact(h.ok v hv x hx).ne q
  ·have:=h.name hw hw (OB h hw q);omega
  ·have:=h.link hw hi hc;omega
 obtain⟨r1,r2⟩:=o.nod x (h.ok v hv x hx) hz;grind
theorem Oth.chz(o:Oth b b' k k' c c' J w j' y z)(hi:oS i):∀x∈c i,kE b'.Mem x/\(x≠y->cG b'.Mem x=cG b.Mem x):=λx hx=>by
 have a:=h.link hw hi hx;refine o.nod x ((h.ch i hi).all x hx).1 λe=>?_;rcases o.zo with q|q|⟨u,hu,eu⟩
 ·omega
 ·grind
 ·have:=h.name hw hw hu;grind
theorem Oth.chn(o:Oth b b' k k' c c' J w j' y z)(hi:oS i)(hy:y∉c i):(∀x∈c i,kE b'.Mem x/\cG b'.Mem x=cG b.Mem x)/\((dW k' i).Head=(dW k i).Head->c' i=c i->ChT b'.Mem (dW k' i).Head (c' i)/\mP b'.Mem (c' i)=mP b.Mem (c i)):=by
 have all:∀x∈c i,kE b'.Mem x/\cG b'.Mem x=cG b.Mem x:=λx hx=>by obtain⟨a1,a2⟩:=o.chz h hw hi x hx;grind
 refine⟨all,λe1 e2=>?_⟩;rw[e1,e2];exact⟨(h.ch i hi).keep all,aF3 λx hx=>aj⟩
theorem Oth.yno(o:Oth b b' k k' c c' J w j' y z)(hi:oS i)(hn:(dW k i).eI≠w+1):y∉c i:=λhy=>by
 have a:=h.link hw hi hy;rcases o.yo with q|q|⟨⟨u,hu,hlk,hc⟩,_⟩
 ·exact((h.ch i hi).all y hy).1.ne q
 ·have:=h.name hw hw (OB h hw q);omega
 grind[a1X,RK]
theorem aNB{q1:Nat}(t:TW Ky m k c q1 j)(hj:JB j)(hp:j.Pc=12\/j.Pc=13):G6 j∈kQ j/\∃r,kQ j=G6 j::r/\j.gK.drop ((fP j.aH j.K).toNat+1)=r:=by
 have hk:=t.k9 aa;have hd:=(t.fl hp).1;have hn:=(t.n7 aa).1;have hk0:=hj.k.1;have hi:j.K.toNat<j.aH.length:=aa
 have er:mO j=j.aH[j.K.toNat]:=by grind[mO]
 have hlt:fP j.aH j.K+1<=fP j.aH j.aH.length:=by unfold fP;rw[JM,List.take_length];grind[aAC,uE]
 have p0:0<=fP j.aH j.K:=by grind[fP]
 have hlen:(fP j.aH j.K).toNat<j.gK.length:=aa
 have e1:kQ j=j.gK.drop (fP j.aH j.K).toNat:=by unfold kQ;grind
 grind[G6,uE]
include hl
theorem sB.aQQ{q':Int->Nat}(hq:∀v,v≠w->q' v=q v)(hc:K7 b.aC)(hJ:∀v,fC v->(J v).bU=true->JB (J v))(o:Oth b b' k k' c c' J w j' y z)(hz:b'.qJ=b.qJ)(ch':∀i,oS i->ChT b'.Mem (dW k' i).Head (c' i))(key':∀i,oS i->(mP b'.Mem (c' i)).Nodup/\∀x∈mP b'.Mem (c' i),jD x=i/\x∈Ky)
  (cnt':∀s,cnC c' s+cnO (zQ J w j') s=ind b' s) (ok':∀x∈own j',kE b'.Mem x) (tw':j'.bU=true->TW Ky b'.Mem k' c' (q' w) j') (rd':RdJ Ky b' (zQ J w j') w (q' w) j') (sb':SbJ b' w j'):sB Ky b' k' c' q' (zQ J w j'):=by
 refine⟨hz.trans h.hz,ch',key',cnt',λv hv x hx=>?_,λv hv hb=>?_,λv hv=>?_,λv hv=>?_⟩
 ·by_cases qv:v=w
  ·grind[iN]
  ·rw[uB _ _ qv] at hx;exact(o.own h hw hv qv hx).1
 ·by_cases qv:v=w
  ·grind[iN]
  ·rw[uB _ _ qv] at hb ⊢;rw[hq v qv];have t:=h.tw v hv hb;have hj:=hJ v hv hb;have held:∀i,i∈(J v).bG->oS i/\(dW k' i).Head=(dW k i).Head/\c' i=c i/\∀x∈c i,cG b'.Mem x=cG b.Mem x:=λi hi=>by
    have hb2:=hj.held.1 i hi;have hlk:=((hl v hv).iff i hb2).1 hi;have hn:(dW k i).eI≠w+1:=aa
    obtain⟨a1,a2⟩:=o.hk i hb2 hn;exact⟨hb2,a1,a2,λx hx=>((o.chn h hw hb2 (o.yno h hw hb2 hn)).1 x hx).2⟩
   have hbi:10<=(J v).Pc/\(J v).Pc<=13->bi (J v)∈(J v).bG:=λhp=>by
    have hk:=t.k9 hp;have hk0:=hj.k.1;have hi:(J v).K.toNat<(J v).aH.length:=aa
    have er:mO (J v)=(J v).aH[(J v).K.toNat]:=by grind[mO]
    exact t.l8 aa _ aj
   refine{t with st:=λhp=>?_,cu:=λhp=>?_,fl:=λhp=>?_,ln:=λhp=>?_}
   ·obtain⟨_,_,e2,e3⟩:=held _ (hbi aa);obtain⟨A,B,x1,⟨x2,x3⟩,x4⟩:=t.st hp;grind
   ·obtain⟨_,_,e2,e3⟩:=held _ (hbi aa);obtain⟨A,B,x1,_⟩:=t.st (.inr hp);rw[e3 (J v).H aj];exact t.cu hp
   ·obtain⟨_,_,e2,e3⟩:=held _ (hbi aa);obtain⟨x1,x2⟩:=t.fl hp;grind
   ·obtain⟨_,e1,e2,e3⟩:=held _ (hbi aa);rw[(o.own h hw hv qv (OB h hw (aNB h hw t hj (.inr hp)).1)).2,e1];exact t.ln hp
 ·by_cases qv:v=w
  ·grind[iN]
  ·rw[uB _ _ qv,hq v qv];intro hp hpin;obtain⟨p1,p2⟩:=o.pin v hv qv hpin;obtain⟨r,⟨⟨a1,a2,a3,a4⟩,a6⟩,a5⟩:=h.rd v hv hp p1;have he:(cS b.aC v).aK<=b.aC.aK:=(aMM hc hv).1.2;have hx:∀x∈(J v).H::r,kE b'.Mem x/\(x≠y->cG b'.Mem x=cG b.Mem x):=λx hx=>by
    refine o.nod x (a1.ok x hx).1 λez=>?_;rcases o.zs with z1|z1
    ·omega
    ·exact z1 v hv qv hp p1 x (a1.ok x hx).1 (a4 x hx) ez
   have hsf:∀x∈(J v).H::r,Sfe b' (zQ J w j') (cS b'.aC v).aK x:=λx hx=>by rw[p2];exact o.sfe hw he (a1.ok x hx).1 (a4 x hx)
   have hkv:∀x∈(J v).H::r,(cG b'.Mem x).Key=(cG b.Mem x).Key/\(cG b'.Mem x).dM=(cG b.Mem x).dM:=λx hm=>by
    by_cases e:x=y
    ·rcases o.yo with q0|q0|⟨_,q1,_⟩
     ·exact absurd (e.trans q0) (a1.ok x hm).1.ne
     ·exact absurd (e ▸ q0) ((a4 x hm).2 w hw).1
     grind
    grind
   have hkk:mP b'.Mem ((J v).H::r)=mP b.Mem ((J v).H::r):=aF3 λx hm=>(hkv x hm).1;have hrp:Rp b'.Mem ((J v).H::r):=by
    by_cases hy:y∈(J v).H::r
    ·rcases o.yo with q0|q0|⟨_,q1,q2⟩
     ·exact absurd q0 (a1.ok y hy).1.ne
     ·exact absurd q0 ((a4 y hy).2 w hw).1
     ·exact a1.cut q1 q2 hx
    ·exact a1.keep λx hm=>⟨(hx x hm).1,(hx x hm).2 λe=>hy (e ▸ hm)⟩
   refine⟨r,⟨⟨hrp,aj,aj,hsf⟩,a6⟩,λe=>?_⟩;grind
 ·by_cases qv:v=w
  ·grind[iN]
  ·rw[uB _ _ qv];have s:=h.sb v hv;have he:=o.ep;exact⟨s.al,λp1 p2=>by obtain⟨x0,x1,x2,x3,x4⟩:=s.rt p1 p2;grind,λp=>by rw[o.rows v hv qv];obtain⟨x1,x2,x3⟩:=s.col p;exact⟨x1,x2,x3.imp id λa=>⟨aJY a.1 he,a.2⟩⟩⟩
theorem sB.make(hc:K7 b.aC)(hJ:∀v,fC v->(J v).bU=true->JB (J v))(o:Oth b b' k k' c c' J w j' y z)(hz:b'.qJ=b.qJ)(ch':∀i,oS i->ChT b'.Mem (dW k' i).Head (c' i))(key':∀i,oS i->(mP b'.Mem (c' i)).Nodup/\∀x∈mP b'.Mem (c' i),jD x=i/\x∈Ky)
  (cnt':∀s,cnC c' s+cnO (zQ J w j') s=ind b' s) (ok':∀x∈own j',kE b'.Mem x) (tw':j'.bU=true->TW Ky b'.Mem k' c' (q w) j') (rd':RdJ Ky b' (zQ J w j') w (q w) j') (sb':SbJ b' w j'):sB Ky b' k' c' q (zQ J w j'):=
 h.aQQ hl hw (λ_ _=>rfl) hc hJ o hz ch' key' cnt' ok' tw' rd' sb'
end
theorem aZC{b:aA}(hc:K7 b.aC)(hw:0<=w/\w<=2)(s:Sub):∃cl:aC,(zL b w s).1=⟨b.Mem,cl,b.aQ,b.qJ⟩/\cl.aK=b.aC.aK/\∀v,0<=v/\v<=2->v≠w->cS cl v=cS b.aC v:=by
 unfold zL RI;split
 ·grind
 split
 ·split
  ·refine⟨⟨b.aC.aK,b.aC.cE.set w.toNat ⟨true,s.E,false,0⟩⟩,rfl,rfl,λv hv hn=>by rw[zO hc hw hv,aP hn]⟩
  ·exact⟨_,rfl,rfl,λ_ _ _=>rfl⟩
 split
 ·split
  ·exact⟨_,rfl,rfl,λ_ _ _=>rfl⟩
  ·exact⟨_,rfl,rfl,λ_ _ _=>rfl⟩
 grind
theorem aV6{c:aC}(hc:K7 c)(hw:0<=w/\w<=2):(LB c w).1.aK=c.aK/\∀v,0<=v/\v<=2->v≠w->cS (LB c w).1 v=cS c v:=by
 unfold LB;split
 ·exact⟨rfl,λv hv hn=>by rw[zO hc hw hv,aP hn]⟩
 ·exact⟨rfl,λ_ _ _=>rfl⟩
theorem aQR{c c':aC}{v:Int}(h:cS c' v=cS c v)(p:mB c' v):mB c v/\(cS c' v).aK=(cS c v).aK:=by grind[mB]
theorem aZD{b:aA}(hc:K7 b.aC)(s:Sub):∃cl:aC,(fA b s).1=⟨b.Mem,cl,b.aQ,b.qJ⟩/\b.aC.aK<=cl.aK/\∀v,0<=v/\v<=2->mB cl v->mB b.aC v/\(cS cl v).aK=(cS b.aC v).aK:=by
 unfold fA;split
 ·grind
 split
 ·split
  ·grind[aMR,mB]
  grind
 split
 ·refine⟨_,rfl,?_,?_⟩
  ·unfold aGO;grind
  ·intro v hv p;unfold aGO at p ⊢;split
   ·rename_i q;rw[aN q] at p;exact⟨p,rfl⟩
   grind
 grind
section
variable {Ky:List Int} {b:aA} {k:List bX} {c:Int->List Int} {q:Int->Nat} {J:Int->aI} {w:Int} (h:sB Ky b k c q J) (hl:∀v,fC v->ZL k v (J v)) (hw:fC w) (hc:K7 b.aC) (hJ:∀v,fC v->(J v).bU=true->JB (J v))
include h hl hw hc hJ
theorem sB.a9Y{q':Int->Nat}(hq:∀v,v≠w->q' v=q v){cl:aC}(hk:∀i,oS i->(dW k' i).Head=(dW k i).Head)(eo:own j'=own (J w))(en:∀x∈kQ j',x∈kQ (J w))
  (sr:j'.Pc=15->j'.K<j'.b9.length->j'.Sub.Pc=1->j'.Sub.E=b.aC.aK\/(J w).Pc=15/\(J w).K<(J w).b9.length/\(J w).Sub.A=j'.Sub.A/\(J w).Sub.Pc=1/\(J w).Sub.E=j'.Sub.E)
  (pin:∀v,fC v->v≠w->mB cl v->mB b.aC v/\(cS cl v).aK=(cS b.aC v).aK) (ep:b.aC.aK<=cl.aK)
  (tw':j'.bU=true->TW Ky b.Mem k' c (q' w) j') (rd':RdJ Ky {b with aC:=cl} (zQ J w j') w (q' w) j') (sb':SbJ {b with aC:=cl} w j'):sB Ky {b with aC:=cl} k' c q' (zQ J w j'):=by
 refine h.aQQ hl hw hq hc hJ (y:=0) (z:=-1) ⟨λx hx _=>⟨hx,λ_=>rfl⟩,.inl rfl,.inl rfl,λi hi _=>⟨hk i hi,rfl⟩,.inl rfl,λr hr=>.inl hr,λx hx=>.inl (en x hx),sr,pin,ep,λ_ _ _=>rfl⟩ rfl (λi hi=>by rw[hk i hi];exact h.ch i hi) h.key (λs=>?_) (λx hx=>h.ok w hw x (eo ▸ hx)) tw' rd' sb';have:=YZ (J:=J) hw j' s;rw[eo] at this;have h2:=h.cnt s;grind[ind]
theorem sB.quiet{cl:aC}(hk:∀i,oS i->(dW k' i).Head=(dW k i).Head)(eo:own j'=own (J w))(en:∀x∈kQ j',x∈kQ (J w))
  (sr:j'.Pc=15->j'.K<j'.b9.length->j'.Sub.Pc=1->j'.Sub.E=b.aC.aK\/(J w).Pc=15/\(J w).K<(J w).b9.length/\(J w).Sub.A=j'.Sub.A/\(J w).Sub.Pc=1/\(J w).Sub.E=j'.Sub.E)
  (pin:∀v,fC v->v≠w->mB cl v->mB b.aC v/\(cS cl v).aK=(cS b.aC v).aK) (ep:b.aC.aK<=cl.aK)
  (tw':j'.bU=true->TW Ky b.Mem k' c (q w) j') (rd':RdJ Ky {b with aC:=cl} (zQ J w j') w (q w) j') (sb':SbJ {b with aC:=cl} w j'):sB Ky {b with aC:=cl} k' c q (zQ J w j'):=
 h.a9Y hl hw hc hJ (λ_ _=>rfl) hk eo en sr pin ep tw' rd' sb'
theorem sB.aS1{q':Int->Nat}(hq:∀v,v≠w->q' v=q v)(hk:∀i,oS i->(dW k' i).Head=(dW k i).Head)(eo:own j'=own (J w))(en:∀x∈kQ j',x∈kQ (J w))(h15:j'.Pc≠15\/j'.Sub.Pc≠1)(tw':j'.bU=true->TW Ky b.Mem k' c (q' w) j')(rd':RdJ Ky b J w (q' w) j')(sb':SbJ b w j'):sB Ky b k' c q' (zQ J w j'):=
 h.a9Y hl hw hc hJ hq (cl:=b.aC) hk eo en (λp _ q=>h15.elim (λa=>absurd p a) λa=>absurd q a) (λ_ _ _ p=>⟨p,rfl⟩) (KJ _) tw' (λp q=>by
  obtain⟨r,⟨a,la⟩,e⟩:=rd' p q;exact⟨r,⟨⟨a.rp,a.nd,a.ky,λx hx=>⟨(a.sf x hx).1,λv hv=>by
   by_cases z:v=w
   ·subst z;rw[iN];exact⟨λm=>((a.sf x hx).2 v hv).1 (en x m),λp1 _ _ p2=>(h15.elim (λa=>absurd p1 a) λa=>absurd p2 a)⟩
   ·rw[uB _ _ z];exact(a.sf x hx).2 v hv⟩⟩,la⟩,e⟩) sb'
theorem sB.still(hk:∀i,oS i->(dW k' i).Head=(dW k i).Head)(eo:own j'=own (J w))(en:∀x∈kQ j',x∈kQ (J w))(h15:j'.Pc≠15\/j'.Sub.Pc≠1)(tw':j'.bU=true->TW Ky b.Mem k' c (q w) j')(rd':RdJ Ky b J w (q w) j')(sb':SbJ b w j'):sB Ky b k' c q (zQ J w j'):=
 h.aS1 hl hw hc hJ (λ_ _=>rfl) hk eo en h15 tw' rd' sb'
end
theorem RdJ.no{b:aA}{J:Int->aI}{v:Int}{q:Nat}(h:j.Pc≠3/\j.Pc≠4):RdJ Ky b J v q j:=λp=>absurd p aa
theorem SbJ.no{b:aA}{v:Int}(h:j.Pc≠6/\j.Pc≠15/\j.Pc≠21):SbJ b v j:=⟨λp=>absurd p h.1,λp=>absurd p h.2.1,λp=>absurd p h.2.2⟩
theorem G7(h:j.Pc<6\/18<=j.Pc):own j=[]/\kQ j=[]:=by unfold own kQ aF2;grind
theorem uC(h:(6<=j.Pc/\j.Pc<=8)\/j.Pc=16\/j.Pc=17):own j=j.gK/\kQ j=j.gK:=by unfold own kQ aF2;grind
theorem Y0(l:List aT)(x:aT):(vF l x).length<=l.length+1:=by
 have e:(vF l x).length=(l.filter λy=>!(y.Key == x.Key)).length+1:=by unfold vF;have:=cA List.length (aTK (p:=λy=>!decide (x.Key<y.Key)) (l:=l.filter λy=>!(y.Key == x.Key)));grind
 grind
theorem aV7{l:List aT}{x y:aT}(h:y∈vF l x):y=x\/y∈l:=((aMV _ _ _).1 (show y∈aSR _ x from h)).imp id λh=>(aJ1.1 h).1
theorem a1Y(hj:JB j)(hc:tZ j):cD j∈j.Batch.bM:=by have:=hj.at_;grind[tZ,cD]
theorem aZE{c:Int->List Int}{q1:Nat}(t:TW Ky m k c q1 j)(hj:JB j)(hp:1<=j.Pc/\j.Pc<=5)(ha:tZ j)(v:Int)(is:Bool):TW Ky m k c q1 (qL j (cD j) v is)/\(qL j (cD j) v is).Pc=1:=by
 have hm:=a1Y hj ha;have h6:=hj.WR.2.1;have hat:=hj.at_;unfold tZ at ha;obtain⟨t1,t2,t3,t4,t5,t6,t7,t8,t9,t10,t11,t12,t13,t14,t15,t16,t17,t18,t19⟩:=t;have w5:=t5;unfold qL;split
 ·generalize (if is then v else 0)=u;unfold WN nT;have hlen:=Y0 j.aH ⟨(cD j).Key,false,G5 u (cD j).dM⟩;have hmem:∀y∈vF j.aH ⟨(cD j).Key,false,G5 u (cD j).dM⟩,y.Key∈Ky:=λy hy=>by grind[aV7]
  rw[aP (show ¬6<(vF j.aH ⟨(cD j).Key,false,G5 u (cD j).dM⟩).length by omega),aN rfl];unfold UX;refine⟨?_,rfl⟩;constructor<;>grind
 ·unfold UX;refine⟨?_,rfl⟩;constructor<;>grind
section
variable {Ky:List Int} {b:aA} {k:List bX} {c:Int->List Int} {q:Int->Nat} {J:Int->aI} {w:Int} (h:sB Ky b k c q J) (hl:∀v,fC v->ZL k v (J v)) (hw:fC w) (hc:K7 b.aC) (hJ:∀v,fC v->(J v).bU=true->JB (J v)) (hB:(J w).bU=true)
include h hl hw hc hJ hB
theorem bI2(hp:(J w).Pc=8):sB Ky b k c q (zQ J w (KH k w (J w))):=by
 obtain⟨t1,t2,t3,t4,t5,t6,t7,t8,t9,t10,t11,t12,t13,t14,t15,t16,t17,t18,t19⟩:=h.tw w hw hB;have o:=uC (j:=J w) aa;have p0:fP (J w).aH 0=0:=by simp[fP]
 unfold KH;split
 ·refine h.still hl hw hc hJ (λ_ _=>rfl) ?_ ?_ (.inl ae) (λ_=>?_) (.no ae) (.no ae)
  ·simp_all[own,kQ,aF2]
  ·grind[kQ]
  ·constructor<;>grind
 ·split
  ·refine h.still hl hw hc hJ (λ_ _=>rfl) ?_ ?_ (.inl (by simp[sE])) (λ_=>?_) (.no (by simp[sE])) (.no (by simp[sE]))
   ·simp_all[own,kQ,aF2,sE]
   ·grind[kQ,sE]
   ·constructor<;>grind[sE]
  ·refine h.still hl hw hc hJ (λ_ _=>rfl) ?_ ?_ (.inl (by simp[hp])) (λ_=>?_) (.no (by simp[hp])) (.no (by simp[hp]))
   ·simp_all[own,kQ,aF2]
   ·grind[kQ]
   ·constructor<;>grind
theorem bEI(hp:(J w).Pc=1):sB Ky b k c q (zQ J w (qH (J w))):=by
 have t:=h.tw w hw hB;have hj:=hJ w hw hB;have o:=G7 (j:=J w) aa;have fin:∀{j':aI},TW Ky b.Mem k c (q w) j'->j'.Pc=1\/j'.Pc=2->sB Ky b k c q (zQ J w j'):=λ{j'} t' p'=>by have o':=G7 (j:=j') aa;exact h.still hl hw hc hJ (λ_ _=>rfl) aj aj (.inl aa) (λ_=>t') (.no aa) (.no aa)
 unfold qH;split
 ·rename_i ha;split
  ·have hm:=a1Y hj ha;have h6:=hj.WR.2.1;have hat:=hj.at_;unfold tZ at ha;obtain⟨t1,t2,t3,t4,t5,t6,t7,t8,t9,t10,t11,t12,t13,t14,t15,t16,t17,t18,t19⟩:=t;have w5:=t5;unfold nT;have hlen:=Y0 (J w).aH ⟨(cD (J w)).Key,(cD (J w)).Kind == 3,(cD (J w)).dM⟩;have hmem:∀y∈vF (J w).aH ⟨(cD (J w)).Key,(cD (J w)).Kind == 3,(cD (J w)).dM⟩,y.Key∈Ky:=λy hy=>by grind[aV7]
   rw[aP (show ¬6<(vF (J w).aH ⟨(cD (J w)).Key,(cD (J w)).Kind == 3,(cD (J w)).dM⟩).length by omega),aN rfl];refine fin ?_ (.inl hp);constructor<;>grind
  ·split
   ·grind[aZE]
   ·refine fin ?_ (.inr rfl);obtain⟨t1,t2,t3,t4,t5,t6,t7,t8,t9,t10,t11,t12,t13,t14,t15,t16,t17,t18,t19⟩:=t;constructor<;>grind[tZ]
 ·rename_i ha;have hat:=hj.at_;have e:own {J w with Pc:=6,K:=0,Sub:=zN 1 16}=[]:=by rw[(uC ae).1];exact t.nO aa
  refine h.still hl hw hc hJ (λ_ _=>rfl) (by rw[o.1,e]) (by grind[uC]) (.inl ae) (λ_=>?_) (.no ae) ⟨λ_=>by simp[zN],ae,ae⟩;obtain⟨t1,t2,t3,t4,t5,t6,t7,t8,t9,t10,t11,t12,t13,t14,t15,t16,t17,t18,t19⟩:=t;have p0:0<=fP (J w).aH (J w).aH.length:=by grind[fP]
  unfold tZ at ha;constructor<;>grind
end
theorem aS2(h:kE m x):WM m.Heap x=cG m x:=aN ⟨h.1.1,dN h.1.2.1,h.2⟩
def qF(L q:Nat)(j:aI):Nat:=if j.Pc=2\/j.Pc=9 then L-1 else if j.Pc=4\/j.Pc=10 then q-1 else q
theorem bEJ{l:List aT}{x:aT}(h:x∈l)(hk:0<=x.Key/\x.Key<=99):jD x.Key∈pR l:=by
 have:jD x.Key=0/\(l.any λx=>x.Key % 2 == 0)=true\/jD x.Key=1/\(l.any λx=>x.Key % 2 == 1)=true:=by unfold jD;grind
 grind[pR]
section
variable {Ky:List Int} {b:aA} {k:List bX} {c:Int->List Int} {q:Int->Nat} {J:Int->aI} {w:Int} (h:sB Ky b k c q J)
include h
theorem sB.free(hi:oS i)(hx:x∈c i)(e:Int):Sfe b J e x:=by
 have hn:=((h.ch i hi).all x hx).1.1.1;have a:=RK hx;have a2:=h.cnt (x % 32);have a3:=a9W c hi (x % 32);refine⟨λr hr er=>?_,λv hv=>⟨λm=>?_,λp1 p2 p3 p4=>?_⟩⟩
 ·have:ind b (x % 32)=0:=aP λq=>q.2 ⟨r,hr,er ▸ hn,by rw[er]⟩;omega
 ·have:=RK (OB h hv m);grind[aZB,aNA]
 ·obtain⟨hk,_,_,hs,_⟩:=(h.sb v hv).rt p1 p2;have hm:x∈own (J v):=aB8 _ (by
   simp_all[aF2,uE])
  have:=RK hm;grind[aZB,aNA]
variable (hl:∀v,fC v->ZL k v (J v)) (hw:fC w) (hc:K7 b.aC) (hJ:∀v,fC v->(J v).bU=true->JB (J v)) (hB:(J w).bU=true)
include hl hw hc hJ hB
theorem a9Z{n:Nat}(hp:2<=(J w).Pc/\(J w).Pc<=5)(e:j'=sE j' j'.Code)(x:j'.Code=6\/j'.Code=7)(sm:j'.gK=(J w).gK/\j'.b9=(J w).b9/\j'.aH=(J w).aH/\j'.Batch=(J w).Batch/\j'.At=(J w).At):sB Ky b k c (upQ q w n) (zQ J w j'):=by
 have t:=h.tw w hw hB;have hp':j'.Pc=16:=by rw[e];rfl
 have o:=G7 (j:=J w) aa;obtain⟨t1,t2,t3,t4,t5,t6,t7,t8,t9,t10,t11,t12,t13,t14,t15,t16,t17,t18,t19⟩:=t;have o':=uC (j:=j') aa;refine h.aS1 hl hw hc hJ (q':=upQ q w n) (λv hv=>aP hv) (λ_ _=>rfl) aj aj (.inl aa) (λ_=>?_) (.no aa) (.no aa);obtain⟨s1,s2,s3,s4,s5⟩:=sm;constructor<;>grind
theorem bEK(hp:2<=(J w).Pc/\(J w).Pc<=5):sB Ky b k c (upQ q w (qF Ky.length (q w) (J w))) (zQ J w (iM b k w (J w))):=by
 have t:=h.tw w hw hB;have hj:=hJ w hw hB;have o:=G7 (j:=J w) aa;have ha:=t.hc hp;generalize hn:qF Ky.length (q w) (J w)=n;have ab:∀(j':aI),j'.gK=(J w).gK/\j'.b9=(J w).b9/\j'.aH=(J w).aH/\j'.Batch=(J w).Batch/\j'.At=(J w).At->∀x,x=6\/x=7->sB Ky b k c (upQ q w n) (zQ J w (sE j' x)):=λj' s x hx=>a9Z h hl hw hc hJ hB (j':=sE j' x) hp rfl hx s;have go:∀{j':aI},TW Ky b.Mem k c n j'->j'.Pc<=5->RdJ Ky b J w n j'->sB Ky b k c (upQ q w n) (zQ J w j'):=λ{j'} t' p' r'=>by have o':=G7 (j:=j') aa;exact h.aS1 hl hw hc hJ (q':=upQ q w n) (λv hv=>aP hv) (λ_ _=>rfl) aj aj (.inl aa) (λ_=>by simp_all[upQ]) (by simp_all[upQ]) (.no aa)
 have tw:∀{j':aI},2<=j'.Pc/\j'.Pc<=5->j'.gK=(J w).gK/\j'.b9=(J w).b9/\j'.aH=(J w).aH/\j'.Batch=(J w).Batch/\j'.At=(J w).At/\j'.Code=(J w).Code->TW Ky b.Mem k c n j':=λ{j'} p' ⟨s1,s2,s3,s4,s5,s6⟩=>by obtain⟨t1,t2,t3,t4,t5,t6,t7,t8,t9,t10,t11,t12,t13,t14,t15,t16,t17,t18,t19⟩:=t;unfold tZ at ha;constructor<;>grind[tZ]
 have hbk:=hj.bkt;unfold iM;by_cases p2:(J w).Pc=2
 ·rw[aN p2];split
  ·grind
  ·have hch:=h.ch _ hbk;by_cases q:(dW k (J w).bX).Head=0
   ·rw[aN q];exact go (tw ae ⟨rfl,rfl,rfl,rfl,rfl,rfl⟩) ae (.no ae)
   ·rw[aP q];refine go (tw ae ⟨rfl,rfl,rfl,rfl,rfl,rfl⟩) ae λ_ hpin=>?_;obtain⟨k1,k2⟩:=h.key _ hbk;have fr:=λx (hx:x∈c (J w).bX)=>h.free hbk hx (cS b.aC w).aK
    match hl2:c (J w).bX,hch with
    |[],hch=>exact absurd hch q
    |x::r,hch=>
     rw[hl2] at k1 k2 fr;have e:(dW k (J w).bX).Head=x:=hch.1;simp only[e];refine⟨r,⟨⟨hch.rp,k1,λy hy=>(k2 y hy).2,fr⟩,?_⟩,λz=>absurd z ae⟩;have:=yO k1 λy hy=>(k2 y hy).2;unfold mP at this;rw[List.length_map,HD] at this;rw[<-hn];unfold qF;grind
 rw[aP p2];by_cases p3:(J w).Pc=3
 ·rw[aN p3];refine go (tw ae ⟨rfl,rfl,rfl,rfl,rfl,rfl⟩) ae λ_ hpin=>?_;obtain⟨r,⟨a,la⟩,_⟩:=h.rd w hw (.inl p3) hpin;refine⟨r,⟨a,by simp_all[qF]⟩,λ_=>?_⟩;simp only;rw[aS2 a.rp.1];exact⟨⟨rfl,rfl⟩,a.rp.2.2.1⟩
 rw[aP p3];by_cases p4:(J w).Pc=4
 ·rw[aN p4];split
  ·grind
  ·rename_i hpn;have hpin:mB b.aC w:=Classical.byContradiction hpn;obtain⟨r,⟨a,la⟩,a5⟩:=h.rd w hw (.inr p4) hpin;obtain⟨_,a6⟩:=a5 p4;by_cases q:(J w).Node.Key=(cD (J w)).Key\/MN (J w).Node=0
   ·rw[aN q];exact go (tw ae ⟨rfl,rfl,rfl,rfl,rfl,rfl⟩) ae (.no ae)
   ·rw[aP q];refine go (tw ae ⟨rfl,rfl,rfl,rfl,rfl,rfl⟩) ae λ_ _=>?_;have hs:MN (J w).Node=(J w).Node.Next:=by simp_all[MN]
    rw[hs] at q ⊢;have hm:=a6.resolve_left λz=>q (.inr z);obtain⟨A,r',e1,e2⟩:=a.rp.2.2.2.from hm;have hsub:((J w).Node.Next::r').Sublist ((J w).H::r):=aj
    refine⟨r',⟨⟨e2,a.nd.sublist (hsub.map _),λx hx=>a.ky x ((hsub.map _).subset hx),λx hx=>a.sf x (hsub.subset hx)⟩,?_⟩,λz=>absurd z ae⟩;rw[e1,D8,HD] at la;rw[<-hn];unfold qF;grind
 rw[aP p4];split
 ·grind
 split
 ·grind
 have tr:TW Ky b.Mem k c n {J w with Reads:=(rX (J w).Reads (J w).bX (J w).eJ).1}:=tw hp ⟨rfl,rfl,rfl,rfl,rfl,rfl⟩;obtain⟨a1,a2⟩:=aZE tr (hj.spt _ _ hbk) aj ha (J w).Node.dM (J w).Found;exact go a1 (aJY (Int.le_of_eq a2) aa) (.no ⟨λz=>absurd (a2.symm.trans z) aa,λz=>absurd (a2.symm.trans z) aa⟩)
theorem bEL(h2:k.length=2)(hp:(J w).Pc=7):sB Ky b (oD k w (J w)).1 c q (zQ J w (oD k w (J w)).2.1):=by
 have t:=h.tw w hw hB;have hj:=hJ w hw hB;have o:=uC (j:=J w) aa;have hk:=hj.k;have hwk:=hj.wr.2.1;have all:∀x∈(J w).aH,jD x.Key∈pR (J w).aH:=λx hx=>bEJ hx (hwk x hx).1;obtain⟨t1,t2,t3,t4,t5,t6,t7,t8,t9,t10,t11,t12,t13,t14,t15,t16,t17,t18,t19⟩:=t;have fin:∀{k':List bX} {j':aI},(∀i,oS i->(dW k' i).Head=(dW k i).Head)->TW Ky b.Mem k' c (q w) j'->j'.gK=(J w).gK->j'.Pc=7\/j'.Pc=8\/j'.Pc=16->sB Ky b k' c q (zQ J w j'):=λ{k' j'} e t' en p'=>by have o':=uC (j:=j') aa;exact h.still hl hw hc hJ e aj aj (.inl aa) (λ_=>t') (.no aa) (.no aa)
 unfold oD;by_cases c1:(J w).K<(pR (J w).aH).length
 ·rw[aN c1];have hi:(J w).K.toNat<(pR (J w).aH).length:=aa
  have er:fU (J w)=(pR (J w).aH)[(J w).K.toNat]:=by grind[fU]
  have hbk:0<=fU (J w)/\fU (J w)<=1:=by have:=SY (dB hi);omega
  split
  ·exact fin (λ_ _=>rfl) (by unfold sE;constructor<;>grind) rfl (.inr (.inr rfl))
  split
  ·exact fin (λ_ _=>rfl) (by unfold sE;constructor<;>grind) rfl (.inr (.inr rfl))
  have hd:∀i,oS i->(dW (k.set (fU (J w)).toNat {dW k (fU (J w)) with eI:=w+1}) i).Head=(dW k i).Head:=λi hi=>by grind[qV]
  have hm:∀x∈(pR (J w).aH).take ((J w).K+1).toNat,x∈(IG (J w)).bG:=λx hx=>by rw[show((J w).K+1).toNat=(J w).K.toNat+1 by omega,JN hi,dE,jO,<-er] at hx;have a:=t8 hp;unfold IG;grind
  split
  ·rename_i c3;refine fin hd ?_ rfl (.inr (.inl rfl));rw[aB9 aa] at hm;have hh:∀x∈(J w).aH,jD x.Key∈(IG (J w)).bG:=λx hx=>hm _ (all x hx);unfold IG at hh ⊢;constructor<;>grind
  ·refine fin hd ?_ rfl (.inl hp);unfold IG at hm ⊢;constructor<;>grind
 ·rw[aP c1];refine fin (λ_ _=>rfl) ?_ rfl (.inr (.inl rfl));have a:=t8 hp;rw[aB9 aa] at a;constructor<;>grind
theorem a4C(h2:k.length=2)(hp:(J w).Pc=14\/(J w).Pc=16):sB Ky b (AO k (J w)).1 c q (zQ J w (AO k (J w)).2):=by
 have t:=h.tw w hw hB;have hj:=hJ w hw hB;have hk:=hj.k;have tw:∀{k':List bX} {p:Int} {j':aI},(p=(J w).Pc\/p=17/\(J w).Pc=16\/p=15/\(J w).Pc=14)->j'.Pc=p->j'.gK=(J w).gK/\j'.b9=(J w).b9/\j'.aH=(J w).aH/\j'.Batch=(J w).Batch/\j'.At=(J w).At/\j'.Code=(J w).Code->TW Ky b.Mem k' c (q w) j':=λ{k' p j'} hp' ep ⟨s1,s2,s3,s4,s5,s6⟩=>by
  have q:j'.Pc=14\/j'.Pc=15\/j'.Pc=16\/j'.Pc=17:=aa
  have cd':j'.Code=0/\j'.Pc≠16/\j'.Pc≠17\/(j'.Code=3\/j'.Code=6\/j'.Code=7)/\16<=j'.Pc/\j'.Pc<=19:=by have:=t.cd;omega
  refine⟨aa,λx=>aa,λx=>by rw[s2];exact t.oO aa,λx=>aa,by rw[s3,s5];exact t.wl,λx=>aa,λx=>aa,λx=>aa,λx=>aa,λx=>aa,λx=>aa,λx=>aa,λx=>aa,λx=>aa,cd',λx _=>by rw[s5,s4];exact t.at_ aa aa,λx=>?_,λx=>aa,by rw[s3,s4];exact t.ky⟩;have:=t.cl (by rw[<-s4];exact x);omega
 unfold AO;by_cases c1:0<(J w).bG.length
 ·rw[aN c1];have er:wQ (J w)=(J w).bG[0]:=by unfold wQ;simp[DN,iS c1]
  have hbk:=hj.held.1 _ (show wQ (J w)∈(J w).bG by rw[er];exact dB c1);refine h.still hl hw hc hJ (λi hi=>?_) rfl (λ_ x=>x) (.inl ?_) (λ_=>tw (.inl rfl) rfl ⟨rfl,rfl,rfl,rfl,rfl,rfl⟩) (.no (by simp only;omega)) (.no (by simp only;omega))
  ·rw[qV h2 hbk hi];split
   ·rename_i e;subst e;split<;>rfl
   ·rfl
  ·simp only;omega
 ·rw[aP c1];split
  ·rename_i e;exact h.still hl hw hc hJ (λ_ _=>rfl) (by grind[uC]) (by simp_all[uC]) (.inl ae) (λ_=>tw (.inr (.inl ⟨rfl,e⟩)) rfl ⟨rfl,rfl,rfl,rfl,rfl,rfl⟩) (.no ae) (.no ae)
  ·rename_i e;have p14:(J w).Pc=14:=aa
   have o14:own (J w)=(J w).b9/\kQ (J w)=[]:=by grind[own,kQ,aF2]
   have fin:∀s:Sub,TW Ky b.Mem k c (q w) {J w with Pc:=15,K:=0,Sub:=s}:=λs=>tw (.inr (.inr ⟨rfl,p14⟩)) rfl ⟨rfl,rfl,rfl,rfl,rfl,rfl⟩;unfold KI;by_cases q:(0:Int)<(J w).b9.length
   ·rw[aN q];exact h.still hl hw hc hJ (λ_ _=>rfl) (by grind[own,kQ,aF2]) (by simp[kQ]) (.inr (by simp[zN])) (λ_=>fin _) (.no ae) ⟨λp=>absurd p ae,λ_ _=>⟨KJ _,rfl,rfl,rfl,.inl rfl⟩,λp=>absurd p ae⟩
   ·rw[aP q];exact h.quiet hl hw hc hJ (cl:=b.aC) (λ_ _=>rfl) (by grind[own,kQ,aF2]) (by simp[kQ]) (λ_ y=>absurd y q) (λ_ _ _ p=>⟨p,rfl⟩) (KJ _) (λ_=>fin _) (.no ae) ⟨λp=>absurd p ae,λ_ y=>absurd y q,λp=>absurd p ae⟩
theorem ZM{cl:aC}(hp:(J w).Pc<6\/18<=(J w).Pc)(hp':(j'.Pc<6\/18<=j'.Pc)/\j'.Pc≠3/\j'.Pc≠4)(pin:∀v,fC v->v≠w->mB cl v->mB b.aC v/\(cS cl v).aK=(cS b.aC v).aK)(ep:b.aC.aK<=cl.aK)
  (tw':j'.bU=true->TW Ky b.Mem k c (q w) j') (col:j'.Pc=21->bEH cl.aK (dI b.aQ w) j'.Sub):sB Ky {b with aC:=cl} k c q (zQ J w j'):=by
 have o:=G7 hp;have o':=G7 hp'.1;exact h.quiet hl hw hc hJ (λ_ _=>rfl) aj aj (λp=>aa) pin ep tw' (.no aa) ⟨λp=>aa,λp=>aa,col⟩
theorem a90(hp:(J w).Pc=18):sB Ky {b with aC:=(LB b.aC w).1} k c q (zQ J w {J w with Pc:=19}):=by obtain⟨e1,e2⟩:=aV6 hc hw;refine ZM h hl hw hc hJ hB aa ae (λv hv hn p=>aQR (e2 v hv hn) p) aa (λ_=>?_) ae;obtain⟨t1,t2,t3,t4,t5,t6,t7,t8,t9,t10,t11,t12,t13,t14,t15,t16,t17,t18,t19⟩:=h.tw w hw hB;constructor<;>grind
theorem bEM(hp:(J w).Pc=19):sB Ky b k c q (zQ J w cZ):=
 ZM h hl hw hc hJ hB (cl:=b.aC) aa (by simp[cZ]) (λ_ _ _ p=>⟨p,rfl⟩) (KJ _) (λq=>by cases q) (by simp[cZ])
theorem a91(hp:(J w).Pc=0)(hj:j'={J w with Sub:=(zL b w (J w).Sub).2}\/j'={J w with Pc:=1,Sub:=(zL b w (J w).Sub).2}):sB Ky (zL b w (J w).Sub).1 k c q (zQ J w j'):=by obtain⟨cl,e,e1,e2⟩:=aZC hc hw (J w).Sub;rw[e];refine ZM h hl hw hc hJ hB aa aj (λv hv hn p=>aQR (e2 v hv hn) p) aa (λ_=>?_) aj;obtain⟨t1,t2,t3,t4,t5,t6,t7,t8,t9,t10,t11,t12,t13,t14,t15,t16,t17,t18,t19⟩:=h.tw w hw hB;rcases hj with rfl|rfl<;>constructor<;>grind
theorem a92(hp:(J w).Pc=20)(hj:j'={J w with Sub:=(fA b (J w).Sub).2}\/j'={J w with Pc:=21,Sub:=zN 4 0}):sB Ky (fA b (J w).Sub).1 k c q (zQ J w j'):=by obtain⟨cl,e,e1,e2⟩:=aZD hc (J w).Sub;rw[e];refine ZM h hl hw hc hJ hB aa aj (λv hv hn p=>e2 v hv p) e1 (λ_=>?_) (by grind[bEH,zN]);obtain⟨t1,t2,t3,t4,t5,t6,t7,t8,t9,t10,t11,t12,t13,t14,t15,t16,t17,t18,t19⟩:=h.tw w hw hB;rcases hj with rfl|rfl<;>constructor<;>grind
omit hB in
theorem aV8(hn:J w=cZ){x:Batch}(hx:∀q∈x.bM,q.Key∈Ky)(s:Int):sB Ky b k c q (zQ J w (jG x s)):=by
 have o:own (J w)=[]/\kQ (J w)=[]:=G7 (by rw[hn];exact .inl ai);have p':(jG x s).Pc=0\/(jG x s).Pc=20:=by grind[jG]
 have o':=G7 (j:=jG x s) aa;refine h.still hl hw hc hJ (λ_ _=>rfl) aj aj (.inl aa) (λ_=>?_) (.no aa) (.no aa);unfold jG at p' ⊢;constructor<;>grind
end
theorem ZN{h g:Int}(a:mN m h)(b:mN m g)(e:h % 32=g % 32):h=g:=by have h1:=a.2.2;have h2:=b.2.2;grind
theorem aNC{l:List bT}(hl:zW l)(hw:fC w):∃A B,dV l=A++(dI l w++B)/\∀r,dV (l.set w.toNat ⟨r⟩)=A++(r++B):=by
 have h3:=hl.1;have kx:w.toNat<l.length:=aa
 have hrow:l[w.toNat].Rows=dI l w:=by have:=N8 hl hw;grind[hU]
 exact⟨_,_,by grind[KF],λr=>MW kx _⟩
theorem aB0{l:List bT}(h3:l.length=3){v:Int}(hw:fC w)(hv:fC v)(hn:v≠w)(x:bT):dI (l.set w.toNat x) v=dI l v:=by unfold dI;grind
theorem bI3{b:aA}(h1:eK b.Mem s=3)(h2:¬bG b.aQ s):ind b s=1:=aN ⟨h1,h2⟩
theorem U1{b:aA}(h:eK b.Mem s≠3\/bG b.aQ s):ind b s=0:=aP λq=>h.elim (λa=>a q.1) q.2
theorem aND{b b':aA}(h1:eK b'.Mem s=3↔eK b.Mem s=3)(h2:bG b'.aQ s↔bG b.aQ s):ind b' s=ind b s:=by grind[ind]
section
variable {Ky:List Int} {b:aA} {k:List bX} {c:Int->List Int} {q:Int->Nat} {J:Int->aI} {w:Int} (h:sB Ky b k c q J) (hl:∀v,fC v->ZL k v (J v)) (hw:fC w) (hb:mV b) (hJ:∀v,fC v->(J v).bU=true->JB (J v)) (hB:(J w).bU=true)
include h hl hw hb hJ hB
theorem a93(hp:(J w).Pc=6):sB Ky (vH b w (J w)).1 k c q (zQ J w (vH b w (J w)).2):=by
 have t:=h.tw w hw hB;have hj:=hJ w hw hB;have hc:=hb.1.2.1;have o:=uC (j:=J w) aa;obtain⟨s1,s2,s3,s4⟩:=(h.sb w hw).al hp;have hk:=hj.k;have hn6:=t.n6 hp;have pl:=S5 (J w).aH (J w).aH.length;have hwl:=hj.wr.1;have tw:∀{j':aI},(j'.Pc=6/\(j'.gK.length:Int)=j'.K/\j'.K<=fP (J w).aH (J w).aH.length/\j'.Code=(J w).Code\/j'.Pc=7/\j'.K=0/\(j'.gK.length:Int)=fP (J w).aH (J w).aH.length/\j'.Code=(J w).Code\/j'.Pc=16/\j'.Code=3)->j'.b9=(J w).b9/\j'.aH=(J w).aH/\j'.Batch=(J w).Batch/\j'.At=(J w).At->TW Ky b.Mem k c (q w) j':=λ{j'} q ⟨e2,e3,e4,e5⟩=>by
  have c6:(J w).Code=0:=by have:=t.cd;omega
  refine⟨aa,λx=>aa,λx=>by rw[e2];exact t.oO aa,λx=>aa,by rw[e3,e5];exact t.wl,λx=>aj,λx=>⟨aj,λy=>aa⟩,λx=>?_,λx=>aa,λx=>aa,λx=>aa,λx=>aa,λx=>aa,λx=>aa,aa,λx _=>by rw[e5,e4];exact t.at_ c6 aa,λx=>?_,λx=>aa,by rw[e3,e4];exact t.ky⟩
  ·simp_all
  ·have:=t.cl aj;omega
 unfold vH;by_cases c1:fP (J w).aH (J w).aH.length<=(J w).K
 ·rw[aN c1];refine h.still hl hw hc hJ (λ_ _=>rfl) ?_ ?_ (.inl ae) (λ_=>tw (.inr (.inl ⟨rfl,rfl,by simp only;omega,rfl⟩)) ⟨rfl,rfl,rfl,rfl⟩) (.no ae) (.no ae)
  ·rw[o.1,(uC ae).1]
  ·rw[o.2,(uC ae).2];exact λ_ x=>x
 rw[aP c1];obtain⟨q1,q2,q3,q4⟩:=aJS hb.1.1 hw s1 s2 s3 s4;have nF:∀{j':aI},(iG b w (J w).Sub).1.Mem=b.Mem->j'.gK=(J w).gK->j'.Pc=6\/j'.Pc=16->TW Ky b.Mem k c (q w) j'->SbJ b w j'->sB Ky (iG b w (J w).Sub).1 k c q (zQ J w j'):=λ{j'} em en p' t' s'=>by
  have eb:(iG b w (J w).Sub).1=b:=by
   cases hh:(iG b w (J w).Sub).1 with
   |mk a1 a2 a3 a4=>
    simp_all
  rw[eb];have o':=uC (j:=j') aa;exact h.still hl hw hc hJ (λ_ _=>rfl) aj aj (.inl aa) (λ_=>t') (.no aa) s'
 rcases q4 with ⟨em,⟨d,e⟩|⟨e1,e2⟩⟩|⟨d,e,wk,tk,kn⟩
 ·rw[aP aj,aN (.inl aa),e];exact nF em rfl (.inr rfl) (tw (.inr (.inr ⟨rfl,rfl⟩)) ⟨rfl,rfl,rfl,rfl⟩) (.no (by simp[sE]))
 ·rw[aN aj];exact nF em rfl (.inl hp) (tw (.inl ⟨hp,hn6.1,hn6.2,rfl⟩) ⟨rfl,rfl,rfl,rfl⟩) ⟨λ_=>aj,by simp[hp],by simp[hp]⟩
 ·rw[aP aj,aP (by
   rintro(q|q|q)
   ·exact q e
   ·exact q wk.1.1
   ·omega)]
  generalize hx:(iG b w (J w).Sub).2.Out=x at wk tk;generalize hr:(iG b w (J w).Sub).1=b' at q1 q2 q3 kn wk tk;show sB Ky b' k c q (zQ J w {J w with gK:=(J w).gK++[x],K:=(J w).K+1,Sub:=zN 1 16});have hx0:=(qU (dN wk.1.2.1)).1;have t':TW Ky b.Mem k c (q w) {J w with gK:=(J w).gK++[x],K:=(J w).K+1,Sub:=zN 1 16}:=tw (.inl ⟨hp,ah,aj,rfl⟩) ⟨rfl,rfl,rfl,rfl⟩;have o':=uC (j:={J w with gK:=(J w).gK++[x],K:=(J w).K+1,Sub:=zN 1 16}) (.inl aj);have oth:Oth b b' k k c c J w {J w with gK:=(J w).gK++[x],K:=(J w).K+1,Sub:=zN 1 16} 0 (-1):=by
   refine⟨λy hy hz=>?_,.inl rfl,.inl rfl,λ_ _ _=>⟨rfl,rfl⟩,.inl rfl,λr hr=>.inl aj,λy hy=>?_,λz=>absurd z (by simp[hp]),λv hv hn p=>aj,aj,λ_ _ _=>by rw[q2]⟩
   ·obtain⟨a1,a2⟩:=kn y hy hz;exact⟨a1,λ_=>a2⟩
   ·rw[o'.2] at hy;rcases dE.1 hy with hy|hy
    ·grind
    ·exact .inr (by rw[jO.1 hy];exact tk.was)
  have chs:=λi (hi:oS i)=>(oth.chn h hw hi (λq=>((h.ch i hi).all 0 q).1.ne rfl)).2 rfl rfl;refine h.make hl hw hc hJ oth q3 (λi hi=>(chs i hi).1) (λi hi=>by rw[(chs i hi).2];exact h.key i hi) (λs=>?_) (λy hy=>?_) (λ_=>?_) (.no (by simp[hp])) ⟨λ_=>by simp[zN],by simp[hp],by simp[hp]⟩
  ·have u:=YZ (J:=J) hw {J w with gK:=(J w).gK++[x],K:=(J w).K+1,Sub:=zN 1 16} s;rw[o.1,o'.1,U0,P5,a9U] at u;have u2:=h.cnt s;by_cases q:x % 32=s
   ·rw[aN q] at u;have a1:ind b s=0:=U1 (.inl (by rw[<-q];exact tk.was));have a2:ind b' s=1:=bI3 (by rw[<-q];exact tk.now) (by
     rw[q2,<-q];rintro⟨r,hr,hh,er⟩;exact tk.was (by rw[<-er];exact(hb.2 r hr).1.2.1))
    omega
   ·rw[aP q] at u;have a1:ind b' s=ind b s:=aND (tk.rest s λe=>q e.symm) (by rw[q2]);omega
  ·rw[o'.1] at hy;rcases dE.1 hy with hy|hy
   ·have hm:y∈own (J w):=aj
    have w0:=h.ok w hw y hm;exact(kn y w0 aa).1
   grind
  ·exact{t' with st:=λq=>absurd q (by simp[hp]),cu:=λq=>absurd q (by simp[hp]),fl:=λq=>absurd q (by simp[hp]),ln:=λq=>absurd q (by simp[hp])}
end
theorem bGC{z:List Int}(h:z=[0,0,0]){v:Int}(hv:fC v):a1J z v=0:=by subst h;rcases(by omega:v=0\/v=1\/v=2) with rfl|rfl|rfl<;>rfl
section
variable {Ky:List Int} {b:aA} {k:List bX} {c:Int->List Int} {q:Int->Nat} {J:Int->aI} {w:Int} (h:sB Ky b k c q J) (hl:∀v,fC v->ZL k v (J v)) (hw:fC w) (hb:mV b) (hJ:∀v,fC v->(J v).bU=true->JB (J v)) (hB:(J w).bU=true)
include h hl hw hb hJ hB
theorem a4D(hp:(J w).Pc=15):sB Ky (DL b w (J w)).1 k c q (zQ J w (DL b w (J w)).2):=by
 have t:=h.tw w hw hB;have hj:=hJ w hw hB;have hc:=hb.1.2.1;have hk:=hj.k;have o1:∀{j':aI},j'.Pc=15->own j'=j'.b9.drop j'.K.toNat/\kQ j'=[]:=λ{j'} q=>by simp[own,kQ,aF2,q]
 have tw:∀{j':aI},j'.Pc=15\/j'.Pc=18->j'.aH=(J w).aH/\j'.Batch=(J w).Batch/\j'.At=(J w).At/\j'.Code=(J w).Code->TW Ky b.Mem k c (q w) j':=λ{j'} q ⟨e3,e4,e5,e6⟩=>by have cd:=t.cd;refine⟨aa,λx=>aa,λx=>aa,λx=>aa,by rw[e3,e5];exact t.wl,λx=>aa,λx=>aa,λx=>aa,λx=>aa,λx=>aa,λx=>aa,λx=>aa,λx=>aa,λx=>aa,aa,λx _=>by rw[e5,e4];exact t.at_ aa aa,λx=>?_,λx=>aa,by rw[e3,e4];exact t.ky⟩;have:=t.cl aj;omega
 unfold DL;by_cases c1:((J w).b9.length:Int)<=(J w).K
 ·rw[aN c1];have o2:own {J w with Pc:=18}=[]/\kQ {J w with Pc:=18}=[]:=G7 (.inr ae);exact h.still hl hw hc hJ (λ_ _=>rfl) (by simp_all) aj (.inl ae) (λ_=>tw (.inr rfl) ⟨rfl,rfl,rfl,rfl⟩) (.no ae) (.no ae)
 rw[aP c1];obtain⟨s0,s1,s2,s3,s4⟩:=(h.sb w hw).rt hp aa;have es:iG b w (J w).Sub=tY b w (J w).Sub:=by grind[iG]
 rw[es];have hi:(J w).K.toNat<(J w).b9.length:=aa
 have eA:(J w).Sub.A=(J w).b9[(J w).K.toNat]:=aj
 have eo:own (J w)=(J w).Sub.A::(J w).b9.drop ((J w).K.toNat+1):=by simp_all
 have hm:(J w).Sub.A∈own (J w):=aj
 have hn:=h.name hw hw hm;have hA:=h.ok w hw _ hm;have hi1:ind b ((J w).Sub.A % 32)=1:=aa
 have hH:¬bG b.aQ ((J w).Sub.A % 32):=λq=>by grind[U1]
 unfold tY;rcases s4 with p0|⟨p1,e0,e1⟩
 ·rw[aN p0,aP (by simp[s2])];refine h.quiet hl hw hc hJ (cl:=b.aC) (λ_ _=>rfl) rfl (λ_ x=>x) (λ_ _ _=>.inl rfl) (λ_ _ _ p=>⟨p,rfl⟩) (KJ _) (λ_=>tw (.inl hp) ⟨rfl,rfl,rfl,rfl⟩) (.no (by simp[hp])) ⟨λp=>absurd p (by simp[hp]),λ_ _=>⟨s0,s1,s2,s3,.inr ⟨rfl,hc.1.1,KJ _⟩⟩,λp=>absurd p (by simp[hp])⟩
 ·rw[gR,aN p1,aN ⟨e0,e1⟩,aN ⟨hA.1,hH⟩,aN ak];have hL:=hb.1.2.2.1;obtain⟨A,B,f1,f2⟩:=aNC hL hw;have hf:∀r,r∈dV (b.aQ.set w.toNat ⟨dI b.aQ w++[⟨(J w).Sub.A,(J w).Sub.E⟩]⟩)↔r∈dV b.aQ\/r=⟨(J w).Sub.A,(J w).Sub.E⟩:=λr=>aj
  have fin:∀{j':aI},j'.Pc=15->j'.K=(J w).K+1->j'.b9=(J w).b9->j'.aH=(J w).aH/\j'.Batch=(J w).Batch/\j'.At=(J w).At/\j'.Code=(J w).Code->(j'.K<j'.b9.length->j'.Sub.Pc=0)->SbJ {b with aQ:=b.aQ.set w.toNat ⟨dI b.aQ w++[⟨(J w).Sub.A,(J w).Sub.E⟩]⟩} w j' ->
    sB Ky {b with aQ:=b.aQ.set w.toNat ⟨dI b.aQ w++[⟨(J w).Sub.A,(J w).Sub.E⟩]⟩} k c q (zQ J w j'):=λ{j'} q1 q2 q3 q4 q5 q6=>by
   have o':=o1 q1;have eo':own j'=(J w).b9.drop ((J w).K.toNat+1):=by(simp_all;omega)
   refine h.make hl hw hc hJ (y:=0) (z:=-1) ⟨λx hx _=>⟨hx,λ_=>rfl⟩,.inl rfl,.inl rfl,λi hi _=>⟨rfl,rfl⟩,.inl rfl,λr hr=>?_,aj,λ_ x z=>aa,λ_ _ _ p=>⟨p,rfl⟩,KJ _,λv hv hn=>aB0 hL.1 hw hv hn _⟩ rfl h.ch h.key (λs=>?_) (λx hx=>h.ok w hw x aj) (λ_=>tw (.inl q1) q4) (.no aa) q6
   ·grind
   ·have u:=YZ (J:=J) hw j' s;rw[eo,eo',P5] at u;have u2:=h.cnt s;by_cases q:(J w).Sub.A % 32=s
    ·rw[aN q] at u;have a2:ind {b with aQ:=b.aQ.set w.toNat ⟨dI b.aQ w++[⟨(J w).Sub.A,(J w).Sub.E⟩]⟩} s=0:=U1 (.inr ⟨⟨(J w).Sub.A,(J w).Sub.E⟩,(hf _).2 (.inr rfl),hA.1.1,q⟩);grind
    ·rw[aP q] at u;have a2:ind {b with aQ:=b.aQ.set w.toNat ⟨dI b.aQ w++[⟨(J w).Sub.A,(J w).Sub.E⟩]⟩} s=ind b s:=aND Iff.rfl ⟨λ⟨r,hr,x1,x2⟩=>by
      rcases(hf r).1 hr with a|rfl
      ·exact⟨r,a,x1,x2⟩
      grind,λ⟨r,hr,x⟩=>⟨r,(hf r).2 (.inl hr),x⟩⟩
     omega
  unfold KI;by_cases q:(J w).K+1<(J w).b9.length
  ·rw[aN q];exact fin hp rfl rfl ⟨rfl,rfl,rfl,rfl⟩ (λ_=>rfl) ⟨λp=>absurd p (by simp[hp]),λ_ _=>⟨aj,rfl,rfl,rfl,.inl rfl⟩,λp=>absurd p (by simp[hp])⟩
  ·rw[aP q];exact fin hp rfl rfl ⟨rfl,rfl,rfl,rfl⟩ (λx=>absurd x q) ⟨λp=>absurd p (by simp[hp]),λ_ x=>absurd x q,λp=>absurd p (by simp[hp])⟩
theorem bEN(hp:(J w).Pc=17):sB Ky (DM b w (J w)).1 k c q (zQ J w (DM b w (J w)).2):=by
 have t:=h.tw w hw hB;have hj:=hJ w hw hB;have hc:=hb.1.2.1;have o:=uC (j:=J w) (.inr (.inr hp));have tw:∀{m':Mem} {j':aI},j'.Pc=17\/j'.Pc=18->j'.b9=(J w).b9/\j'.aH=(J w).aH/\j'.Batch=(J w).Batch/\j'.At=(J w).At/\j'.Code=(J w).Code->TW Ky m' k c (q w) j':=λ{m' j'} q ⟨e2,e3,e4,e5,e6⟩=>by have cd:=t.cd;refine⟨aa,λx=>aa,λx=>by rw[e2];exact t.oO aa,λx=>aa,by rw[e3,e5];exact t.wl,λx=>aa,λx=>aa,λx=>aa,λx=>aa,λx=>aa,λx=>aa,λx=>aa,λx=>aa,λx=>aa,aa,λx _=>aa,λx=>?_,λx=>aa,by rw[e3,e4];exact t.ky⟩;have:=t.cl aj;omega
 unfold DM;by_cases c1:(J w).gK.length=0
 ·rw[aN c1];have e0:=uF c1;have o2:own {J w with Pc:=18}=[]/\kQ {J w with Pc:=18}=[]:=G7 (.inr ae);exact h.still hl hw hc hJ (λ_ _=>rfl) aj aj (.inl ae) (λ_=>tw (.inr rfl) ⟨rfl,rfl,rfl,rfl,rfl⟩) (.no ae) (.no ae)
 rw[aP c1]
 match hN:(J w).gK,c1 with
 |x::r,_=>
 have hm:x∈own (J w):=aj
 have hA:=h.ok w hw x hm;have hn:=h.name hw hw hm;have hi1:ind b (x % 32)=1:=aa
 have hH:¬bG b.aQ (x % 32):=λq=>by grind[U1]
 show sB Ky (if bG b.aQ (x % 32) then b else {b with Mem:=aVN b.Mem w x}) k c q (zQ J w {J w with gK:=r});rw[aP hH];unfold aVN;rw[aN hA.1];have kn:=aJR hb.1.1 hw hA.1;have o':own {J w with gK:=r}=r/\kQ {J w with gK:=r}=r:=uC (j:={J w with gK:=r}) (.inr (.inr hp));have oth:Oth b {b with Mem:=pU b.Mem w x} k k c c J w {J w with gK:=r} 0 (x % 32):=⟨λy hy hz=>⟨(kn y hy hz).1,λ_=>(kn y hy hz).2⟩,.inr (.inr ⟨x,hm,rfl⟩),.inl rfl,λ_ _ _=>⟨rfl,rfl⟩,.inr λv hv hn hp' hpin y hy hs e=>by
   have:=ZN hy.1 hA.1 e;subst this;exact(hs.2 w hw).1 aj,λr hr=>.inl hr,λy hy=>.inl aj,λz=>absurd z (by simp[hp]),λ_ _ _ p=>⟨p,rfl⟩,KJ _,λ_ _ _=>rfl⟩
 have chs:=λi (hi:oS i)=>(oth.chn h hw hi (λq=>((h.ch i hi).all 0 q).1.ne rfl)).2 rfl rfl;have fst:∀s,s≠x % 32->eK (pU b.Mem w x) s=eK b.Mem s:=λs hs=>aM6 hb.1.1 hw hA.1 hs;have fz:=(aBZ hb.1.1 hw hA.1).2.2.2;refine h.make hl hw hc hJ oth rfl (λi hi=>(chs i hi).1) (λi hi=>by rw[(chs i hi).2];exact h.key i hi) (λs=>?_) (λy hy=>?_) (λ_=>tw (.inl hp) ⟨rfl,rfl,rfl,rfl,rfl⟩) (.no (by simp[hp])) (.no (by simp[hp]))
 ·have u:=YZ (J:=J) hw {J w with gK:=r} s;rw[o.1,o'.1,hN,P5] at u;have u2:=h.cnt s;by_cases q:x % 32=s
  ·rw[aN q] at u;grind[U1]
  ·rw[aP q] at u;have a2:ind {b with Mem:=pU b.Mem w x} s=ind b s:=aND aj Iff.rfl;omega
 ·rw[o'.1] at hy;have hm':y∈own (J w):=aj
  refine(kn y (h.ok w hw y hm') λe=>?_).1;have u:=hn.1;have:2<=Z5 (own (J w)) (x % 32):=by rw[o.1,hN,P5,aN rfl];grind[RK]
  omega
theorem aNE(hE:∀v,fC v->(J v).Pc=3\/(J v).Pc=4->mB b.aC v->b.aC.aK<=(cS b.aC v).aK+1)(hp:(J w).Pc=21)(hj':(cO b w (J w).Sub).2.gU=true/\j'={J w with Pc:=19,Sub:=(cO b w (J w).Sub).2}\/(cO b w (J w).Sub).2.gU=false/\j'={J w with Sub:=(cO b w (J w).Sub).2}) :
  sB Ky (cO b w (J w).Sub).1 k c q (zQ J w j')/\((cO b w (J w).Sub).2.gU=true->(cO b w (J w).Sub).2.Code=0):=by
 have t:=h.tw w hw hB;have hc:=hb.1.2.1;have hL:=hb.1.2.2.1;obtain⟨s1,s2,s3⟩:=(h.sb w hw).col hp;have p':j'.Pc=19\/j'.Pc=21:=aj
 have tw:∀{m':Mem},TW Ky m' k c (q w) j':=λ{m'}=>by
  obtain⟨e1,e2,e3,e4,e5,e6⟩:j'.gK=(J w).gK/\j'.b9=(J w).b9/\j'.aH=(J w).aH/\j'.Batch=(J w).Batch/\j'.At=(J w).At/\j'.Code=(J w).Code:=aj
  have cd:=t.cd;have at0:=t.at_;have hcol:=t.cl2 (.inr hp);have hbat:=(hJ w hw hB).WR;have hat:=(hJ w hw hB).at_;have hcm:=hbat.1 hcol;rw[hcm] at hat;simp only[List.length_nil] at hat;refine⟨aa,λx=>by rw[e1];exact t.nO aa,λx=>by rw[e2];exact t.oO aa,λx=>aa,by rw[e3,e5];exact t.wl,λx=>aa,λx=>aa,λx=>aa,λx=>aa,λx=>aa,λx=>aa,λx=>aa,λx=>aa,λx=>aa,aa,λx _=>aj,λx=>aa,λx=>aj,by rw[e3,e4];exact t.ky⟩
 have o:=G7 (j:=J w) (.inr aa);have o':=G7 (j:=j') (.inr aa);have still:(cO b w (J w).Sub).1=b->(j'.Pc=21->bEH b.aC.aK (dI b.aQ w) j'.Sub)->sB Ky (cO b w (J w).Sub).1 k c q (zQ J w j'):=λe q=>by rw[e];exact h.still hl hw hc hJ (λ_ _=>rfl) aj aj (.inl aa) (λ_=>tw) (.no aa) ⟨λp=>aa,λp=>aa,q⟩
 have sub':j'.Sub=(cO b w (J w).Sub).2:=aj
 have nd:j'.Pc=21->(cO b w (J w).Sub).2.gU=false:=λq=>aj
 have hrow:∀{i:Int},0<=i/\i<(dI b.aQ w).length->ML (dI b.aQ w) i∈dV b.aQ:=λhi=>P3 hL hw (aD5 hi);rcases s3 with p0|⟨el,⟨p1,r0⟩|⟨p2,hB2,ha,hr⟩|⟨p3,ha,hr⟩⟩
 ·have e:cO b w (J w).Sub=(b,{(J w).Sub with Pc:=1,E:=b.aC.aK,Row:=0}):=by simp_all[cO]
  refine⟨still (by rw[e]) λq=>?_,λq=>aj⟩;rw[sub',e];exact⟨s1,s2,.inr ⟨KJ _,.inl ⟨rfl,KJ _⟩⟩⟩
 ·by_cases q:rY (dI b.aQ w) (J w).Sub.E (J w).Sub.Row.toNat<(dI b.aQ w).length
  ·have e:cO b w (J w).Sub=(b,{(J w).Sub with Pc:=2,Row:=(rY (dI b.aQ w) (J w).Sub.E (J w).Sub.Row.toNat:Int),B:=0,H:=(ML (dI b.aQ w) (rY (dI b.aQ w) (J w).Sub.E (J w).Sub.Row.toNat:Int)).Handle}):=by simp_all[cO]
   obtain⟨g1,g2⟩:=aYV q;refine⟨still (by rw[e]) λ_=>?_,λz=>aj⟩;rw[sub',e];refine⟨s1,s2,.inr ⟨el,.inr (.inl ⟨rfl,⟨KJ _,ae⟩,⟨ae,aj,rfl⟩,?_⟩)⟩⟩;grind[aV0]
  simp_all[cO,yJ,aP]
 ·have hH:(J w).Sub.H≠0:=by have:=(hb.2 _ (hrow ⟨ha.1,ha.2.1⟩)).1.1;rw[ha.2.2] at this;grind[lK]
  have e:cO b w (J w).Sub=(b,{(J w).Sub with Pc:=if(J w).Sub.B=2 then 3 else 2,B:=(J w).Sub.B+1}):=by unfold cO;rw[gR,gR,aN p2,aN ⟨hB2,ha⟩,aP (by rw[bGC h.hz hB2];omega)]
  refine⟨still (by rw[e]) λ_=>?_,λz=>aj⟩;rw[sub',e];refine⟨s1,s2,.inr ⟨el,.inr ?_⟩⟩;by_cases z:(J w).Sub.B=2
  ·exact .inr ⟨aN z,ha,hr⟩
  ·exact .inl ⟨aP z,aj,ha,hr⟩
 ·have e:cO b w (J w).Sub=({b with Mem:=pU b.Mem w (J w).Sub.H,aQ:=b.aQ.set w.toNat ⟨(dI b.aQ w).eraseIdx (J w).Sub.Row.toNat⟩},{(J w).Sub with Pc:=1,Out:=bE ((J w).Sub.Out+1)}):=by simp_all[cO]
  refine⟨?_,λz=>aj⟩;have hi:0<=(J w).Sub.Row/\(J w).Sub.Row<(dI b.aQ w).length:=⟨ha.1,ha.2.1⟩;have hrm:=hrow hi;generalize hrr:ML (dI b.aQ w) (J w).Sub.Row=r at hrm hr;have eH:r.Handle=(J w).Sub.H:=by rw[<-hrr];exact ha.2.2
  have hv:=(hb.2 r hrm).1;rw[<-eH] at e;have hHd:bG b.aQ (r.Handle % 32):=⟨r,hrm,hv.1,rfl⟩;have hil:(J w).Sub.Row.toNat<(dI b.aQ w).length:=aa
  have er:(dI b.aQ w)[(J w).Sub.Row.toNat]=r:=by grind[aV0]
  obtain⟨A,B,f1,f2⟩:=aNC hL hw;have hperm:=aML hil;rw[er] at hperm;have hpf:(dV b.aQ).Perm (r::dV (b.aQ.set w.toNat ⟨(dI b.aQ w).eraseIdx (J w).Sub.Row.toNat⟩)):=aj
  have hnd:=(hpf.map HM).nodup_iff.1 hL.2.2.2;rw[D9,WU] at hnd;have hheld:∀s,s≠r.Handle % 32->(bG (b.aQ.set w.toNat ⟨(dI b.aQ w).eraseIdx (J w).Sub.Row.toNat⟩) s↔bG b.aQ s):=λs hs=>⟨λ⟨x,hx,y⟩=>⟨x,hpf.mem_iff.2 (lE _ hx),y⟩,λ⟨x,hx,y⟩=>⟨x,(j3.1 (hpf.mem_iff.1 hx)).resolve_left λq=>hs aj,y⟩⟩;have kn:=aJR hb.1.1 hw hv;have fst:∀s,s≠r.Handle % 32->eK (pU b.Mem w r.Handle) s=eK b.Mem s:=λs hs=>aM6 hb.1.1 hw hv hs;have fz:=(aBZ hb.1.1 hw hv).2.2.2;have hrip:r.aK<=(J w).Sub.E-2:=by have:=hr.2;rw[cQ (by have:=hr.1;omega) (by have:=hc.1.2;omega)] at this;exact this
  rw[e];show sB Ky {b with Mem:=pU b.Mem w r.Handle,aQ:=b.aQ.set w.toNat ⟨(dI b.aQ w).eraseIdx (J w).Sub.Row.toNat⟩} k c q (zQ J w j');generalize hb':({b with Mem:=pU b.Mem w r.Handle,aQ:=b.aQ.set w.toNat ⟨(dI b.aQ w).eraseIdx (J w).Sub.Row.toNat⟩}:aA)=b';have m1:b'.Mem=pU b.Mem w r.Handle:=by rw[<-hb']
  have m2:b'.aQ=b.aQ.set w.toNat ⟨(dI b.aQ w).eraseIdx (J w).Sub.Row.toNat⟩:=by rw[<-hb']
  have m3:b'.aC=b.aC:=by rw[<-hb']
  have m4:b'.qJ=b.qJ:=by rw[<-hb']
  have oth:Oth b b' k k c c J w j' 0 (r.Handle % 32):=⟨λy hy hz=>by rw[m1];exact⟨(kn y hy hz).1,λ_=>(kn y hy hz).2⟩,.inr (.inl (U1 (.inr hHd))),.inl rfl,λ_ _ _=>⟨rfl,rfl⟩,.inr λv hv' hn hp' hpin y hy hs ez=>by
    have:=ZN hy.1 hv ez;have:=hs.1 r hrm this.symm;have:=hE v hv' hp' hpin;omega,λx hx=>.inl (by rw[m2] at hx;exact hpf.mem_iff.2 (lE _ hx)),by rw[o'.2];simp,λz=>aa,λ_ _ _ p=>by rw[m3] at p ⊢;exact⟨p,rfl⟩,by rw[m3];exact KJ _,λv hv' hn=>by rw[m2];exact aB0 hL.1 hw hv' hn _⟩
  have chs:=λi (hi:oS i)=>(oth.chn h hw hi (λq=>((h.ch i hi).all 0 q).1.ne rfl)).2 rfl rfl;refine h.make hl hw hc hJ oth m4 (λi hi=>(chs i hi).1) (λi hi=>by rw[(chs i hi).2];exact h.key i hi) (λs=>?_) (λy hy=>by rw[o'.1] at hy;cases hy) (λ_=>tw) (.no aa) ⟨λp=>aa,λp=>aa,λq=>?_⟩
  ·have u:=YZ (J:=J) hw j' s;rw[o.1,o'.1] at u;have u2:=h.cnt s;by_cases q:s=r.Handle % 32
   ·have a1:ind b s=0:=U1 (.inr (q ▸ hHd));have a2:ind b' s=0:=U1 (.inl (by rw[m1,q];exact fz));omega
   ·have a2:ind b' s=ind b s:=aND (by rw[m1,fst s q]) (by rw[m2];exact hheld s q);omega
  ·rw[sub',e,m3];exact⟨s1,s2,.inr ⟨el,.inl ⟨rfl,ha.1⟩⟩⟩
end
theorem bEO{l:List aT}(hK:0<=K)(h:K<l.length):fP l (K+1)=fP l K+if(l.getD K.toNat ⟨0,false,0⟩).HC then 0 else 1:=by
 have hi:K.toNat<l.length:=aa
 unfold fP;rw[show(K+1).toNat=K.toNat+1 by omega,JN hi,List.filter_append,D8,DN,iS hi,aCC];grind
theorem a94{l:List aT}(h:l.length<=K):fP l K=fP l l.length:=by grind[fP]
theorem aNF{n:gN}(h:aBX n):MN n=n.Next:=by
 unfold MN;rcases h.2.2 with e|e
 ·rw[e];split<;>rfl
 ·rw[aN e]
theorem aEC(h:9<=j.Pc/\j.Pc<=13):own j=j.gK.drop (fP j.aH j.K).toNat++j.b9/\kQ j=j.gK.drop (fP j.aH j.K).toNat:=by grind[own,kQ,aF2]
theorem ChT.last:∀{h:Int} {B:List Int} {x:Int},ChT m x (A++h::B)->(∀a,A.getLast?=some a->(cG m a).Next=h)/\(A=[]->x=h):=by
 induction A with
 |nil=>exact λh=>⟨λa e=>by simp at e,λ_=>h.1⟩
 |cons a A ih=>
  intro h B x hc;refine⟨λz e=>?_,λe=>by cases e⟩;obtain⟨i1,i2⟩:=ih hc.2.2.2;grind
theorem ChT.cut{p:Int}(hp:cG m' p={cG m p with Next:=(cG m (cG m p).Next).Next})(ok:kE m' p):∀{A:List Int} {h:Int} {B:List Int} {x:Int},ChT m x (A++p::h::B)->(∀y∈A++B,kE m' y/\cG m' y=cG m y)->ChT m' x (A++p::B)
 |[],h,B,x,hc,hk=>by
  obtain⟨e1,a1,a2,e2,b1,b2,b3⟩:=hc;refine⟨e1,ok,?_,?_⟩
  ·rw[hp];exact⟨a2.1,a2.2.1,by rw[e2];exact b2.2.2⟩
  ·rw[hp,e2];exact b3.keep λy hy=>hk y (by simp[hy])
 |a::A,h,B,x,hc,hk=>by obtain⟨a1,a2⟩:=hk a ae;exact⟨hc.1,a1,by rw[a2];exact hc.2.2.1,by rw[a2];exact hc.2.2.2.cut hp ok λy hy=>hk y aj⟩
def lkp(m:Mem)(l:List Int)(k:Int):Option Int:=(l.find? λx=>(cG m x).Key == k).map λx=>(cG m x).dM
def wv(x:aT):Option Int:=if x.HC then none else some x.dM
structure ChW (m m':Mem) (c c':Int->List Int) (j j':aI):Prop where
 keep:∀i,oS i->(j.Pc=11\/j.Pc=13->i≠bi j)->c' i=c i/\∀x∈c i,cG m' x=cG m x
 oth:9<=j.Pc/\j.Pc<=13->∀k,k≠(mO j).Key->lkp m' (c' (bi j)) k=lkp m (c (bi j)) k
 key:9<=j.Pc/\j.Pc<=13->j'.K=j.K+1->lkp m' (c' (bi j)) (mO j).Key=wv (mO j)
theorem ChW.same{c:Int->List Int}(h:9<=j.Pc/\j.Pc<=13->j'.K=j.K+1->lkp m (c (bi j)) (mO j).Key=wv (mO j)):ChW m m c c j j':=⟨λ_ _ _=>⟨rfl,λ_ _=>rfl⟩,λ_ _ _=>rfl,h⟩
theorem aNG{k:Int}(h:∀a∈l,(cG m a).Key≠k):lkp m l k=none:=by grind[lkp]
theorem aS3{B:List Int}{p k:Int}(h:(cG m p).Key≠k):lkp m (A++p::B) k=lkp m (A++B) k:=by grind[lkp]
theorem Y1(h:∀a∈l,(cG m' a).Key=(cG m a).Key/\(cG m' a).dM=(cG m a).dM)(k:Int):lkp m' l k=lkp m l k:=by
 induction l with
 |nil=>rfl
 |cons a l ih=>
  grind[lkp]
theorem aJT{x:aT}(h:(MO j x).K=j.K+1):x.HC=true:=by grind[MO]
section
variable {Ky:List Int} {b:aA} {k:List bX} {c:Int->List Int} {q:Int->Nat} {J:Int->aI} {w:Int} (h:sB Ky b k c q J) (hl:∀v,fC v->ZL k v (J v)) (hw:fC w) (hb:mV b) (hJ:∀v,fC v->(J v).bU=true->JB (J v)) (hB:(J w).bU=true)
include h hl hw hb hJ hB
set_option maxHeartbeats 1000000 in
theorem a95(hk2:k.length=2/\∀x∈k,BkV x)(hp:9<=(J w).Pc/\(J w).Pc<=13):∃c',sB Ky (lV b k (J w)).1 (lV b k (J w)).2.1 c' (upQ q w (qF Ky.length (q w) (J w))) (zQ J w (lV b k (J w)).2.2)/\ChW b.Mem (lV b k (J w)).1.Mem c c' (J w) (lV b k (J w)).2.2:=by
 have t:=h.tw w hw hB;have hj:=hJ w hw hB;have hc:=hb.1.2.1;have hk:=hj.k;have o:=aEC hp;have hn7:=t.n7 aa;generalize hn:qF Ky.length (q w) (J w)=n;have eqw:upQ q w n w=n:=aN rfl;have hqv:∀v,v≠w->upQ q w n v=q v:=λv hv=>aP hv;generalize upQ q w n=qn at eqw hqv ⊢;subst eqw;have hcd:(J w).Code=0:=by have:=t.cd;omega
 have tw:∀{m':Mem} {k':List bX} {c':Int->List Int} {j':aI},9<=j'.Pc/\j'.Pc<=14->j'.gK=(J w).gK/\j'.aH=(J w).aH/\j'.Batch=(J w).Batch/\j'.At=(J w).At/\j'.Code=(J w).Code/\j'.bG=(J w).bG->(j'.Pc<=13->(j'.b9.length:Int)<=if j'.Pc<=11 then j'.K else j'.K+1)->(10<=j'.Pc/\j'.Pc<=13->j'.K<j'.aH.length) ->
   (j'.Pc=10\/j'.Pc=11->∃A B,c' (bi j')=A++j'.H::B/\(j'.gO=A.getLastD 0/\∀a∈A,(cG m' a).Key≠(mO j').Key)/\(j'.Pc=10->B.length<=qn w))->(j'.Pc=11->j'.Node=cG m' j'.H/\j'.Node.Key=(mO j').Key)->(j'.Pc=12\/j'.Pc=13->(mO j').HC=false/\∀a∈c' (bi j'),(cG m' a).Key≠(mO j').Key)->(j'.Pc=13->cG m' (G6 j')=⟨(mO j').Key,(mO j').dM,(dW k' (bi j')).Head⟩)->TW Ky m' k' c' (qn w) j':=
  λ{m' k' c' j'} q ⟨e1,e3,e4,e5,e6,e7⟩ q1 q2 q3 q4 q5 q6=>by
  refine⟨aa,λx=>aa,λx=>aa,λx=>aa,by rw[e3,e5];exact t.wl,λx=>aa,λx=>⟨aj,λ_=>q1 x.2⟩,λx=>aa,λx=>by rw[e3,e7];exact t.l8 aa,q2,q3,q4,q5,q6,aa,λx _=>by rw[e5,e4];exact t.at_ hcd aa,λx=>?_,λx=>aa,by rw[e3,e4];exact t.ky⟩;have:=t.cl aj;omega
 have still:∀{j':aI},own j'=own (J w)->kQ j'=kQ (J w)\/kQ j'=[]->9<=j'.Pc/\j'.Pc<=14->TW Ky b.Mem k c (qn w) j'->sB Ky b k c qn (zQ J w j'):=λ{j'} e1 e2 q t'=>
  h.aS1 hl hw hc hJ hqv (λ_ _=>rfl) e1 aj (.inl aa) (λ_=>t') (.no aa) (.no aa)
 unfold lV;by_cases c1:((J w).aH.length:Int)<=(J w).K
 ·rw[aN c1];have hd:(J w).gK.drop (fP (J w).aH (J w).K).toNat=[]:=aB6 (by grind[a94]);have o':own {J w with Pc:=14}=(J w).b9/\kQ {J w with Pc:=14}=[]:=by simp[own,kQ,aF2]
  exact⟨c,still aj (.inr o'.2) ae (tw ae ⟨rfl,rfl,rfl,rfl,rfl,rfl⟩ ae ae ae ae ae ae),.same λ_ z=>aj⟩
 rw[aP c1];have hi:(J w).K.toNat<(J w).aH.length:=aa
 have er:mO (J w)=(J w).aH[(J w).K.toNat]:=by grind[mO]
 have hxm:mO (J w)∈(J w).aH:=aj
 have hx:=hj.wr.2.1 _ hxm;have hbk:oS (jD (mO (J w)).Key):=by grind[jD]
 have hheld:=t.l8 aa _ hxm;have hlk:(dW k (jD (mO (J w)).Key)).eI=w+1:=((hl w hw).iff _ hbk).1 hheld;have hch:=h.ch _ hbk;have hkey:=h.key _ hbk;have hol:=hn7.2 aa;have hpl:fP (J w).aH ((J w).K+1)=fP (J w).aH (J w).K+if(mO (J w)).HC then 0 else 1:=bEO hk.1 aa;have p0:0<=fP (J w).aH (J w).K:=by grind[fP]
 generalize hi':jD (mO (J w)).Key=i at hbk hheld hlk hch hkey;have ebi:bi (J w)=i:=hi';have place:∀{b':aA} {k':List bX} {c':Int->List Int} {j1:aI},j1.gK=(J w).gK/\j1.aH=(J w).aH/\j1.Batch=(J w).Batch/\j1.At=(J w).At/\j1.Code=(J w).Code/\j1.bG=(J w).bG/\j1.K=(J w).K->(j1.b9.length:Int)<=(J w).K+1->(∀a∈c' i,(cG b'.Mem a).Key≠(mO (J w)).Key)->TW Ky b'.Mem k' c' (qn w) (MO j1 (mO (J w)))/\kQ (MO j1 (mO (J w)))=kQ (J w)/\own (MO j1 (mO (J w)))=kQ (J w)++j1.b9/\(9<=(MO j1 (mO (J w))).Pc/\(MO j1 (mO (J w))).Pc<=14):=
  λ{b' k' c' j1} ⟨e1,e3,e4,e5,e6,e7,e8⟩ q1 q2=>by
  have ew:∀{j2:aI},j2.aH=j1.aH->j2.K=j1.K->mO j2=mO (J w):=λa a'=>by grind[mO]
  unfold MO;cases hd:(mO (J w)).HC
  ·rw[gI];have o':=aEC (j:={j1 with Pc:=12}) ae;simp only at o';refine⟨tw ae ⟨e1,e3,e4,e5,e6,e7⟩ (λ_=>ah) (λ_=>by simp only;rw[e8,e3];omega) ae ae (λ_=>by
    have e2:mO {j1 with Pc:=12}=mO (J w):=ew rfl rfl;have e9:bi {j1 with Pc:=12}=i:=by unfold bi;rw[e2];exact hi'
    rw[e2,e9];exact⟨hd,q2⟩) ae,?_,?_,ae⟩
   ·rw[o'.2,o.2,e1,e3,e8]
   ·rw[o'.1,o.2,e1,e3,e8]
  ·rw[aN rfl];have o':=aEC (j:={j1 with Pc:=9,K:=j1.K+1}) ae;simp only at o';rw[hd,aN rfl,Int.add_zero] at hpl;refine⟨tw ae ⟨e1,e3,e4,e5,e6,e7⟩ (λ_=>ah) ae ae ae ae ae,?_,?_,ae⟩
   ·rw[o'.2,o.2,e1,e3,e8,hpl]
   ·rw[o'.1,o.2,e1,e3,e8,hpl]
 have TN:own (J w)=kQ (J w)++(J w).b9:=by rw[o.1,o.2]
 by_cases p9:(J w).Pc=9
 ·rw[aN p9];rw[aN aa] at hol;refine⟨c,?_,.same λ_ z=>?_⟩
  rotate_left
  ·by_cases q:(dW k i).Head=0
   ·simp only[aN q] at z;rw[show wv (mO (J w))=none from aN (aJT z),ebi]
    match c i,hch with
    |[],_=>rfl
    |x::r,hch=>exact absurd (hch.1.symm.trans q) hch.2.1.ne
   ·simp only[aP q] at z;omega
  by_cases q:(dW k i).Head=0
  ·rw[aN q];have hnil:c i=[]:=by
    match hci:c i,hch with
    |[],_=>rfl
    |x::r,hch=>exact absurd (hch.1.symm.trans q) hch.2.1.ne
   obtain⟨a1,a2,a3,a4⟩:=place (b':=b) (k':=k) (c':=c) (j1:={J w with Pc:=10,H:=(dW k i).Head,gO:=0}) ⟨rfl,rfl,rfl,rfl,rfl,rfl,rfl⟩ (by simp only;omega) (by rw[hnil];simp);exact still (by rw[a3,TN]) (.inl a2) a4 a1
  ·rw[aP q];have o':=aEC (j:={J w with Pc:=10,H:=(dW k i).Head,gO:=0}) ae;refine still (by rw[o'.1,o.1]) (.inl (by rw[o'.2,o.2])) ae (tw ae ⟨rfl,rfl,rfl,rfl,rfl,rfl⟩ ah (λ_=>by simp only;omega) (λ_=>?_) ae ae ae)
   match hci:c i,hch with
   |[],hch=>exact absurd hch q
   |x::r,hch=>
    refine⟨[],r,?_,⟨rfl,ae⟩,λ_=>?_⟩
    rotate_left
    ·have:=yO hkey.1 λy hy=>(hkey.2 y hy).2;unfold mP at this;rw[hci,List.length_map,HD] at this;rw[<-hn];unfold qF;rw[aN (.inr p9)];omega
    show c (jD (mO (J w)).Key)=_;rw[hi',hci,OU];simp only;rw[hch.1]
 rw[aP p9];by_cases p10:(J w).Pc=10
 ·rw[aN p10];rw[aN aa] at hol;obtain⟨A,B,e1,⟨e2,e3⟩,e4⟩:=t.st (.inl p10);rw[ebi] at e1;rw[e1] at hch;have hH:=hch.split;have hok:=hH.2.1;rw[aS2 hok];refine⟨c,?_,.same λ_ z=>?_⟩
  rotate_left
  ·by_cases q:(cG b.Mem (J w).H).Key=(mO (J w)).Key
   ·simp only[aN q] at z;omega
   ·simp only[aP q,aNF hH.2.2.1] at z;by_cases q2:(cG b.Mem (J w).H).Next=0
    ·simp only[aN q2] at z;rw[show wv (mO (J w))=none from aN (aJT z),ebi,e1];refine aNG λa ha=>?_
     match B,hH.2.2.2,ha with
     |[],_,ha=>
      rcases dE.1 ha with ha|ha
      ·exact e3 a ha
      ·rw[jO.1 ha];exact q
     |x::r,hq,_=>exact absurd (hq.1.symm.trans q2) hq.2.1.ne
    ·simp only[aP q2] at z;omega
  by_cases q:(cG b.Mem (J w).H).Key=(mO (J w)).Key
  ·rw[aN q];have o':=aEC (j:={J w with Pc:=11,Node:=cG b.Mem (J w).H}) ae;exact still (by rw[o'.1,o.1]) (.inl (by rw[o'.2,o.2])) ae (tw ae ⟨rfl,rfl,rfl,rfl,rfl,rfl⟩ ah (λ_=>by simp only;omega) (λ_=>⟨A,B,(show c (jD (mO (J w)).Key)=_ by rw[hi'];exact e1),⟨e2,e3⟩,λz=>absurd z ae⟩) (λ_=>⟨rfl,q⟩) ae ae)
  ·rw[aP q,aNF hH.2.2.1];by_cases q2:(cG b.Mem (J w).H).Next=0
   ·rw[aN q2];have hBn:B=[]:=by
     match B,hH.2.2.2 with
     |[],_=>rfl
     |x::r,hq=>exact absurd (hq.1.symm.trans q2) hq.2.1.ne
    obtain⟨a1,a2,a3,a4⟩:=place (b':=b) (k':=k) (c':=c) (j1:={J w with Node:=cG b.Mem (J w).H}) ⟨rfl,rfl,rfl,rfl,rfl,rfl,rfl⟩ (by simp only;omega) (by
     rw[e1,hBn];intro a ha;rcases dE.1 ha with ha|ha
     ·exact e3 a ha
     ·rw[jO.1 ha];exact q)
    exact still (by rw[a3,TN]) (.inl a2) a4 a1
   ·rw[aP q2];have o':=aEC (j:={J w with H:=(cG b.Mem (J w).H).Next,gO:=(J w).H,Node:=cG b.Mem (J w).H}) hp;refine still (by rw[o'.1,o.1]) (.inl (by rw[o'.2,o.2])) (by simp only;omega) (tw (by simp only;omega) ⟨rfl,rfl,rfl,rfl,rfl,rfl⟩ (λ_=>by simp only;rw[aN aa];exact hol) (λ_=>by simp only;omega) (λ_=>?_) (by simp[p10]) (by simp[p10]) (by simp[p10]))
    match B,hH.2.2.2,e1 with
    |[],hq,_=>exact absurd hq q2
    |x::r,hq,e1=>
     refine⟨A++[(J w).H],r,?_,⟨ae,λa ha=>?_⟩,λ_=>?_⟩
     rotate_left 2
     ·have:=e4 p10;rw[HD] at this;rw[<-hn];unfold qF;rw[gR,aN (.inr p10)];omega
     ·show c (jD (mO (J w)).Key)=_;rw[hi',e1];simp only;rw[hq.1];simp
     ·rcases dE.1 ha with ha|ha
      ·exact e3 a ha
      ·rw[jO.1 ha];exact q
 rw[aP p10];have heads:∀(x:Int) (i':Int),oS i'->(dW (k.set i.toNat {dW k i with Head:=x}) i').Head=if i'=i then x else(dW k i').Head:=λx i' hi''=>by rw[qV hk2.1 hbk hi''];split<;>rfl
 have hno:∀{i':Int},oS i'->(dW k i').eI≠w+1->i'≠i:=λ_ q e=>q (e ▸ hlk);have ind0:∀{b':aA},(∀s,eK b'.Mem s=eK b.Mem s)->b'.aQ=b.aQ->∀s,ind b' s=ind b s:=λe1 e2 s=>aND (by rw[e1]) (by rw[e2]);by_cases p11:(J w).Pc=11
 ·rw[aN p11];rw[aN aa] at hol;obtain⟨A,B,e1,⟨e2,e3⟩,_⟩:=t.st (.inr p11);rw[ebi] at e1;rw[e1] at hch hkey;have hH:=hch.split;have hok:=hH.2.1;obtain⟨n1,n2⟩:=t.cu p11;rw[n1,aNF hH.2.2.1];have hnd:=hkey.1;unfold mP at hnd;rw[sH,D9,aJ2,WU] at hnd;have hAB:∀a∈A++B,(cG b.Mem a).Key≠(mO (J w)).Key:=λa ha q=>by
   rcases dE.1 ha with ha|ha
   ·exact e3 a ha q
   ·rw[<-n2,n1] at q;exact hnd.2.1.1 (AR.2 ⟨a,ha,q⟩)
  have hold:MP (J w)={J w with b9:=(J w).b9++[(J w).H]}:=by unfold MP;rw[aN ⟨hok.1.1,by have:=hj.wr.1;omega⟩]
  rw[hold];have hcl:Z5 (c i)=λs=>Z5 (A++B) s+if(J w).H % 32=s then 1 else 0:=by funext s;rw[e1,U0,P5,U0];omega
  have cntx:∀{j':aI},own j'=kQ (J w)++((J w).b9++[(J w).H])->∀s,cnC (upC c i (A++B)) s+cnO (zQ J w j') s=ind b s:=λ{j'} e s=>by have u1:=a9V (c:=c) hbk (A++B) s;have u2:=YZ (J:=J) hw j' s;rw[e,TN,U0,U0,U0,P5,a9U] at u2;rw[hcl] at u1;have:=h.cnt s;simp only at u1;omega
  have okx:∀{j':aI} {b':aA},own j'=kQ (J w)++((J w).b9++[(J w).H])->(∀x,kE b.Mem x->kE b'.Mem x)->∀x∈own j',kE b'.Mem x:=λ{j' b'} e q x hx=>by
   rw[e] at hx;refine q x ?_;rcases dE.1 hx with hx|hx
   ·exact h.ok w hw x (OB h hw hx)
   ·rcases dE.1 hx with hx|hx
    ·exact h.ok w hw x (by rw[TN];exact aB8 _ hx)
    ·rw[jO.1 hx];exact hok
  by_cases q:(J w).gO=0
  ·rw[aN q];have hA:A=[]:=by
    rcases Z8 A with rfl|⟨L,z,rfl⟩
    ·rfl
    ·rw[aJZ] at e1 e2 hch;rw[q] at e2;simp at e2;exact absurd e2.symm ((hch.all z ae).1.ne)
   subst hA;simp only[OU] at *;obtain⟨a1,a2,a3,a4⟩:=place (b':=b) (k':=k.set i.toNat {dW k i with Head:=(cG b.Mem (J w).H).Next}) (c':=upC c i B) (j1:={J w with b9:=(J w).b9++[(J w).H]}) ⟨rfl,rfl,rfl,rfl,rfl,rfl,rfl⟩ ah (by rw[pX];exact hAB);refine⟨upC c i B,h.aQQ hl hw hqv hc hJ (y:=0) (z:=-1) ⟨λx hx _=>⟨hx,λ_=>rfl⟩,.inl rfl,.inl rfl,λi' hi'' hq=>⟨by rw[heads _ _ hi'',aP (hno hi'' hq)],LC _ _ (hno hi'' hq)⟩,.inl rfl,λr hr=>.inl hr,λx hx=>.inl (by rw[a2] at hx;exact hx),λz=>absurd a4.2 (by rw[show(MO _ _).Pc=15 from z];decide),λ_ _ _ p=>⟨p,rfl⟩,KJ _,λ_ _ _=>rfl⟩ rfl (λi' hi''=>?_) (λi' hi''=>?_) (cntx a3) (okx a3 λ_ x=>x) (λ_=>a1) (.no ⟨λz=>absurd a4.1 (by rw[show(MO _ _).Pc=3 from z];decide),λz=>absurd a4.1 (by rw[show(MO _ _).Pc=4 from z];decide)⟩) (.no ⟨λz=>absurd a4.1 (by rw[show(MO _ _).Pc=6 from z];decide),λz=>absurd a4.2 (by rw[show(MO _ _).Pc=15 from z];decide),λz=>absurd a4.2 (by rw[show(MO _ _).Pc=21 from z];decide)⟩),⟨λi' hi'' z=>⟨LC _ _ (by rw[<-ebi];exact z (.inl p11)),λ_ _=>rfl⟩,λ_ k' z=>?_,λ_ z=>?_⟩⟩
   rotate_left 2
   ·rw[ebi,pX,e1];exact(aS3 (A:=[]) (by rw[<-n1,n2];exact λe=>z e.symm)).symm
   ·rw[ebi,pX,show wv (mO (J w))=none from aN (aJT z)];exact aNG hAB
   ·rw[heads _ _ hi''];by_cases z:i'=i
    ·rw[aN z,z,pX];exact hH.2.2.2
    ·rw[aP z,LC _ _ z];exact h.ch i' hi''
   ·by_cases z:i'=i
    ·rw[z,pX];exact⟨hnd.2.1.2,λx hx=>hkey.2 x (by unfold mP at hx ⊢;rw[D9];exact lE _ hx)⟩
    ·rw[LC _ _ z];exact h.key i' hi''
  ·rw[aP q];obtain⟨A',rfl⟩:∃A',A=A'++[(J w).gO]:=by
    rcases Z8 A with rfl|⟨L,z,rfl⟩
    ·exact absurd e2 q
    ·rw[aJZ] at e2 ⊢;exact⟨L,by rw[e2];simp⟩
   rw[oV,List.singleton_append] at e1 hch;have hpm:(J w).gO∈c i:=by rw[e1];simp
   have hpo:=hch.all (J w).gO ae;have hnx:(cG b.Mem (J w).gO).Next=(J w).H:=by have:=(ChT.last (A:=A'++[(J w).gO]) (h:=(J w).H) (B:=B) (by rw[oV,List.singleton_append];exact hch)).1 (J w).gO ae;exact this
   obtain⟨g1,g2,g3,g4⟩:=bEF hb.1.1 hpo.1 hH.2.2.1.2.2;generalize hm':Gv.aGQ b.Mem (J w).gO (cG b.Mem (J w).H).Next=m' at g1 g2 g3 g4;have g2':cG m' (J w).gO={cG b.Mem (J w).gO with Next:=(cG b.Mem (cG b.Mem (J w).gO).Next).Next}:=by rw[hnx];exact g2
   have gk:∀x,kE b.Mem x->kE m' x/\(x≠(J w).gO->cG m' x=cG b.Mem x):=λx hx=>by
    by_cases z:x % 32=(J w).gO % 32
    ·have:=ZN hx.1 hpo.1.1 z;subst this;exact⟨g1,λz=>absurd rfl z⟩
    ·exact⟨(g3 x hx z).1,λ_=>(g3 x hx z).2⟩
   have gkey:∀x,kE b.Mem x->(cG m' x).Key=(cG b.Mem x).Key:=λx hx=>by
    by_cases z:x=(J w).gO
    ·rw[z,g2']
    ·rw[(gk x hx).2 z]
   have hall:∀a∈A'++[(J w).gO]++B,kE b.Mem a:=λa ha=>(hch.all a (by simp only[dE,j3,jO,aZQ,or_false] at ha ⊢;grind)).1;obtain⟨a1,a2,a3,a4⟩:=place (b':={b with Mem:=m'}) (k':=k) (c':=upC c i (A'++[(J w).gO]++B)) (j1:={J w with b9:=(J w).b9++[(J w).H]}) ⟨rfl,rfl,rfl,rfl,rfl,rfl,rfl⟩ ah (by
    rw[pX];exact λa ha=>by rw[gkey a (hall a ha)];exact hAB a ha)
   have oth:Oth b {b with Mem:=m'} k k c (upC c i (A'++[(J w).gO]++B)) J w (MO {J w with b9:=(J w).b9++[(J w).H]} (mO (J w))) (J w).gO (-1):=
    ⟨λx hx _=>gk x hx,.inl rfl,.inr (.inr ⟨⟨i,hbk,hlk,hpm⟩,g2',by rw[hnx];exact hok.ne⟩),λi' hi'' hq=>⟨rfl,LC _ _ (hno hi'' hq)⟩,.inl rfl,λr hr=>.inl hr,λx hx=>.inl (by rw[a2] at hx;exact hx),λz=>absurd a4.2 (by rw[show(MO _ _).Pc=15 from z];decide),λ_ _ _ p=>⟨p,rfl⟩,KJ _,λ_ _ _=>rfl⟩
   have hnd2:=hkey.1;have hnoP:∀i',oS i'->i'≠i->(J w).gO∉c i':=λi' hi'' z hy=>by have u1:=a1X c hi'' hbk z ((J w).gO % 32);have u2:=RK hy;have u3:=RK hpm;have u4:=h.cnt ((J w).gO % 32);have u5:=aNA b ((J w).gO % 32);omega
   have gval:∀a,kE b.Mem a->(cG m' a).dM=(cG b.Mem a).dM:=λa ha=>by
    by_cases z:a=(J w).gO
    ·rw[z,g2']
    ·rw[(gk a ha).2 z]
   refine⟨_,h.aQQ hl hw hqv hc hJ oth rfl (λi' hi''=>?_) (λi' hi''=>?_) (λs=>by rw[cntx a3 s];exact(ind0 (b':={b with Mem:=m'}) g4 rfl s).symm) (okx a3 λx hx=>(gk x hx).1) (λ_=>a1) (.no ⟨λz=>absurd a4.1 (by rw[show(MO _ _).Pc=3 from z];decide),λz=>absurd a4.1 (by rw[show(MO _ _).Pc=4 from z];decide)⟩) (.no ⟨λz=>absurd a4.1 (by rw[show(MO _ _).Pc=6 from z];decide),λz=>absurd a4.2 (by rw[show(MO _ _).Pc=15 from z];decide),λz=>absurd a4.2 (by rw[show(MO _ _).Pc=21 from z];decide)⟩),⟨λi' hi'' z=>⟨LC _ _ (by rw[<-ebi];exact z (.inl p11)),λx hx=>(gk x ((h.ch i' hi'').all x hx).1).2 λe=>hnoP i' hi'' (by rw[<-ebi];exact z (.inl p11)) (e ▸ hx)⟩,λ_ k' z=>?_,λ_ z=>?_⟩⟩
   rotate_left 2
   ·rw[ebi,pX,e1];show lkp m' _ k'=_;rw[Y1 (m:=b.Mem) (λa ha=>⟨gkey a (hall a ha),gval a (hall a ha)⟩),show A'++(J w).gO::(J w).H::B=(A'++[(J w).gO])++(J w).H::B by simp];exact(aS3 (by rw[<-n1,n2];exact λe=>z e.symm)).symm
   ·rw[ebi,pX,show wv (mO (J w))=none from aN (aJT z)];exact aNG λa ha=>by show(cG m' a).Key≠_;rw[gkey a (hall a ha)];exact hAB a ha
   ·by_cases z:i'=i
    ·rw[z,pX,oV,List.singleton_append];have hdis:∀y∈A'++B,y≠(J w).gO:=λy hy e=>by
      have hn:=hnd2;unfold mP at hn;rw[oV,sH,sH,D9,D9,aJ2] at hn;rcases dE.1 hy with hy|hy
      ·exact hn.2.2 _ (AR.2 ⟨y,hy,rfl⟩) _ (by rw[e];simp) rfl
      ·exact(WU.1 hn.2.1).1 (by rw[<-e];exact lE _ (AR.2 ⟨y,hy,rfl⟩))
     exact hch.cut g2' g1 λy hy=>by obtain⟨x1,x2⟩:=gk y (hall y (by simp only[dE,jO] at hy ⊢;grind));exact⟨x1,x2 (hdis y hy)⟩
    ·have hy:=hnoP i' hi'' z;exact((oth.chn h hw hi'' hy).2 rfl (LC _ _ z)).1
   ·by_cases z:i'=i
    ·rw[z,pX];have ek:mP m' (A'++[(J w).gO]++B)=mP b.Mem (A'++[(J w).gO]++B):=aF3 λa ha=>gkey a (hall a ha);show(mP m' _).Nodup/\∀x∈mP m' _,_;rw[ek];have hsub:(mP b.Mem (A'++[(J w).gO]++B)).Sublist (mP b.Mem (A'++[(J w).gO]++(J w).H::B)):=by unfold mP;exact List.Sublist.map _ (List.Sublist.append_left (List.sublist_cons_self ..) _)
     exact⟨hnd2.sublist hsub,λx hx=>hkey.2 x (hsub.subset hx)⟩
    ·have hy:=hnoP i' hi'' z;rw[((oth.chn h hw hi'' hy).2 rfl (LC _ _ z)).2];exact h.key i' hi''
 rw[aP p11];have hp2:(J w).Pc=12\/(J w).Pc=13:=aa
 obtain⟨fd,fk⟩:=t.fl hp2;rw[ebi] at fk;obtain⟨nm,r,en,enr⟩:=aNB h hw t hj hp2;have hnw:=h.ok w hw _ (OB h hw nm);have hname:=h.name hw hw (OB h hw nm);have hnc:∀i',oS i'->G6 (J w)∉c i':=λi' hi'' hm=>by have u1:=h.link hw hi'' hm;omega
 have hlen:¬((J w).gK.length:Int)<=fP (J w).aH (J w).K:=λz=>by have:(J w).gK.drop (fP (J w).aH (J w).K).toNat=[]:=aB6 aa;rw[o.2,this] at nm;cases nm
 rw[aP hlen];have hbv:=hk2.2 _ (aSS hk2.1 hbk);by_cases p12:(J w).Pc=12
 ·rw[aN p12];rw[gR] at hol;obtain⟨g1,g2,g3,g4⟩:=bI0 hb.1.1 hnw (n:=⟨(mO (J w)).Key,(mO (J w)).dM,(dW k i).Head⟩) ⟨hx.1,hx.2,hbv.1⟩;show ∃c',sB Ky {b with Mem:=aAY b.Mem (G6 (J w)) ⟨(mO (J w)).Key,(mO (J w)).dM,(dW k i).Head⟩} k c' qn (zQ J w {J w with Pc:=13})/\ChW b.Mem (aAY b.Mem (G6 (J w)) ⟨(mO (J w)).Key,(mO (J w)).dM,(dW k i).Head⟩) c c' (J w) {J w with Pc:=13};generalize aAY b.Mem (G6 (J w)) ⟨(mO (J w)).Key,(mO (J w)).dM,(dW k i).Head⟩=m' at g1 g2 g3 g4;have gk:∀x,kE b.Mem x->kE m' x/\(x≠G6 (J w)->cG m' x=cG b.Mem x):=λx hx=>by
   by_cases z:x % 32=G6 (J w) % 32
   ·have:=ZN hx.1 hnw.1 z;subst this;exact⟨g1,λz=>absurd rfl z⟩
   ·exact⟨(g3 x hx z).1,λ_=>(g3 x hx z).2⟩
  have o':own {J w with Pc:=13}=own (J w)/\kQ {J w with Pc:=13}=kQ (J w):=by rw[o.1,o.2];exact aEC (j:={J w with Pc:=13}) ae
  have oth:Oth b {b with Mem:=m'} k k c c J w {J w with Pc:=13} (G6 (J w)) (-1):=
   ⟨λx hx _=>gk x hx,.inl rfl,.inr (.inl nm),λ_ _ _=>⟨rfl,rfl⟩,.inl rfl,λr hr=>.inl hr,λx hx=>.inl (by rw[o'.2] at hx;exact hx),λz=>absurd z ae,λ_ _ _ p=>⟨p,rfl⟩,KJ _,λ_ _ _=>rfl⟩
  have chs:=λi' (hi'':oS i')=>oth.chn h hw hi'' (hnc i' hi'');refine⟨c,h.aQQ hl hw hqv hc hJ oth rfl (λi' hi''=>((chs i' hi'').2 rfl rfl).1) (λi' hi''=>by rw[((chs i' hi'').2 rfl rfl).2];exact h.key i' hi'') (λs=>?_) (λx hx=>(gk x (h.ok w hw x (by rw[o'.1] at hx;exact hx))).1) (λ_=>tw ae ⟨rfl,rfl,rfl,rfl,rfl,rfl⟩ (λ_=>ah) (λ_=>by simp only;omega) ae ae (λ_=>⟨fd,λa ha=>?_⟩) (λ_=>?_)) (.no ae) (.no ae),⟨λi' hi'' _=>⟨rfl,λx hx=>(gk x ((h.ch i' hi'').all x hx).1).2 λe=>hnc i' hi'' (e ▸ hx)⟩,λ_ k' _=>?_,λ_ z=>by have:(J w).K=(J w).K+1:=z;omega⟩⟩
  rotate_left 3
  ·rw[ebi];exact Y1 (λa ha=>by rw[(gk a ((h.ch i hbk).all a ha).1).2 λe=>hnc i hbk (e ▸ ha)];exact⟨rfl,rfl⟩) k'
  ·have u:=YZ (J:=J) hw {J w with Pc:=13} s;rw[o'.1] at u;have u2:=h.cnt s;rw[ind0 (b':={b with Mem:=m'}) g4 rfl s];omega
  ·have ha':a∈c i:=by rw[show bi {J w with Pc:=13}=i from hi'] at ha;exact ha
   show(cG m' a).Key≠_;rw[((chs i hbk).1 a ha').2];exact fk a ha'
  ·show cG m' (G6 (J w))=⟨_,_,(dW k (jD (mO (J w)).Key)).Head⟩;rw[hi'];exact g2
 ·rw[aP p12];have p13:(J w).Pc=13:=aa
  rw[gR] at hol;have ln:=t.ln p13;rw[ebi] at ln;rw[fd] at hpl;simp only[bV,bR] at hpl;show ∃c',sB Ky b (k.set i.toNat {dW k i with Head:=G6 (J w)}) c' qn (zQ J w {J w with Pc:=9,K:=(J w).K+1})/\ChW b.Mem b.Mem c c' (J w) {J w with Pc:=9,K:=(J w).K+1};have o':=aEC (j:={J w with Pc:=9,K:=(J w).K+1}) ae;have er':(J w).gK.drop (fP (J w).aH ((J w).K+1)).toNat=r:=by rw[<-enr,hpl];congr 1
  simp only[er'] at o';have e0:kQ (J w)=G6 (J w)::r:=en;have oth:Oth b b k (k.set i.toNat {dW k i with Head:=G6 (J w)}) c (upC c i (G6 (J w)::c i)) J w {J w with Pc:=9,K:=(J w).K+1} 0 (-1):=
   ⟨λx hx _=>⟨hx,λ_=>rfl⟩,.inl rfl,.inl rfl,λi' hi'' hq=>⟨by rw[heads _ _ hi'',aP (hno hi'' hq)],LC _ _ (hno hi'' hq)⟩,.inl rfl,λr hr=>.inl hr,λx hx=>.inl (by rw[o'.2] at hx;rw[e0];exact lE _ hx),λz=>absurd z ae,λ_ _ _ p=>⟨p,rfl⟩,KJ _,λ_ _ _=>rfl⟩
  refine⟨upC c i (G6 (J w)::c i),h.aQQ hl hw hqv hc hJ oth rfl (λi' hi''=>?_) (λi' hi''=>?_) (λs=>?_) (λx hx=>h.ok w hw x ?_) (λ_=>tw ae ⟨rfl,rfl,rfl,rfl,rfl,rfl⟩ (λ_=>ah) ae ae ae ae ae) (.no ae) (.no ae),⟨λi' hi'' z=>⟨LC _ _ (by rw[<-ebi];exact z (.inr p13)),λ_ _=>rfl⟩,λ_ k' z=>?_,λ_ _=>?_⟩⟩
  rotate_left 4
  ·rw[ebi,pX];exact aS3 (A:=[]) (by rw[ln];exact λe=>z e.symm)
  ·rw[ebi,pX];unfold lkp;rw[List.find?_cons,ln];simp[wv,fd,ln]
  ·rw[heads _ _ hi''];by_cases z:i'=i
   ·rw[aN z,z,pX];exact⟨rfl,hnw,by rw[ln];exact⟨hx.1,hx.2,hbv.1⟩,by rw[ln];exact hch⟩
   ·rw[aP z,LC _ _ z];exact h.ch i' hi''
  ·by_cases z:i'=i
   ·rw[z,pX];have ek:mP b.Mem (G6 (J w)::c i)=(mO (J w)).Key::mP b.Mem (c i):=by show(cG b.Mem (G6 (J w))).Key::_=_;rw[ln];rfl
    rw[ek];refine⟨WU.2 ⟨λhm=>?_,hkey.1⟩,λx hx=>?_⟩
    ·obtain⟨a,ha,e⟩:=AR.1 hm;exact fk a ha e
    ·rcases j3.1 hx with rfl|hx
     ·exact⟨hi',t.ky.1 _ hxm⟩
     ·exact hkey.2 x hx
   ·rw[LC _ _ z];exact h.key i' hi''
  ·have u1:=a9V (c:=c) hbk (G6 (J w)::c i) s;have u2:=YZ (J:=J) hw {J w with Pc:=9,K:=(J w).K+1} s;rw[o'.1,TN,e0,U0,U0,P5] at u2;rw[P5] at u1;have:=h.cnt s;omega
  ·rw[TN,e0];rw[o'.1] at hx;simp only[dE,j3] at hx ⊢;exact hx.imp .inr id
end
def sjT(j:aI):Job:=⟨j.bU,⟨if j.Pc=0 then 5 else if j.Pc=20\/j.Pc=21 then 4 else 3,0,0,0⟩,0,if j.Pc=21 then 1 else 0,j.Sub,0,0,0,0⟩
def EpT(c:aC)(J:Int->aI):Prop:=Ep c λv=>sjT (J v)
theorem aWA(J:Int->aI)(w:Int)(j:aI):(λv=>sjT (zQ J w j v))=upJ (λv=>sjT (J v)) w (sjT j):=by grind[zQ,upJ]
theorem a1Z(h:j=cZ\/j.Pc≠0/\j.Pc≠20/\(j.Pc=21->j.Sub.Kind=4)):Calm (sjT j):=by
 rcases h with rfl|⟨h1,h2,h3⟩
 ·exact⟨λq=>(by cases q.1),λq=>(by cases q.1),λq=>absurd q ai,λq=>absurd q ai⟩
 ·unfold Calm pW Adv sjT;grind
theorem aNH(hb:j.bU=true)(h:j.Pc=0):pW (sjT j):=⟨hb,by simp[sjT,h],by simp[sjT,h]⟩
theorem a96(hb:j.bU=true)(h:j.Pc=20):Adv (sjT j):=⟨hb,by simp[sjT,h],by simp[sjT,h]⟩
theorem aED(h:j=cZ\/j.Pc≠0):¬pW (sjT j):=λq=>by
 rcases h with rfl|h
 ·cases q.1
 ·have:=q.2.1;unfold sjT at this;grind
theorem bI4(j:aI)(c:iB)(v:Int)(is:Bool):(qL j c v is).Pc=j.Pc\/(qL j c v is).Pc=16\/(qL j c v is).Pc=1:=by grind[qL,WN,UX,nT,sE]
theorem a97{b:aA}(h:1<=j.Pc/\j.Pc<=19):(fF b k w j).j=cZ\/1<=(fF b k w j).j.Pc/\(fF b k w j).j.Pc<=19:=by
 have keep:∀{j':aI},(j'.Pc=j.Pc\/1<=j'.Pc/\j'.Pc<=19)->j'=cZ\/1<=j'.Pc/\j'.Pc<=19:=λq=>.inr aa;unfold fF;rw[gR];refine dL (P:=λr=>r.j=cZ\/1<=r.j.Pc/\r.j.Pc<=19) (λp=>keep (by grind[qH,nT,sE,qL,WN,UX])) λ_=>dL (P:=λr=>r.j=cZ\/1<=r.j.Pc/\r.j.Pc<=19) (λp=>keep (by grind[iM,nT,sE,qL,WN,UX])) λ_=>
  dL (P:=λr=>r.j=cZ\/1<=r.j.Pc/\r.j.Pc<=19) (λp=>keep (by grind[vH,sE])) λ_=>dL (P:=λr=>r.j=cZ\/1<=r.j.Pc/\r.j.Pc<=19) (λp=>keep (by grind[oD,IG,sE])) λ_=>
  dL (P:=λr=>r.j=cZ\/1<=r.j.Pc/\r.j.Pc<=19) (λp=>keep (by grind[KH,sE])) λ_=>dL (P:=λr=>r.j=cZ\/1<=r.j.Pc/\r.j.Pc<=19) (λp=>keep (by grind[lV,MO,sE])) λ_=>
  dL (P:=λr=>r.j=cZ\/1<=r.j.Pc/\r.j.Pc<=19) (λp=>keep (by grind[AO,KI])) λ_=>dL (P:=λr=>r.j=cZ\/1<=r.j.Pc/\r.j.Pc<=19) (λp=>keep (by grind[DL,KI])) λ_=>
  dL (P:=λr=>r.j=cZ\/1<=r.j.Pc/\r.j.Pc<=19) (λp=>keep (by grind[DM])) λ_=>dL (P:=λr=>r.j=cZ\/1<=r.j.Pc/\r.j.Pc<=19) (λp=>.inr ae) λ_=>dL (P:=λr=>r.j=cZ\/1<=r.j.Pc/\r.j.Pc<=19) (λp=>.inl rfl) λ_=>.inr (by simp[sE])
section
variable {b:aA} {k:List bX} {J:Int->aI} {w:Int} (hw:fC w) (hc:K7 b.aC) (h:EpT b.aC J) (hB:(J w).bU=true)
include hw hc h hB
theorem aWB{cl:aC}(e:cl=b.aC)(hp:(J w).Pc≠0)(hj:j'=cZ\/j'.Pc≠0/\j'.Pc≠20/\(j'.Pc=21->j'.Sub.Kind=4)):EpT cl (zQ J w j'):=by unfold EpT;rw[aWA,e];exact h.still hw (aED (.inr hp)) (a1Z hj)
theorem aNI:((J w).Pc=0->(J w).Sub.Kind=5/\(J w).Sub.gU=false/\((J w).Sub.Pc=0\/(J w).Sub.Pc=1/\(0<=(J w).Sub.E/\(J w).Sub.E<=b.aC.aK)\/(J w).Sub.Pc=2/\(cS b.aC w).aK=(J w).Sub.E)) /\
  ((J w).Pc=20->(J w).Sub.Kind=3/\(J w).Sub.gU=false/\((J w).Sub.Pc=0\/(J w).Sub.E<=b.aC.aK/\((J w).Sub.Pc=1/\(0<=(J w).Sub.B/\(J w).Sub.B<=2)\/(J w).Sub.Pc=2/\(J w).Sub.B=3))):=by
 obtain⟨_,_,a,p⟩:=h.1 w hw hB;exact⟨λq=>p (aNH hB q),λq=>a (a96 hB q)⟩
theorem bLL(hk6:(J w).Pc=6\/(J w).Pc=15/\(J w).K<(J w).b9.length->(J w).Sub.Kind=1\/(J w).Sub.Kind=2)(hk21:(J w).Pc=21->(J w).Sub.Kind=4)(hpc:0<=(J w).Pc/\(J w).Pc<=21):EpT (fF b k w (J w)).b.aC (zQ J w (fF b k w (J w)).j):=by
 obtain⟨s0,s20⟩:=aNI hw hc h hB;by_cases p0:(J w).Pc=0
 ·obtain⟨k5,d,_⟩:=s0 p0;have es:iG b w (J w).Sub=zL b w (J w).Sub:=by grind[iG]
  have e:fF b k w (J w)=⟨(zL b w (J w).Sub).1,k,if(zL b w (J w).Sub).2.gU then {J w with Pc:=1,Sub:=(zL b w (J w).Sub).2} else {J w with Sub:=(zL b w (J w).Sub).2},[]⟩:=by unfold fF;rw[aN (.inl p0)];grind[oE]
  rw[e];unfold EpT;rw[aWA];have:=h.pin hw (b:=b) rfl hc rfl (aNH hB p0) (fin:=sjT {J w with Pc:=1,Sub:=(zL b w (J w).Sub).2}) (a1Z (.inr ae));rw[show(sjT (J w)).Sub=(J w).Sub from rfl] at this;cases hd:(zL b w (J w).Sub).2.gU
  ·rw[hd,gI] at this;rw[gI];exact this
  grind
 by_cases p20:(J w).Pc=20
 ·obtain⟨k3,d,_⟩:=s20 p20;have es:iG b w (J w).Sub=fA b (J w).Sub:=by grind[iG]
  have e:fF b k w (J w)=⟨(fA b (J w).Sub).1,k,if(fA b (J w).Sub).2.gU then {J w with Pc:=21,Sub:=zN 4 0} else {J w with Sub:=(fA b (J w).Sub).2},[]⟩:=by unfold fF;rw[aN (.inr (.inl p20))];grind[oE]
  rw[e];unfold EpT;rw[aWA];have:=h.advance hw (b:=b) rfl hc rfl (a96 hB p20) (fin:=sjT {J w with Pc:=21,Sub:=zN 4 0}) (a1Z (.inr (by simp[zN])));rw[show(sjT (J w)).Sub=(J w).Sub from rfl] at this;cases hd:(fA b (J w).Sub).2.gU
  ·rw[hd,gI] at this;rw[gI];exact this
  grind
 by_cases p21:(J w).Pc=21
 ·have hcl:=OA (b:=b) (w:=w) (s:=(J w).Sub) aa;have e:fF b k w (J w)=⟨(oE b w (J w)).1,k,(oE b w (J w)).2,[]⟩:=by simp_all[fF]
  grind[aWB,a31,oE]
 by_cases p18:(J w).Pc=18
 ·have e:fF b k w (J w)=⟨{b with aC:=(LB b.aC w).1},k,{J w with Pc:=19},[]⟩:=by unfold fF;simp[p18]
  rw[e];unfold EpT;rw[aWA];exact h.bLJ hw hc (aED (.inr p0)) (a1Z (.inr ae))
 have hcl:(fF b k w (J w)).b.aC=b.aC:=by
  unfold fF;rw[gR];refine dL (P:=λr=>r.b.aC=b.aC) (λp=>rfl) λ_=>dL (P:=λr=>r.b.aC=b.aC) (λp=>rfl) λ_=>dL (P:=λr=>r.b.aC=b.aC) (λp=>?_) λ_=>dL (P:=λr=>r.b.aC=b.aC) (λp=>rfl) λ_=>dL (P:=λr=>r.b.aC=b.aC) (λp=>rfl) λ_=>
   dL (P:=λr=>r.b.aC=b.aC) (λp=>by grind[lV]) λ_=>dL (P:=λr=>r.b.aC=b.aC) (λp=>rfl) λ_=>dL (P:=λr=>r.b.aC=b.aC) (λp=>?_) λ_=>dL (P:=λr=>r.b.aC=b.aC) (λp=>by grind[DM]) λ_=>dL (P:=λr=>r.b.aC=b.aC) (λp=>absurd p p18) λ_=>dL (P:=λr=>r.b.aC=b.aC) (λp=>rfl) λ_=>rfl
  ·have:=OA (b:=b) (w:=w) (s:=(J w).Sub) (by have:=hk6 (.inl p);omega);unfold vH;grind
  ·unfold DL;split
   ·rfl
   ·exact OA (by have:=hk6 (.inr ⟨p,aa⟩);omega)
 grind[aWB,a97]
end
theorem a98{c:aC}{J:Int->aI}(hw:fC w)(h:EpT c J)(hn:J w=cZ)(x:Batch)(s:Int):EpT c (zQ J w (jG x s)):=by
 unfold EpT;rw[aWA];have e:sjT (jG x s)=⟨true,⟨if x.Collect then 4 else 5,0,0,0⟩,0,0,if x.Collect then zN 3 0 else zN 5 0,0,0,0,0⟩:=by grind[sjT,jG]
 refine h.step hw rfl (λ_ _ _=>rfl) ?_ (λ_ o1 o2=>?_) (λ_=>.inl ?_)
 ·rw[e];intro _;grind[Adv,pW,zN]
 ·obtain⟨a1,a2⟩:=h.2 w hw (aED (.inl hn)) o1 o2;grind
 ·rw[e];cases x.Collect<;>rfl
theorem sB.congr{b:aA}{c:Int->List Int}{q:Int->Nat}{J J':Int->aI}(h:sB Ky b k c q J)(e:∀v,fC v->J' v=J v):sB Ky b k c q J':=by have e0:=e 0 (by simp[fC]);have e1:=e 1 (by simp[fC]);have e2:=e 2 (by simp[fC]);refine⟨h.hz,h.ch,h.key,λs=>by unfold cnO;rw[e0,e1,e2];exact h.cnt s,λv hv=>by rw[e v hv];exact h.ok v hv,λv hv=>by rw[e v hv];exact h.tw v hv,λv hv=>?_,λv hv=>by rw[e v hv];exact h.sb v hv⟩;rw[e v hv];intro p q;obtain⟨r,⟨a,la⟩,z⟩:=h.rd v hv p q;exact⟨r,⟨⟨a.rp,a.nd,a.ky,λx hx=>⟨(a.sf x hx).1,λu hu=>by rw[e u hu];exact(a.sf x hx).2 u hu⟩⟩,la⟩,z⟩
section
variable {Ky:List Int} {b:aA} {k:List bX} {c:Int->List Int} {q:Int->Nat} {J:Int->aI} {w:Int} (h:sB Ky b k c q J) (hl:∀v,fC v->ZL k v (J v)) (hw:fC w) (hb:mV b) (hk:k.length=2/\∀x∈k,BkV x) (hJ:∀v,fC v->(J v).bU=true->JB (J v)) (hB:(J w).bU=true) (hep:EpT b.aC J)
include h hl hw hb hk hJ hB hep
theorem bI5(hp:(J w).Pc=0\/(J w).Pc=20\/(J w).Pc=21):sB Ky (oE b w (J w)).1 k c q (zQ J w (oE b w (J w)).2):=by
 have hc:=hb.1.2.1;obtain⟨s0,s20⟩:=aNI hw hc hep hB;rcases hp with p|p|p
 ·obtain⟨k5,d,_⟩:=s0 p;have es:iG b w (J w).Sub=zL b w (J w).Sub:=by grind[iG]
  unfold oE;rw[es,aN p];by_cases z:(zL b w (J w).Sub).2.gU=false
  ·rw[aN z];grind[a91]
  ·rw[aP z];grind[a91]
 ·obtain⟨k3,d,_⟩:=s20 p;have es:iG b w (J w).Sub=fA b (J w).Sub:=by grind[iG]
  unfold oE;rw[es,aP (show ¬(J w).Pc=0 by omega),aN p];by_cases z:(fA b (J w).Sub).2.gU=false
  ·rw[aN z];grind[a92]
  ·rw[aP z];grind[a92]
 ·obtain⟨k4,d,_⟩:=(h.sb w hw).col p;have es:iG b w (J w).Sub=cO b w (J w).Sub:=by simp_all[iG]
  have hE:∀v,fC v->(J v).Pc=3\/(J v).Pc=4->mB b.aC v->b.aC.aK<=(cS b.aC v).aK+1:=λv hv q hp=>(hep.2 v hv (aED (.inr aa)) hp.1 hp.2).1;unfold oE;rw[es,aP (show ¬(J w).Pc=0 by omega),aP (show ¬(J w).Pc=20 by omega)];by_cases z:(cO b w (J w).Sub).2.gU=false
  ·rw[aN z];exact(aNE h hl hw hb hJ hB hE p (.inr ⟨z,rfl⟩)).1
  ·rw[aP z];exact(aNE h hl hw hb hJ hB hE p (.inl ⟨aj,rfl⟩)).1
omit hl hk hJ in
theorem bI6(hp:(J w).Pc<9\/13<(J w).Pc)(hi:oS i){x:Int}(hx:x∈c i):cG (fF b k w (J w)).b.Mem x=cG b.Mem x:=by
 have hc:=hb.1.2.1;have hL:=hb.1.2.2.1;have ok:=((h.ch i hi).all x hx).1;have hs:=h.sb w hw;obtain⟨s0,s20⟩:=aNI hw hc hep hB;have kn:∀{m':Mem} {z:Int},Kn b.Mem m' z->x % 32≠z->cG m' x=cG b.Mem x:=λa e=>(a x ok e).2;have me:∀{m':Mem},m'=b.Mem->cG m' x=cG b.Mem x:=λe=>by rw[e]
 unfold fF;have P:∀{c:Prop} [Decidable c] {y z:TR},(c->cG y.b.Mem x=cG b.Mem x)->(¬c->cG z.b.Mem x=cG b.Mem x)->_:=dL (P:=λr=>cG r.b.Mem x=cG b.Mem x);refine P (λp=>?_) λ_=>P (λ_=>rfl) λ_=>P (λ_=>rfl) λ_=>P (λp=>?_) λ_=>P (λ_=>rfl) λ_=>P (λ_=>rfl) λ_=>P (λ_=>aa) λ_=>P (λ_=>rfl) λ_=>P (λp=>?_) λ_=>P (λp=>?_) λ_=>P (λ_=>rfl) λ_=>P (λ_=>rfl) λ_=>rfl
 ·show cG (iG b w (J w).Sub).1.Mem x=_;rcases p with p|p|p
  ·obtain⟨k5,d,_⟩:=s0 p;obtain⟨cl,e,_⟩:=aZC hc hw (J w).Sub;simp_all[iG]
  ·obtain⟨k3,d,_⟩:=s20 p;obtain⟨cl,e,_⟩:=aZD hc (J w).Sub;grind[iG]
  ·obtain⟨k4,d,_⟩:=hs.col p;rw[show iG b w (J w).Sub=cO b w (J w).Sub by grind[iG]];have e:(cO b w (J w).Sub).1.Mem=b.Mem\/N9 (dI b.aQ w) (J w).Sub/\(cO b w (J w).Sub).1.Mem=pU b.Mem w (J w).Sub.H:=by grind[cO]
   rcases e with e|⟨ha,e⟩
   ·exact me e
   ·have hrm:=P3 hL hw (aD5 ⟨ha.1,ha.2.1⟩);have lv:=(hb.2 _ hrm).1;have hkn:=aJR hb.1.1 hw lv;rw[ha.2.2] at hkn;rw[e];refine kn hkn λz=>?_;have u:=h.link hw hi hx;have u2:ind b (x % 32)=0:=aP λy=>y.2 ⟨_,hrm,lv.1,by rw[ha.2.2];exact z.symm⟩;omega
 ·show cG (vH b w (J w)).1.Mem x=_;unfold vH;split
  ·rfl
  ·obtain⟨s1,s2,s3,s4⟩:=hs.al p;rcases(aJS hb.1.1 hw s1 s2 s3 s4).two with ⟨e,_⟩|⟨_,_,_,_,e⟩
   ·exact me e
   ·exact kn e aa
 ·show cG (DL b w (J w)).1.Mem x=_;unfold DL;split
  ·rfl
  ·rename_i q;obtain⟨_,k2,d,_⟩:=hs.rt p aa;grind[iG,tY]
 ·show cG (DM b w (J w)).1.Mem x=_;unfold DM;split
  ·rfl
  ·rename_i q;simp only;split
   ·rfl
   ·simp only[aVN];split
    ·rename_i lv;refine kn (aJR hb.1.1 hw lv) λz=>?_;have hy:(J w).gK.getD 0 0∈own (J w):=by grind[own,kQ]
     have u1:=h.link hw hi hx;have u2:=h.name hw hw hy;grind
    ·rfl
theorem bGD:∃c',sB Ky (fF b k w (J w)).b (fF b k w (J w)).k c' (upQ q w (qF Ky.length (q w) (J w))) (zQ J w (fF b k w (J w)).j)/\ChW b.Mem (fF b k w (J w)).b.Mem c c' (J w) (fF b k w (J w)).j:=by
 have hc:=hb.1.2.1;have hpc:=(h.tw w hw hB).pc;by_cases hp:9<=(J w).Pc/\(J w).Pc<=13
 ·have e:fF b k w (J w)=⟨(lV b k (J w)).1,(lV b k (J w)).2.1,(lV b k (J w)).2.2,[]⟩:=by unfold fF;grind
  grind[a95]
 have hm:=λi hi x hx=>bI6 h hw hb hB hep aa (i:=i) hi (x:=x) hx;refine⟨c,?_,λi hi _=>⟨rfl,hm i hi⟩,λz=>absurd z hp,λz=>absurd z hp⟩;clear hm;have sm:((J w).Pc≠2/\(J w).Pc≠4)->∀{b':aA} {k':List bX} {j':aI},sB Ky b' k' c q (zQ J w j')->sB Ky b' k' c (upQ q w (qF Ky.length (q w) (J w))) (zQ J w j'):=λz {b' k' j'} s=>by rw[show qF Ky.length (q w) (J w)=q w by unfold qF;grind,a9T];exact s
 unfold fF;generalize hq:upQ q w (qF Ky.length (q w) (J w))=q' at sm ⊢;have P:∀{d:Prop} [Decidable d] {y z:TR},(d->sB Ky y.b y.k c q' (zQ J w y.j))->(¬d->sB Ky z.b z.k c q' (zQ J w z.j))->_:=dL (P:=λr=>sB Ky r.b r.k c q' (zQ J w r.j));exact P (λp=>sm aa (bI5 h hl hw hb hk hJ hB hep p)) λ_=>P (λp=>sm aa (bEI h hl hw hc hJ hB p)) λ_=>P (λp=>hq ▸ bEK h hl hw hc hJ hB p) λ_=>P (λp=>sm aa (a93 h hl hw hb hJ hB p)) λ_=>P (λp=>sm aa (bEL h hl hw hc hJ hB hk.1 p)) λ_=>
  P (λp=>sm aa (bI2 h hl hw hc hJ hB p)) λ_=>P (λp=>absurd p hp) λ_=>P (λp=>sm aa (a4C h hl hw hc hJ hB hk.1 p)) λ_=>P (λp=>sm aa (a4D h hl hw hb hJ hB p)) λ_=>P (λp=>sm aa (bEN h hl hw hb hJ hB p)) λ_=>P (λp=>sm aa (a90 h hl hw hc hJ hB p)) λ_=>P (λp=>sm aa (bEM h hl hw hc hJ hB p)) λ_=>aa
end
structure Sft (Ky:List Int) (q:Int->Nat) (t:Table):Prop where
 sv:∃c,sB Ky t.aA t.aS c q (aE t)
 lk:aM2 t
 ep:EpT t.aA.aC (aE t)
 qk:∀w,fC w->∀b∈rZ t w,∀x∈b.bM,x.Key∈Ky
theorem Ep.a99{c:aC}{J J':Int->aI}(h:EpT c J)(e:∀v,fC v->J' v=J v):EpT c J':=Ep.congr (J:=λv=>sjT (J v)) h λv hv=>by rw[e v hv]
theorem P6(h3:t.aR.length=3)(hw:fC w){l:List aI}{x:aI}(hl:l=t.aR.set w.toNat x){v:Int}(hv:fC v):l.getD v.toNat cZ=zQ (aE t) w x v:=aM3 h3 hl hw hv
theorem bI7(h3:t.eF.length=3){v:Int}(hw:fC w)(hv:fC v)(l:List Batch):((t.eF.set w.toNat ⟨l⟩).getD v.toNat ⟨[]⟩).List=if v=w then l else rZ t v:=by grind[rZ]
def nxQ(Ky:List Int)(q:Int->Nat)(t:Table)(w:Int):Int->Nat:=if(aE t w).bU then upQ q w (qF Ky.length (q w) (aE t w)) else q
theorem Sft.step{q:Int->Nat}(hv:TV t)(hw:fC w)(h:Sft Ky q t):Sft Ky (nxQ Ky q t w) (bH t w):=by
 have h3:=hv.yN.1;have hJ:∀v,fC v->(aE t v).bU=true->JB (aE t v):=λv hv' hB=>(hv.yN.2 _ (zP h3 hv')).resolve_left λe=>by rw[e] at hB;cases hB
 obtain⟨c,hs⟩:=h.sv;have hlk:=h.lk.step hv hw;have hc:=hv.base.1.2.1;unfold nxQ;unfold bH at hlk ⊢;by_cases hB:(aE t w).bU=true
 ·rw[aN hB] at hlk ⊢;rw[aN hB];obtain⟨c',q,_⟩:=bGD hs h.lk hw hv.base hv.bk hJ hB h.ep;have e:∀v,fC v->aE (yL t w (fF t.aA t.aS w (aE t w))) v=zQ (aE t) w (fF t.aA t.aS w (aE t w)).j v:=λv hv'=>P6 h3 hw rfl hv';have sb:=hs.sb w hw;refine⟨⟨c',q.congr e⟩,hlk,Ep.a99 (bLL hw hc h.ep hB (λp=>?_) (λp=>(sb.col p).1) (hs.tw w hw hB).pc) e,h.qk⟩;rcases p with p|⟨p,p'⟩
  ·exact .inl (sb.al p).1
  ·exact .inr (sb.rt p p').2.1
 ·rw[aP hB] at hlk ⊢;rw[aP hB];by_cases hq:(rZ t w).length=0\/t.aG=1000000
  ·grind
  ·rw[aP hq] at hlk ⊢;have hp0:0<(rZ t w).length:=aa
   have er:(rZ t w).getD 0 ⟨false,[]⟩=(rZ t w)[0]:=aj
   have hm:(rZ t w).getD 0 ⟨false,[]⟩∈rZ t w:=aj
   have hn:aE t w=cZ:=(hv.yN.2 _ (zP h3 hw)).resolve_right λj=>hB j.busy;generalize (rZ t w).getD 0 ⟨false,[]⟩=x at hm hlk;have e:∀v,fC v->aE (sA t w x) v=zQ (aE t) w (jG x (t.aG+1)) v:=λv hv'=>P6 h3 hw rfl hv';refine⟨⟨c,(aV8 hs h.lk hw hc hJ hn (h.qk w hw x hm) _).congr e⟩,hlk,Ep.a99 (a98 hw h.ep hn x _) e,λv hv' y hy z hz=>?_⟩;have ev:rZ (sA t w x) v=if v=w then(rZ t w).drop 1 else rZ t v:=bI7 hv.todo.1 hw hv' _;rw[ev] at hy;split at hy
   ·exact h.qk w hw y (RN hy) z hz
   ·exact h.qk v hv' y hy z hz
theorem Sft.zero{l:List aO}(hk:∀q∈l,∀b∈q.List,∀x∈b.bM,x.Key∈Ky):Sft Ky (λ_=>0) (dC l):=by
 have ej:∀w,fC w->aE (dC l) w=cZ:=λw hw=>by rcases(by omega:w=0\/w=1\/w=2) with rfl|rfl|rfl<;>rfl
 have eb:∀i,oS i->dW (dC l).aS i=⟨0,0,0⟩:=λi hi=>by rcases(by omega:i=0\/i=1) with rfl|rfl<;>rfl
 have o:own cZ=[]:=(G7 (.inl ai)).1;have e0:=ej 0 (by simp[fC]);have e1:=ej 1 (by simp[fC]);have e2:=ej 2 (by simp[fC]);refine⟨⟨λ_=>[],rfl,λi hi=>by rw[eb i hi];rfl,λi _=>by simp[mP],λs=>?_,λv hv x hx=>?_,λv hv hB=>?_,λv hv=>by rw[ej v hv];exact .no ai,λv hv=>by rw[ej v hv];exact .no ai⟩,aM2.zero l,?_,λw hw b hb x hx=>?_⟩
 ·have:ind (dC l).aA s=0:=U1 (.inl λq=>by
   have hc:=dN q;obtain⟨h1,h2,_⟩:=qU hc;have h3:=jW.1 (show 0<cH (cX a1L (s/4).toNat) from Int.lt_of_le_of_lt aa h2);rcases(by omega:(s/4).toNat=0\/(s/4).toNat=1\/(s/4).toNat=2\/(s/4).toNat=3\/(s/4).toNat=4\/(s/4).toNat=5) with e|e|e|e|e|e<;>rw[e] at h3<;>exact absurd h3.1 ai)
  simp_all[cnC,cnO]
 ·grind
 ·rw[ej v hv] at hB;cases hB
 ·refine⟨λw hw hB=>?_,λw hw _ o1=>?_⟩
  ·have hB':(sjT (aE (dC l) w)).bU=true:=hB;rw[ej w hw] at hB';cases hB'
  ·rcases(by omega:w=0\/w=1\/w=2) with rfl|rfl|rfl<;>cases o1
 grind[rZ,dC]
def U2(e:Int)(s:Sub):Int:=if s.Pc=0 then 3 else if s.Pc=1 then(if s.E=e then 2 else 5) else if s.E=e then 1 else 4
def RL(s:Sub):Int:=if s.Pc=0 then 5 else if s.Pc=1 then 4-s.B else 1
def U3(s:Sub):Int:=if s.Pc=0 then 8 else if s.Pc=1 then 7 else if s.Pc=2 then 6-s.B else 3
def b8(e:Int)(q:Nat)(j:aI):Int:=
 if j.bU=false then 0
 else if j.Pc=0 then U2 e j.Sub+j.Batch.bM.length*42+15
 else if j.Pc=1 then(j.Batch.bM.length-j.At)*19+j.Batch.bM.length*23+15
 else if j.Pc=2 then(j.Batch.bM.length-j.At)*19-1+j.Batch.bM.length*23+15
 else if j.Pc=3 then(j.Batch.bM.length-j.At-1)*19+2*q+3+j.Batch.bM.length*23+15
 else if j.Pc=4 then(j.Batch.bM.length-j.At-1)*19+2*q+2+j.Batch.bM.length*23+15
 else if j.Pc=5 then(j.Batch.bM.length-j.At-1)*19+1+j.Batch.bM.length*23+15
 else if j.Pc=6 then(if j.K<fP j.aH j.aH.length then 4*(fP j.aH j.aH.length-j.K)-j.Sub.Pc else 0)+j.aH.length*19+14
 else if j.Pc=7 then(if j.K<(pR j.aH).length then 13-j.K else 11)+j.aH.length*19
 else if j.Pc=8 then(if j.K<j.Reads.length then(j.Reads.length:Int)-j.K else 0)+6+j.bG.length+j.aH.length*19
 else if j.Pc=9 then(if j.K<j.aH.length then((j.aH.length:Int)-j.K)*19 else 0)+5+7*j.b9.length+j.bG.length
 else if j.Pc=10 then(j.aH.length-j.K)*19-3+q+7*j.b9.length+j.bG.length
 else if j.Pc=11 then(j.aH.length-j.K)*19-4+7*j.b9.length+j.bG.length
 else if j.Pc=12 then(j.aH.length-j.K)*19-12+7*j.b9.length+j.bG.length
 else if j.Pc=13 then(j.aH.length-j.K)*19-13+7*j.b9.length+j.bG.length
 else if j.Pc=14 then 4+7*j.b9.length+j.bG.length
 else if j.Pc=15 then(if j.K<j.b9.length then 3+7*(j.b9.length-j.K)-j.Sub.Pc else 3)
 else if j.Pc=16 then 4+j.gK.length+j.bG.length
 else if j.Pc=17 then 3+j.gK.length
 else if j.Pc=18 then 2
 else if j.Pc=19 then 1
 else if j.Pc=20 then RL j.Sub+8
 else U3 j.Sub
section
variable {e:Int} {q:Nat} {j:aI} (hB:j.bU=true)
include hB
theorem jc0(hp:j.Pc=0):b8 e q j=U2 e j.Sub+j.Batch.bM.length*42+15:=by simp_all[b8]
theorem jc1(hp:j.Pc=1):b8 e q j=(j.Batch.bM.length-j.At)*19+j.Batch.bM.length*23+15:=by simp_all[b8]
theorem jc2(hp:j.Pc=2):b8 e q j=(j.Batch.bM.length-j.At)*19-1+j.Batch.bM.length*23+15:=by simp_all[b8]
theorem jc3(hp:j.Pc=3):b8 e q j=(j.Batch.bM.length-j.At-1)*19+2*q+3+j.Batch.bM.length*23+15:=by simp_all[b8]
theorem jc4(hp:j.Pc=4):b8 e q j=(j.Batch.bM.length-j.At-1)*19+2*q+2+j.Batch.bM.length*23+15:=by simp_all[b8]
theorem jc5(hp:j.Pc=5):b8 e q j=(j.Batch.bM.length-j.At-1)*19+1+j.Batch.bM.length*23+15:=by simp_all[b8]
theorem jc6(hp:j.Pc=6):b8 e q j=(if j.K<fP j.aH j.aH.length then 4*(fP j.aH j.aH.length-j.K)-j.Sub.Pc else 0)+j.aH.length*19+14:=by simp_all[b8]
theorem jc7(hp:j.Pc=7):b8 e q j=(if j.K<(pR j.aH).length then 13-j.K else 11)+j.aH.length*19:=by simp_all[b8]
theorem jc8(hp:j.Pc=8):b8 e q j=(if j.K<j.Reads.length then(j.Reads.length:Int)-j.K else 0)+6+j.bG.length+j.aH.length*19:=by simp_all[b8]
theorem jc9(hp:j.Pc=9):b8 e q j=(if j.K<j.aH.length then((j.aH.length:Int)-j.K)*19 else 0)+5+7*j.b9.length+j.bG.length:=by simp_all[b8]
theorem bEQ(hp:j.Pc=10):b8 e q j=(j.aH.length-j.K)*19-3+q+7*j.b9.length+j.bG.length:=by simp_all[b8]
theorem bI8(hp:j.Pc=11):b8 e q j=(j.aH.length-j.K)*19-4+7*j.b9.length+j.bG.length:=by simp_all[b8]
theorem bI9(hp:j.Pc=12):b8 e q j=(j.aH.length-j.K)*19-12+7*j.b9.length+j.bG.length:=by simp_all[b8]
theorem bJA(hp:j.Pc=13):b8 e q j=(j.aH.length-j.K)*19-13+7*j.b9.length+j.bG.length:=by simp_all[b8]
theorem bER(hp:j.Pc=14):b8 e q j=4+7*j.b9.length+j.bG.length:=by simp_all[b8]
theorem aZF(hp:j.Pc=15):b8 e q j=(if j.K<j.b9.length then 3+7*(j.b9.length-j.K)-j.Sub.Pc else 3):=by simp_all[b8]
theorem bAA(hp:j.Pc=16):b8 e q j=4+j.gK.length+j.bG.length:=by simp_all[b8]
theorem bJB(hp:j.Pc=17):b8 e q j=3+j.gK.length:=by simp_all[b8]
theorem bES(hp:j.Pc=18):b8 e q j=2:=by simp_all[b8]
theorem bET(hp:j.Pc=19):b8 e q j=1:=by simp_all[b8]
theorem bAB(hp:j.Pc=20):b8 e q j=RL j.Sub+8:=by simp_all[b8]
theorem aZG(hp:j.Pc=21):b8 e q j=U3 j.Sub:=by simp_all[b8]
end
def kC(b:aA)(w:Int):Int:=(dI b.aQ w).length
theorem aEE{x:Sub}{A B:aI}(h:x.gU=false):(if x.gU=false then A else B)=A:=aN h
theorem aQS(hj:JB j):j.bG.length<=2:=by
 have:=yO (l:=j.bG) (m:=[0,1]) hj.held.2 λx hx=>by have:=hj.held.1 x hx;simp;omega
 omega
section
variable {Ky:List Int} {b:aA} {k:List bX} {c:Int->List Int} {q:Int->Nat} {J:Int->aI} {w:Int} (hK:Ky.length<=8) (h:sB Ky b k c q J) (hl:∀v,fC v->ZL k v (J v)) (hw:fC w) (hb:mV b) (hk:k.length=2/\∀x∈k,BkV x) (hJ:∀v,fC v->(J v).bU=true->JB (J v)) (hB:(J w).bU=true) (hep:EpT b.aC J)
include hK h hl hw hb hk hJ hB hep
theorem aS4{e:Int}{n:Nat}{x:Int}(hn:j'.gK.length<=(J w).aH.length/\j'.bG.length<=2):b8 e n (sE j' x)<=6+(J w).aH.length:=by
 cases hb':j'.bU
 ·unfold b8;rw[aN (show(sE j' x).bU=false from hb')];omega
 grind[bAA,sE]
theorem aWC{e:Int}{n:Nat}{v:Int}{is:Bool}(h1:1<=j.Pc/\j.Pc<=5)(t:TW Ky b.Mem k c n j)(hj:JB j)(ha:tZ j):b8 e n (qL j (cD j) v is)<=(j.Batch.bM.length-j.At-1)*19+j.Batch.bM.length*23+15:=by
 obtain⟨t1,t2⟩:=aZE t hj h1 ha v is;have hat:(qL j (cD j) v is).At=j.At+1/\(qL j (cD j) v is).Batch=j.Batch/\(qL j (cD j) v is).bU=j.bU:=by
  have hm:=Y0 j.aH ⟨(cD j).Key,false,G5 (if is then v else 0) (cD j).dM⟩;have:=t.wl;have:=hj.WR.2.1;unfold tZ at ha;unfold qL;split
  ·unfold WN nT UX;grind
  ·exact⟨rfl,rfl,rfl⟩
 rw[jc1 (hat.2.2.trans hj.busy) t2,hat.1,hat.2.1];omega
theorem bAC(hp:(J w).Pc=0\/(J w).Pc=20\/(J w).Pc=21):b8 (oE b w (J w)).1.aC.aK (q w) (oE b w (J w)).2+5*kC (oE b w (J w)).1 w+1<=b8 b.aC.aK (q w) (J w)+5*kC b w/\((oE b w (J w)).1.aC.aK=b.aC.aK\/(J w).Pc=20/\(oE b w (J w)).2.Pc=21):=by
 have hc:=hb.1.2.1;have hj:=hJ w hw hB;have hat:=hj.at_;obtain⟨s0,s20⟩:=aNI hw hc hep hB;rcases hp with p|p|p
 ·obtain⟨k5,d,s⟩:=s0 p;have es:iG b w (J w).Sub=zL b w (J w).Sub:=by simp_all[iG]
  obtain⟨cl,e,e1,e2⟩:=aZC hc hw (J w).Sub;unfold oE;rw[es,aN p,jc0 hB p];have hr:kC (zL b w (J w).Sub).1 w=kC b w:=by rw[e];rfl
  have he:(zL b w (J w).Sub).1.aC.aK=b.aC.aK:=aj
  simp only[hr,he];refine⟨?_,.inl trivial⟩;rcases s with z|⟨z,z1,z2⟩|⟨z,z1⟩
  ·have e3:(zL b w (J w).Sub).2={(J w).Sub with Pc:=1,E:=b.aC.aK}:=by unfold zL;grind
   rw[e3,aEE (by exact d),jc0 (by exact hB) (by exact p)];grind[U2]
  ·have e3:(zL b w (J w).Sub).2={(J w).Sub with Pc:=2}:=by simp_all[RI,zL]
   rw[e3,aEE (by exact d),jc0 (by exact hB) (by exact p)];grind[U2]
  ·by_cases y:b.aC.aK=(J w).Sub.E
   ·have e3:(zL b w (J w).Sub).2=yJ (J w).Sub 0:=by unfold zL;grind
    rw[e3,aP (by simp[yJ]),jc1 (by exact hB) rfl];grind[U2]
   ·have e3:(zL b w (J w).Sub).2={(J w).Sub with Pc:=0}:=by unfold zL;grind
    rw[e3,aEE (by exact d),jc0 (by exact hB) (by exact p)];unfold U2;grind
 ·obtain⟨k3,d,s⟩:=s20 p;have es:iG b w (J w).Sub=fA b (J w).Sub:=by grind[iG]
  have hr:kC (fA b (J w).Sub).1 w=kC b w:=by obtain⟨cl,e,_⟩:=aZD hc (J w).Sub;rw[e];rfl
  unfold oE;rw[es,aP (show ¬(J w).Pc=0 by omega),aN p,bAB hB p];simp only[hr];have dn:∀{x:Sub} {b':aA},x.gU=true->1<=RL (J w).Sub->b8 b'.aC.aK (q w) (if x.gU=false then {J w with Sub:=x} else {J w with Pc:=21,Sub:=zN 4 0})+5*kC b w+1<=RL (J w).Sub+8+5*kC b w/\(b'.aC.aK=b.aC.aK\/(J w).Pc=20/\(if x.gU=false then {J w with Sub:=x} else {J w with Pc:=21,Sub:=zN 4 0}).Pc=21):=λ{x b'} hx h1=>by rw[aP (by simp[hx]),aZG (by exact hB) rfl];grind[U3,zN]
  rcases s with z|⟨_,⟨z,z1⟩|⟨z,z1⟩⟩
  ·have e3:fA b (J w).Sub=(b,{(J w).Sub with Pc:=1,E:=b.aC.aK,B:=0}):=by simp_all[fA]
   rw[e3,aEE (by exact d),bAB (by exact hB) (by exact p)];grind[RL]
  ·by_cases y:(HN b.aC (J w).Sub.B (J w).Sub.E).2=true
   ·have e3:fA b (J w).Sub=({b with aC:=(HN b.aC (J w).Sub.B (J w).Sub.E).1},{(J w).Sub with Pc:=if(J w).Sub.B=2 then 2 else 1,B:=(J w).Sub.B+1}):=by simp_all[fA]
    rw[e3,aEE (by exact d),bAB (by exact hB) (by exact p)];grind[aMR,RL]
   ·have e3:(fA b (J w).Sub).2=yJ (J w).Sub 8:=by simp_all[fA]
    rw[e3];exact dn rfl (by unfold RL;omega)
  ·have e3:(fA b (J w).Sub).2.gU=true:=by unfold fA;rw[gR,gR,aN z];rfl
   exact dn e3 (by simp_all[RL])
 ·obtain⟨k4,d,s⟩:=(h.sb w hw).col p;have es:iG b w (J w).Sub=cO b w (J w).Sub:=by simp_all[iG]
  have hcl:(cO b w (J w).Sub).1.aC=b.aC:=by grind[OA]
  unfold oE;rw[es,aP (show ¬(J w).Pc=0 by omega),aP (show ¬(J w).Pc=20 by omega),aZG hB p];simp only[hcl];refine⟨?_,.inl trivial⟩;rcases s with z|⟨_,⟨z,r0⟩|⟨z,hB2,ha,hr⟩|⟨z,ha,hr⟩⟩
  ·have e:cO b w (J w).Sub=(b,{(J w).Sub with Pc:=1,E:=b.aC.aK,Row:=0}):=by simp_all[cO]
   rw[e,aEE (by exact d),aZG (by exact hB) (by exact p)];grind[U3]
  ·by_cases y:rY (dI b.aQ w) (J w).Sub.E (J w).Sub.Row.toNat<(dI b.aQ w).length
   ·have e:cO b w (J w).Sub=(b,{(J w).Sub with Pc:=2,Row:=(rY (dI b.aQ w) (J w).Sub.E (J w).Sub.Row.toNat:Int),B:=0,H:=(ML (dI b.aQ w) (rY (dI b.aQ w) (J w).Sub.E (J w).Sub.Row.toNat:Int)).Handle}):=by simp_all[cO]
    rw[e,aEE (by exact d),aZG (by exact hB) (by exact p)];grind[U3]
   ·have e:cO b w (J w).Sub=(b,yJ (J w).Sub 0):=by simp_all[cO,aP]
    rw[e,aP (by simp[yJ]),bET (by exact hB) rfl];grind[U3]
  ·have hH:(J w).Sub.H≠0:=by have:=(hb.2 _ (P3 hb.1.2.2.1 hw (aD5 ⟨ha.1,ha.2.1⟩))).1.1;rw[ha.2.2] at this;grind[lK]
   have e:cO b w (J w).Sub=(b,{(J w).Sub with Pc:=if(J w).Sub.B=2 then 3 else 2,B:=(J w).Sub.B+1}):=by unfold cO;rw[gR,gR,aN z,aN ⟨hB2,ha⟩,aP (by rw[bGC h.hz hB2];omega)]
   rw[e,aEE (by exact d),aZG (by exact hB) (by exact p)];unfold U3;grind
  ·have e:cO b w (J w).Sub=({b with Mem:=pU b.Mem w (J w).Sub.H,aQ:=b.aQ.set w.toNat ⟨(dI b.aQ w).eraseIdx (J w).Sub.Row.toNat⟩},{(J w).Sub with Pc:=1,Out:=bE ((J w).Sub.Out+1)}):=by simp_all[cO]
   rw[e,aEE (by exact d),aZG (by exact hB) (by exact p)];have h3:=hb.1.2.2.1.1;have er:kC ({b with Mem:=pU b.Mem w (J w).Sub.H,aQ:=b.aQ.set w.toNat ⟨(dI b.aQ w).eraseIdx (J w).Sub.Row.toNat⟩}:aA) w=kC b w-1:=by have h1:=ha.1;have h2:=ha.2.1;unfold kC dI at *;grind
   simp only[er];unfold U3;grind
end
section
variable {Ky:List Int} {b:aA} {k:List bX} {c:Int->List Int} {q:Int->Nat} {J:Int->aI} {w:Int} (hK:Ky.length<=8) (h:sB Ky b k c q J) (hl:∀v,fC v->ZL k v (J v)) (hw:fC w) (hb:mV b) (hk:k.length=2/\∀x∈k,BkV x) (hJ:∀v,fC v->(J v).bU=true->JB (J v)) (hB:(J w).bU=true) (hep:EpT b.aC J)
include hK h hl hw hb hk hJ hB hep
theorem a4F{e:Int}{n:Nat}(hp:(J w).Pc=1):b8 e n (qH (J w))+1<=b8 e n (J w):=by
 have t:=h.tw w hw hB;have hj:=hJ w hw hB;have hat:=hj.at_;have t1:TW Ky b.Mem k c n (J w):={t with st:=λz=>absurd z aa};rw[jc1 hB hp];unfold qH;split
 ·rename_i ha;split
  ·have h6:=hj.WR.2.1;have wl:=t.wl;have hlen:=Y0 (J w).aH ⟨(cD (J w)).Key,(cD (J w)).Kind == 3,(cD (J w)).dM⟩;unfold tZ at ha;unfold nT;rw[aP (show ¬6<(vF (J w).aH ⟨(cD (J w)).Key,(cD (J w)).Kind == 3,(cD (J w)).dM⟩).length by omega),aN rfl,jc1 (by exact hB) (by exact hp)];grind
  ·split
   ·have:=aWC hK h hl hw hb hk hJ hB hep (e:=e) (n:=n) (v:=(OT (J w).aH (cD (J w)).Key).1.dM) (is:=!(OT (J w).aH (cD (J w)).Key).1.HC) aa t1 hj ha;omega
   ·rw[jc2 (by exact hB) rfl];grind
 ·rename_i ha;have wl:=t.wl;have pl:=S5 (J w).aH (J w).aH.length;grind[jc6,zN]
theorem a4G{e:Int}(hp:2<=(J w).Pc/\(J w).Pc<=5):b8 e (qF Ky.length (q w) (J w)) (iM b k w (J w))+1<=b8 e (q w) (J w):=by
 have t:=h.tw w hw hB;have hj:=hJ w hw hB;have hat:=hj.at_;have ha:=t.hc hp;have wl:=t.wl;have h2:=aQS hj;have hN:=t.nO aa;have ab:∀{j':aI} {x:Int},j'.gK=(J w).gK/\j'.bG=(J w).bG->∀n,b8 e n (sE j' x)<=6+(J w).aH.length:=λ{j' x} z n=>aS4 hK h hl hw hb hk hJ hB hep aj;have ha':(J w).At<(J w).Batch.bM.length:=ha;unfold iM;by_cases p2:(J w).Pc=2
 ·rw[aN p2,jc2 hB p2];split
  ·grind
  ·have hq:qF Ky.length (q w) (J w)<=7:=by simp_all[qF]
   split
   ·rw[jc5 (by exact hB) rfl];grind
   ·rw[jc3 (by exact hB) rfl];grind
 rw[aP p2];by_cases p3:(J w).Pc=3
 ·rw[aN p3,jc3 hB p3,jc4 (by exact hB) rfl,show qF Ky.length (q w) (J w)=q w by simp_all[qF]];grind
 rw[aP p3];by_cases p4:(J w).Pc=4
 ·rw[aN p4,jc4 hB p4];split
  ·grind
  ·rename_i hpn;have hpin:mB b.aC w:=Classical.byContradiction hpn;obtain⟨r,⟨a,la⟩,a5⟩:=h.rd w hw (.inr p4) hpin;obtain⟨_,a6⟩:=a5 p4;by_cases z:(J w).Node.Key=(cD (J w)).Key\/MN (J w).Node=0
   ·rw[aN z,jc5 (by exact hB) rfl];grind
   ·rw[aP z,jc3 (by exact hB) rfl];have hq:qF Ky.length (q w) (J w)=q w-1:=by simp_all[qF]
    grind[MN]
 rw[aP p4,jc5 hB aa];split
 ·grind
 split
 ·grind
 have tr:TW Ky b.Mem k c (qF Ky.length (q w) (J w)) {J w with Reads:=(rX (J w).Reads (J w).bX (J w).eJ).1}:={t with st:=λz=>absurd z aj};have:=aWC hK h hl hw hb hk hJ hB hep (e:=e) (v:=(J w).Node.dM) (is:=(J w).Found) aj tr (hj.spt _ _ hj.bkt) ha;exact aJY (Int.add_le_add_right this 1) aj
theorem aZH(hp:(J w).Pc=6):b8 b.aC.aK (q w) (vH b w (J w)).2+1<=b8 b.aC.aK (q w) (J w):=by
 have t:=h.tw w hw hB;have hj:=hJ w hw hB;have h2:=aQS hj;have hn6:=t.n6 hp;have pl:=S5 (J w).aH (J w).aH.length;obtain⟨s1,s2,s3,s4⟩:=(h.sb w hw).al hp;rw[jc6 hB hp];unfold vH;by_cases c1:fP (J w).aH (J w).aH.length<=(J w).K
 ·rw[aN c1,jc7 (by exact hB) rfl];grind
 rw[aP c1,aN (show(J w).K<_ by omega)];obtain⟨q1,q2,q3,q4⟩:=aJS hb.1.1 hw s1 s2 s3 s4;have hwl:=hj.wr.1;simp only;rcases q4 with ⟨em,⟨d,e⟩|⟨e1,e2⟩⟩|⟨d,e,wk,tk,kn⟩
 ·rw[aP aj,aN (.inl aa)];exact aJY (Int.add_le_add_right (aS4 hK h hl hw hb hk hJ hB hep (e:=b.aC.aK) (n:=q w) (j':={J w with Sub:=(iG b w (J w).Sub).2}) (x:=(iG b w (J w).Sub).2.Code) ⟨aj,h2⟩) 1) aa
 ·rw[aN aj,jc6 (by exact hB) (by exact hp),e2];grind
 ·rw[aP aj,aP (by
   rintro(q|q|q)
   ·exact q e
   ·exact q wk.1.1
   ·omega),jc6 (by exact hB) (by exact hp)]
  grind[zN]
theorem a4H{e:Int}{n:Nat}(hp:(J w).Pc=7):b8 e n (oD k w (J w)).2.1+1<=b8 e n (J w):=by
 have t:=h.tw w hw hB;have hj:=hJ w hw hB;have h2:=aQS hj;have hr2:=hj.rd2;have hn7:=(t.n7 aa).1;have pl:=S5 (J w).aH (J w).aH.length;have tl:=aSJ (J w).aH;have ab:∀x,b8 e n (sE (J w) x)<=6+(J w).aH.length:=λx=>aS4 hK h hl hw hb hk hJ hB hep ⟨aa,h2⟩;rw[jc7 hB hp];unfold oD;by_cases c1:(J w).K<(pR (J w).aH).length
 ·rw[aN c1,aN c1];have hk0:=hj.k;split
  ·grind
  split
  ·grind
  have h1:(IG (J w)).bG.length<=2:=by
   have hi:(J w).K.toNat<(pR (J w).aH).length:=aa
   have er:fU (J w)=(pR (J w).aH)[(J w).K.toNat]:=by grind[fU]
   have hbk:0<=fU (J w)/\fU (J w)<=1:=by grind[SY,dB]
   unfold IG;simp only;split
   ·exact h2
   ·rename_i hm;have:=yO (l:=(J w).bG++[fU (J w)]) (m:=[0,1]) (aJ2.2 ⟨hj.held.2,ae,λa ha y hy=>aj⟩) λx hx=>by
     rcases dE.1 hx with hx|hx
     ·have:=hj.held.1 x hx;simp;omega
     grind
    omega
  split
  ·grind[jc8,IG]
  ·rw[jc7 (by exact hB) (by exact hp)];unfold IG;grind
 ·rw[aP c1,aP c1,jc8 (by exact hB) rfl];grind
theorem bAD{e:Int}{n:Nat}(hp:(J w).Pc=8):b8 e n (KH k w (J w))+1<=b8 e n (J w):=by
 have t:=h.tw w hw hB;have hj:=hJ w hw hB;have h2:=aQS hj;have hO:=t.oO aa;have hn7:=(t.n7 aa).1;have pl:=S5 (J w).aH (J w).aH.length;rw[jc8 hB hp];unfold KH;by_cases c1:((J w).Reads.length:Int)<=(J w).K
 ·rw[aN c1,jc9 (by exact hB) rfl];grind
 rw[aP c1,aN (show(J w).K<_ by omega)];grind[bAA,sE,jc8]
theorem bAE{e:Int}{n:Nat}(hp:(J w).Pc=14\/(J w).Pc=16):b8 e n (AO k (J w)).2+1<=b8 e n (J w):=by
 unfold AO;by_cases c1:0<(J w).bG.length
 ·rw[aN c1];grind[bER,bAA]
 ·rw[aP c1];rcases hp with p|p
  ·rw[gR,bER hB p];unfold KI;by_cases z:(0:Int)<(J w).b9.length
   ·rw[aN z,aZF (by exact hB) rfl];simp only[zN];omega
   simp_all[aZF]
  ·rw[aN p,bAA hB p,bJB (by exact hB) rfl];grind
theorem bAF{e:Int}{n:Nat}(hp:(J w).Pc=15):b8 e n (DL b w (J w)).2+5*kC (DL b w (J w)).1 w+1<=b8 e n (J w)+5*kC b w:=by
 have hj:=hJ w hw hB;unfold DL;rw[aZF hB hp];by_cases c1:((J w).b9.length:Int)<=(J w).K
 ·rw[aN c1,bES (by exact hB) rfl,aP (show ¬(J w).K<_ by omega)];grind
 rw[aP c1,aN (show(J w).K<_ by omega)];obtain⟨s0,s1,s2,s3,s4⟩:=(h.sb w hw).rt hp aa;have es:iG b w (J w).Sub=tY b w (J w).Sub:=by grind[iG]
 rw[es];rcases s4 with p0|⟨p1,e0,e1⟩
 ·have er:tY b w (J w).Sub=(b,{(J w).Sub with Pc:=1,E:=b.aC.aK}):=by simp_all[tY]
  rw[er,aP (by simp[s2]),aZF (by exact hB) (by exact hp)];grind
 ·have hr:kC (tY b w (J w).Sub).1 w<=kC b w+1/\(tY b w (J w).Sub).2.gU=true:=by
   have h3:=hb.1.2.2.1.1;unfold tY;rw[gR,aN p1,aN ⟨e0,e1⟩];split
   ·refine⟨?_,rfl⟩;unfold kC dI;grind
   ·exact⟨aj,rfl⟩
  rw[aN hr.2];unfold KI;by_cases z:(J w).K+1<(J w).b9.length
  ·rw[aN z,aZF (by exact hB) (by exact hp)];simp only[zN];omega
  ·rw[aP z,aZF (by exact hB) (by exact hp)];grind
end
section
variable {Ky:List Int} {b:aA} {k:List bX} {c:Int->List Int} {q:Int->Nat} {J:Int->aI} {w:Int} (hK:Ky.length<=8) (h:sB Ky b k c q J) (hl:∀v,fC v->ZL k v (J v)) (hw:fC w) (hb:mV b) (hk:k.length=2/\∀x∈k,BkV x) (hJ:∀v,fC v->(J v).bU=true->JB (J v)) (hB:(J w).bU=true) (hep:EpT b.aC J)
include hK h hl hw hb hk hJ hB hep
theorem bAG{e:Int}(hp:9<=(J w).Pc/\(J w).Pc<=13):b8 e (qF Ky.length (q w) (J w)) (lV b k (J w)).2.2+1<=b8 e (q w) (J w):=by
 have t:=h.tw w hw hB;have hj:=hJ w hw hB;have hk0:=hj.k;generalize hn:qF Ky.length (q w) (J w)=n;have place:∀{j1:aI},j1.bU=true->(J w).K<(J w).aH.length->j1.aH=(J w).aH/\j1.K=(J w).K/\j1.bG=(J w).bG->b8 e n (MO j1 (mO (J w)))<=((J w).aH.length-(J w).K)*19-12+7*j1.b9.length+(J w).bG.length:=λ{j1} hb1 hlt ⟨e1,e2,e3⟩=>by grind[MO,jc9,bI9]
 unfold lV;by_cases c1:((J w).aH.length:Int)<=(J w).K
 ·have p9:(J w).Pc=9:=by have:=t.k9;omega
  rw[aN c1,jc9 hB p9,bER (by exact hB) rfl,aP (show ¬(J w).K<_ by omega)];grind
 rw[aP c1];have hlt:(J w).K<(J w).aH.length:=aa
 by_cases p9:(J w).Pc=9
 ·rw[aN p9,jc9 hB p9,aN hlt];have hq:n<=7:=by rw[<-hn];unfold qF;grind
  simp only;split
  ·grind
  ·rw[bEQ (by exact hB) rfl];grind
 rw[aP p9];by_cases p10:(J w).Pc=10
 ·rw[aN p10,bEQ hB p10];simp only;obtain⟨A,B,e1,⟨e2,e3⟩,e4⟩:=t.st (.inl p10);have hq:n=q w-1:=by simp_all[qF]
  split
  ·rw[bI8 (by exact hB) rfl];grind
  split
  ·grind
  ·rename_i z1 z2;rw[bEQ (by exact hB) (by exact p10),hq];have hi:(J w).K.toNat<(J w).aH.length:=aa
   have er:mO (J w)=(J w).aH[(J w).K.toNat]:=by grind[mO]
   have hx:=hj.wr.2.1 _ (show mO (J w)∈(J w).aH by grind);have hbk:oS (bi (J w)):=by unfold bi jD;omega
   have hch:=h.ch _ hbk;rw[e1] at hch;have hH:=hch.split;rw[aS2 hH.2.1,aNF hH.2.2.1] at z2;have:1<=B.length:=by
    match B,hH.2.2.2 with
    |[],y=>exact absurd y z2
    |_::_,_=>simp
   grind
 rw[aP p10];by_cases p11:(J w).Pc=11
 ·rw[aN p11,bI8 hB p11];grind[MP]
 rw[aP p11];obtain⟨nm,_⟩:=aNB h hw t hj aa;have hlen:¬((J w).gK.length:Int)<=fP (J w).aH (J w).K:=λz=>by simp_all[fP,aB6,aEC]
 rw[aP hlen];by_cases p12:(J w).Pc=12
 ·rw[aN p12,bI9 hB p12,bJA (by exact hB) rfl];grind
 ·rw[aP p12,bJA hB aa,jc9 (by exact hB) rfl];grind
theorem bEU:b8 (fF b k w (J w)).b.aC.aK (qF Ky.length (q w) (J w)) (fF b k w (J w)).j+5*kC (fF b k w (J w)).b w+1<=b8 b.aC.aK (q w) (J w)+5*kC b w/\((fF b k w (J w)).b.aC.aK=b.aC.aK\/(J w).Pc=20/\(fF b k w (J w)).j.Pc=21):=by
 have hc:=hb.1.2.1;have t:=h.tw w hw hB;have hpc:=t.pc;have sm:((J w).Pc≠2/\(J w).Pc≠4/\(J w).Pc≠9/\(J w).Pc≠10)->qF Ky.length (q w) (J w)=q w:=λz=>by simp_all[qF]
 generalize hn:qF Ky.length (q w) (J w)=n at sm;have fl:∀{b':aA} {k':List bX} {j':aI} {l:List iD},b'.aC.aK=b.aC.aK->kC b' w=kC b w->b8 b.aC.aK n j'+1<=b8 b.aC.aK (q w) (J w)->b8 (⟨b',k',j',l⟩:TR).b.aC.aK n (⟨b',k',j',l⟩:TR).j+5*kC (⟨b',k',j',l⟩:TR).b w+1<=b8 b.aC.aK (q w) (J w)+5*kC b w/\((⟨b',k',j',l⟩:TR).b.aC.aK=b.aC.aK\/(J w).Pc=20/\(⟨b',k',j',l⟩:TR).j.Pc=21):=λ{b' k' j' l} e1 e2 e3=>⟨aj,.inl e1⟩;unfold fF;have P:∀{c:Prop} [Decidable c] {x y:TR},(c->b8 x.b.aC.aK n x.j+5*kC x.b w+1<=b8 b.aC.aK (q w) (J w)+5*kC b w/\(x.b.aC.aK=b.aC.aK\/(J w).Pc=20/\x.j.Pc=21))->(¬c->b8 y.b.aC.aK n y.j+5*kC y.b w+1<=b8 b.aC.aK (q w) (J w)+5*kC b w/\(y.b.aC.aK=b.aC.aK\/(J w).Pc=20/\y.j.Pc=21))->_:=
  dL (P:=λr=>b8 r.b.aC.aK n r.j+5*kC r.b w+1<=b8 b.aC.aK (q w) (J w)+5*kC b w/\(r.b.aC.aK=b.aC.aK\/(J w).Pc=20/\r.j.Pc=21))
 refine P (λp=>?_) λ_=>P (λp=>fl rfl rfl (by rw[sm aa];exact a4F hK h hl hw hb hk hJ hB hep p)) λ_=>P (λp=>fl rfl rfl (hn ▸ a4G hK h hl hw hb hk hJ hB hep p)) λ_=>P (λp=>?_) λ_=>P (λp=>fl rfl rfl (by rw[sm aa];exact a4H hK h hl hw hb hk hJ hB hep p)) λ_=>P (λp=>fl rfl rfl (by rw[sm aa];exact bAD hK h hl hw hb hk hJ hB hep p)) λ_=>
  P (λp=>fl (b':=(lV b k (J w)).1) (k':=(lV b k (J w)).2.1) (j':=(lV b k (J w)).2.2) (l:=[]) (by grind[lV]) (by grind[lV,kC]) (hn ▸ bAG hK h hl hw hb hk hJ hB hep p)) λ_=>P (λp=>fl rfl rfl ?_) λ_=>P (λp=>?_) λ_=>P (λp=>?_) λ_=>P (λp=>?_) λ_=>P (λp=>fl rfl rfl ?_) λ_=>aa
 ·rw[sm aa];obtain⟨a1,a2⟩:=bAC hK h hl hw hb hk hJ hB hep p;grind
 ·obtain⟨s1,s2,s3,s4⟩:=(h.sb w hw).al p;obtain⟨q1,q2,q3,_⟩:=aJS hb.1.1 hw s1 s2 s3 s4;have e1:(vH b w (J w)).1.aC=b.aC:=by grind[vH]
  have e2:(vH b w (J w)).1.aQ=b.aQ:=by grind[vH]
  exact fl (b':=(vH b w (J w)).1) (k':=k) (j':=(vH b w (J w)).2) (l:=[]) (cA aC.aK e1) (cA (λl=>((dI l w).length:Int)) e2) (by rw[sm aa];exact aZH hK h hl hw hb hk hJ hB hep p)
 ·rw[sm aa];exact bAE hK h hl hw hb hk hJ hB hep p
 ·have hcl:(DL b w (J w)).1.aC=b.aC:=by
   unfold DL;split
   ·rfl
   ·exact OA (by have:=(h.sb w hw).rt p aa;omega)
  refine⟨?_,.inl (by rw[hcl])⟩;simp only;rw[hcl,sm aa];exact bAF hK h hl hw hb hk hJ hB hep p
 ·have e:(DM b w (J w)).1.aC=b.aC/\(DM b w (J w)).1.aQ=b.aQ:=by grind[DM]
  refine fl (b':=(DM b w (J w)).1) (k':=k) (j':=(DM b w (J w)).2) (l:=[]) (cA aC.aK e.1) (cA (λl=>((dI l w).length:Int)) e.2) ?_;grind[bJB,DM,bES]
 ·refine fl (b':={b with aC:=(LB b.aC w).1}) (k':=k) (j':={J w with Pc:=19}) (l:=[]) (aV6 hc hw).1 rfl ?_;grind[bES,bET]
 ·rw[bET hB p];unfold b8;rw[aN (show cZ.bU=false from rfl)];omega
end
theorem a4I(e e':Int)(q:Nat)(j:aI):b8 e' q j<=b8 e q j+3:=by
 cases hb:j.bU
 ·simp_all[b8]
 ·by_cases p:j.Pc=0
  ·rw[jc0 hb p,jc0 hb p];grind[U2]
  ·have:b8 e' q j=b8 e q j:=by unfold b8;grind
   omega
def bC(x:Batch):Int:=if x.Collect then 14 else x.bM.length*42+19
def isC(x:Batch):Int:=if x.Collect then 1 else 0
def Y2(f:Batch->Int):List Batch->Int
 |[]=>0
 |x::r=>f x+Y2 f r
def zX(t:Table)(w:Int):Int:=Y2 isC (rZ t w)+if(aE t w).bU=true/\(aE t w).Pc=20 then 1 else 0
def aWD(q:Int->Nat)(t:Table)(w:Int):Int:=b8 t.aA.aC.aK (q w) (aE t w)+5*kC t.aA w+Y2 bC (rZ t w)
def MQ(f:Int->Int):Int:=f 0+f 1+f 2
def aEF(q:Int->Nat)(t:Table)(w:Int):Int:=aWD q t w+3*(MQ (zX t)-zX t w)
def Y3(t:Table)(w:Int):Prop:=(aE t w).bU=false/\rZ t w=[]
theorem a4J(b:aA)(w:Int)(s:Sub):(iG b w s).1.aQ=b.aQ\/∃x,(iG b w s).1.aQ=b.aQ.set w.toNat x:=by grind[N7,YU,fA,zL,tY,cO,iG]
theorem bAH(b:aA)(k:List bX)(w:Int)(j:aI):(fF b k w j).b.aQ=b.aQ\/∃x,(fF b k w j).b.aQ=b.aQ.set w.toNat x:=by
 have hs:=a4J b w j.Sub;unfold fF;have P:∀{c:Prop} [Decidable c] {x y:TR},(c->(x.b.aQ=b.aQ\/∃z,x.b.aQ=b.aQ.set w.toNat z))->(¬c->(y.b.aQ=b.aQ\/∃z,y.b.aQ=b.aQ.set w.toNat z))->_:=dL (P:=λr=>r.b.aQ=b.aQ\/∃z,r.b.aQ=b.aQ.set w.toNat z);refine P (λ_=>hs) λ_=>P (λ_=>.inl rfl) λ_=>P (λ_=>.inl rfl) λ_=>P (λ_=>?_) λ_=>P (λ_=>.inl rfl) λ_=>P (λ_=>.inl rfl) λ_=>P (λ_=>.inl (by grind[lV])) λ_=>P (λ_=>.inl rfl) λ_=>P (λ_=>?_) λ_=>P (λ_=>.inl (by grind[DM])) λ_=>P (λ_=>.inl rfl) λ_=>P (λ_=>.inl rfl) λ_=>.inl rfl
 ·unfold vH;split;exact .inl rfl;exact hs
 ·unfold DL;split;exact .inl rfl;exact hs
theorem aEG{f:Batch->Int}(h:∀x,0<=f x):∀l,0<=Y2 f l
 |[]=>KJ _
 |x::r=>Int.add_nonneg (h x) (aEG h r)
theorem bJC(x:Batch):0<=bC x:=by grind[bC]
theorem a10(x:Batch):0<=isC x:=by grind[isC]
theorem a4K(t:Table)(w:Int):0<=zX t w:=by have:=aEG a10 (rZ t w);grind[zX]
theorem bEV(f:Int->Int)(h:∀v,0<=f v)(hw:fC w):f w<=MQ f:=by grind[MQ]
theorem aWE{f g:Int->Int}(hw:fC w)(h:∀v,fC v->v≠w->g v=f v):MQ g-g w=MQ f-f w:=by grind[MQ]
section
variable {Ky:List Int} {q:Int->Nat} {t:Table} (hK:Ky.length<=8) (hv:TV t) (hs:Sft Ky q t) {w:Int} (hw:fC w) (hser:t.aG≠1000000)
include hK hv hs hw
theorem a4L(hB:(aE t w).bU=true):1<=b8 t.aA.aC.aK (q w) (aE t w):=by
 have hj:JB (aE t w):=(hv.yN.2 _ (zP hv.yN.1 hw)).resolve_left λe=>by rw[e] at hB;cases hB
 obtain⟨c,h⟩:=hs.sv;have T:=h.tw w hw hB;have hpc:=T.pc;have hat:=hj.at_;have sb:=h.sb w hw;have hc:=hv.base.1.2.1;obtain⟨s0,s20⟩:=aNI hw hc hs.ep hB;have tl:=aSJ (aE t w).aH;have hk:=hj.k;rcases(by omega:(aE t w).Pc=0\/(aE t w).Pc=1\/(2<=(aE t w).Pc/\(aE t w).Pc<=5)\/(aE t w).Pc=6\/(aE t w).Pc=7\/(aE t w).Pc=8\/(aE t w).Pc=9\/(10<=(aE t w).Pc/\(aE t w).Pc<=13)\/(aE t w).Pc=14\/(aE t w).Pc=15\/(aE t w).Pc=16\/(aE t w).Pc=17\/(aE t w).Pc=18\/(aE t w).Pc=19\/(aE t w).Pc=20\/(aE t w).Pc=21) with p|p|p|p|p|p|p|p|p|p|p|p|p|p|p|p
 ·rw[jc0 hB p];grind[U2]
 ·grind[jc1]
 ·have ha:(aE t w).At<(aE t w).Batch.bM.length:=T.hc p;grind[jc2,jc3,jc4,jc5]
 ·rw[jc6 hB p];have:=(sb.al p).2.2.1;omega
 ·grind[jc7]
 ·grind[jc8]
 ·grind[jc9]
 ·have:=T.k9 p;grind[bEQ,bI8,bI9,bJA]
 ·grind[bER]
 ·rw[aZF hB p];split
  ·have:=sb.rt p aa;omega
  ·omega
 ·grind[bAA]
 ·grind[bJB]
 ·grind[bES]
 ·grind[bET]
 ·grind[bAB,RL]
 ·rw[aZG hB p];obtain⟨_,_,z⟩:=sb.col p;grind[U3]
theorem bEW(h:¬Y3 t w):0<=aEF q t w:=by
 have a:=aEG bJC (rZ t w);have b:=bEV (zX t) (a4K t) hw;have r:0<=kC t.aA w:=Int.natCast_nonneg _;unfold aEF aWD;by_cases hB:(aE t w).bU=true
 ·have:=a4L hK hv hs hw hB;omega
 ·have:b8 t.aA.aC.aK (q w) (aE t w)=0:=by simp_all[b8]
  omega
theorem aQT(h:Y3 t w):bH t w=t/\nxQ Ky q t w=q:=by unfold bH nxQ;rw[aP (by rw[h.1];decide),aN (.inl (by rw[h.2];rfl)),aP (by rw[h.1];decide)];simp
include hser
theorem aWF(h:¬Y3 t w):aEF (nxQ Ky q t w) (bH t w) w+1<=aEF q t w/\∀v,fC v->v≠w->aEF (nxQ Ky q t w) (bH t w) v<=aEF q t v/\(Y3 t v->Y3 (bH t w) v):=by
 have h3:=hv.yN.1;have hJ:∀v,fC v->(aE t v).bU=true->JB (aE t v):=λv hv' hB=>(hv.yN.2 _ (zP h3 hv')).resolve_left λe=>by rw[e] at hB;cases hB
 obtain⟨c,sv⟩:=hs.sv;by_cases hB:(aE t w).bU=true
 ·have est:bH t w=yL t w (fF t.aA t.aS w (aE t w)):=by simp_all[bH]
  have enq:nxQ Ky q t w=upQ q w (qF Ky.length (q w) (aE t w)):=aN hB;obtain⟨a1,a2⟩:=bEU hK sv hs.lk hw hv.base hv.bk hJ hB hs.ep;have hpc:=(sv.tw w hw hB).pc;have hdp:(fF t.aA t.aS w (aE t w)).j.bU=true/\(fF t.aA t.aS w (aE t w)).j.Pc=20->(aE t w).Pc=20:=λz=>by
   by_cases p:1<=(aE t w).Pc/\(aE t w).Pc<=19
   ·rcases a97 (b:=t.aA) (k:=t.aS) (w:=w) p with e|e
    ·rw[e] at z;cases z.1
    ·omega
   ·by_cases p0:(aE t w).Pc=20
    ·exact p0
    ·exfalso;have e:(fF t.aA t.aS w (aE t w)).j=(oE t.aA w (aE t w)).2:=by unfold fF;rw[aN aa]
     grind[oE]
  have hrow:=bAH t.aA t.aS w (aE t w);rw[est,enq];generalize fF t.aA t.aS w (aE t w)=r at a1 a2 hdp hrow;have ej:∀v,fC v->aE (yL t w r) v=if v=w then r.j else aE t v:=λv hv'=>P6 h3 hw rfl hv';have eq:∀v,rZ (yL t w r) v=rZ t v:=λ_=>rfl;have er:∀v,fC v->v≠w->kC r.b v=kC t.aA v:=λv hv' hn=>by
   unfold kC;rcases hrow with e|⟨x,e⟩
   ·rw[e]
   ·rw[e,aB0 hv.base.1.2.2.1.1 hw hv' hn]
  have bo:∀v,fC v->v≠w->zX (yL t w r) v=zX t v:=λv hv' hn=>by simp_all[zX]
  have bw:zX (yL t w r) w<=zX t w/\(r.b.aC.aK≠t.aA.aC.aK->zX (yL t w r) w+1<=zX t w):=by unfold zX;grind
  have s1:=aWE hw bo;refine⟨?_,λv hv' hn=>⟨?_,λi=>?_⟩⟩
  ·unfold aEF aWD;rw[s1,eq,ej w hw,aN rfl];show b8 r.b.aC.aK (upQ q w _ w) r.j+5*kC r.b w+_+_+1<=_;rw[show upQ q w (qF Ky.length (q w) (aE t w)) w=qF Ky.length (q w) (aE t w) from aN rfl];omega
  ·unfold aEF aWD;rw[eq,ej v hv',aP hn,bo v hv' hn];show b8 r.b.aC.aK (upQ q w _ v) (aE t v)+5*kC r.b v+_+_<=_;rw[show upQ q w (qF Ky.length (q w) (aE t w)) v=q v from aP hn,er v hv' hn];have:=a4I t.aA.aC.aK r.b.aC.aK (q v) (aE t v);grind
  ·exact⟨by rw[ej v hv',aP hn];exact i.1,i.2⟩
 ·have hq:¬((rZ t w).length=0\/t.aG=1000000):=λz=>z.elim (λz=>h ⟨aj,uF z⟩) hser;have est:bH t w=sA t w ((rZ t w).getD 0 ⟨false,[]⟩):=by simp_all[bH]
  have enq:nxQ Ky q t w=q:=aP hB;rw[est,enq]
  match hQ:rZ t w,hq with
  |[],hq=>grind
  |x::l,_=>
  simp only[List.getD_cons_zero];have ej:∀v,fC v->aE (sA t w x) v=if v=w then jG x (t.aG+1) else aE t v:=λv hv'=>P6 h3 hw rfl hv';have eq:∀v,fC v->rZ (sA t w x) v=if v=w then l else rZ t v:=λv hv'=>by grind[rZ,sA]
  have j0:b8 t.aA.aC.aK (q w) (aE t w)=0:=by simp_all[b8]
  have jn:b8 t.aA.aC.aK (q w) (jG x (t.aG+1))+1<=bC x:=by
   cases hx:x.Collect
   ·rw[jc0 (show(jG x (t.aG+1)).bU=true from rfl) (by grind[jG])];grind[jG,bC,U2,zN]
   simp_all[bAB,jG,bC,RL,zN]
  have bo:∀v,fC v->v≠w->zX (sA t w x) v=zX t v:=λv hv' hn=>by simp_all[zX]
  have bw:zX (sA t w x) w<=zX t w:=by unfold zX;rw[eq w hw,ej w hw,aN rfl,aN rfl,hQ,aP (show ¬((aE t w).bU=true/\_) from λz=>hB z.1)];grind[Y2,jG,isC]
  have s1:=aWE hw bo;refine⟨?_,λv hv' hn=>⟨?_,λi=>?_⟩⟩
  ·unfold aEF aWD;rw[s1,eq w hw,ej w hw,aN rfl,aN rfl,hQ,j0];show b8 t.aA.aC.aK (q w) (jG x (t.aG+1))+5*kC t.aA w+_+_+1<=_;grind[Y2]
  ·unfold aEF aWD;rw[eq v hv',ej v hv',aP hn,aP hn,bo v hv' hn];show b8 t.aA.aC.aK (q v) (aE t v)+5*kC t.aA v+_+_<=_;omega
  ·exact⟨by rw[ej v hv',aP hn];exact i.1,by rw[eq v hv',aP hn];exact i.2⟩
end
theorem RM{l:List aI}(hl:l.length<=1000){f:aI->Bool}{g:aI->Option Bool}(hg:∀x∈l,g x=some (f x)):gW l g=some (l.any f):=
 MX (f:=qA l g) (m:=AZ) aa (λk=>by
  simp only[qA];by_cases h:k<l.length
  ·rw[dif_pos h,eG,aW h,aL,hg _ (dB h),aL,dU];rfl
  grind) (λ_=>rfl) rfl
theorem aS5{l:List bX}(hl:l.length<=1000){f:bX->Bool}{g:bX->Option Bool}(hg:∀x∈l,g x=some (f x)):rJ l g=some (l.any f):=
 MX (f:=rI l g) (m:=DU) aa (λk=>by
  simp only[rI];by_cases h:k<l.length
  ·rw[dif_pos h,eG,aW h,aL,hg _ (dB h),aL,dU];rfl
  grind) (λ_=>rfl) rfl
theorem aNJ{l:List Seen}(hl:l.length<=1000){f:Seen->Bool}{g:Seen->Option Bool}(hg:∀x∈l,g x=some (f x)):fQ l g=some (l.any f):=
 MX (f:=jB l g) (m:=A0) aa (λk=>by
  simp only[jB];by_cases h:k<l.length
  ·rw[dif_pos h,eG,aW h,aL,hg _ (dB h),aL,dU];rfl
  grind) (λ_=>rfl) rfl
theorem aNK(b:Int):HY b=some (decide (0<=b/\b<=1)):=by grind[HY,cV]
theorem aNL{O:Type}{l:List O}{f:O->Bool}(h:∀x∈l,f x=false):l.any f=false:=aTG.2 λx hx=>aj
theorem aWG(hl:l.length<=6)(h:∀x∈l,lK x):uR l=some true:=by unfold uR;rw[eG,show(λy0=>wF y0)=λy0=>some (!decide (lK y0)) from funext λy=>by grind[wF,gY],GS (by grind[maxLen]),aNL λx hx=>aj];rfl
theorem aWH{l:List aT}(h:WrV l):I2 l=some true:=by
 have h6:=h.1;unfold I2;have key:loop (rK l) 0=some (Out.brk ()):=gT (f:=rK l) l.length (λk=>(k:Int)) _ (λk hk=>by
  have hx:=h.2.1 _ (dB hk);simp only[rK];rw[eG,aW hk,aL,cV,cN hx.1,aL,gI,cV,cN hx.2,aL,gI];by_cases k0:(0:Int)<k
  ·have hk1:k-1<l.length:=aa
   have hlt:=a5D.1 h.2.2 (k-1) k hk1 hk aa;rw[aN aj,dU (x:=(k:Int)-1),show(k:Int)-1=((k-1:Nat):Int) by omega,aW hk1,aL,gJ aa];unfold lB;rw[gI,dU];rfl
  simp_all[lB,cQ]) (by simp[rK])
 grind[SC,SB]
theorem bAI(h:JB j):sL j=some true:=by
 have hb:=h.WR.2.1;have hk:=h.k;have hh:=h.held;have hheld:=aQS h;have key:loop (xL j) 0=some (Out.brk ()):=gT (f:=xL j) j.bG.length (λk=>(k:Int)) _ (λk hk=>by
  simp only[xL,FI];rw[eG,aW hk,aL,aNK,cN (hh.1 _ (dB hk)),aL,gI,TA,JM,U5,contains_eq (by grind[maxLen]),gJ ((aYG _).1 hh.2 k hk),aL,gI,dU];rfl) (by simp[xL])
 unfold sL;rw[aP (by simp[h.busy]),key];simp only[aL,XG];unfold XF;rw[aMY aa,cN h.WR,G3,cN h.h,G3,cN h.prev,aNK,cN h.bkt,cV,cN h.at_,cV,cN (show 0<=j.K/\j.K<=100 by omega),aWG h.new.1 h.new.2,aWG h.old.1 h.old.2,
  aNJ (f:=λ_=>false) (by have:=h.rd2;omega) (λs hs=>by unfold QE;rw[aNK,cN (h.reads.1 s hs)];rfl),aNL λ_ _=>rfl,aWH h.wr]
 rfl
theorem aZI:sL cZ=some true:=by
 have c1:FH cZ.Batch cZ.Batch=some true:=by unfold FH;rw[aN ak];unfold HX;rw[gI,aZ (r:=Out.brk ()) (by simp[LG,cZ])];rfl
 have c2:wE [] []=some true:=by unfold wE;rw[gI,aZ (r:=Out.brk ()) (by simp[JX])];rfl
 have c3:tC [] []=some true:=by unfold tC;rw[gI,aZ (r:=Out.brk ()) (by simp[HI])];rfl
 have c4:lA [] []=some true:=by unfold lA;rw[gI,aZ (r:=Out.brk ()) (by simp[kD])];rfl
 have c5:m7 [] []=some true:=by unfold m7;rw[gI,aZ (r:=Out.brk ()) (by simp[LH])];rfl
 unfold sL;rw[aN ak];show(I1 cZ cZ).bind _=_;unfold I1;rw[c1,show cZ.Reads=[] from rfl,show cZ.aH=[] from rfl,show cZ.fV=[] from rfl,show cZ.gK=[] from rfl,show cZ.bG=[] from rfl,show cZ.b9=[] from rfl,c2,c3,c4,c5];simp[bZ]
theorem aQU(hv:TV t):∀j∈t.aR,sL j=some true:=λj hj=>by
 rcases hv.yN.2 j hj with rfl|h
 ·exact aZI
 ·exact bAI h
theorem aEH(hv:TV t):FJ t=some true:=by
 have h2:=hv.bk.1;have h3:=hv.yN.1;have ht:=hv.todo;unfold FJ;rw[aMC hv.base.small.fits,cN hv.base,aL,aN rfl,eG,
  aS5 (f:=λ_=>false) aa (λx hx=>by
   have hx:=hv.bk.2 x hx;unfold M7 aA8;rw[G3,cN hx.1,aL,aN rfl,cV,cN hx.2.1,aL,aN rfl,cV,cN hx.2.2];rfl),aNL λ_ _=>rfl,aL,aN ak,eG,
  RM (f:=λ_=>false) aa (λj hj=>by grind[M8,aQU]),aNL λ_ _=>rfl,aL,aN ak,
  aMZ (by have:=ht.1;omega) (λq hq=>by have:=(ht.2 q hq).1;omega) (λq hq b hb=>by have:=((ht.2 q hq).2 b hb).2.1;omega),cN ht,aL,aN rfl,cV,cN hv.ser]
 rfl
def EvS(e:iD):Prop:=e.bM.length<=1000/\e.fV.length<=1000
theorem bAJ{e:iD}(h:EvS e):ER e=some e:=by obtain⟨h1,h2⟩:=h;unfold ER kZ rA;rw[OE,aL,OE];simp[KO]
theorem bEX(h:j=cZ\/JB j):IU j=some j:=by
 have hl:j.Batch.bM.length<=1000/\j.Reads.length<=1000/\j.aH.length<=1000/\j.fV.length<=1000/\j.gK.length<=1000/\j.bG.length<=1000/\j.b9.length<=1000:=by
  rcases h with rfl|h
  ·simp[cZ]
  ·have a1:=h.WR.2.1;have a2:=h.rd2;have a3:=h.wr.1;have a4:=h.res;have a5:=h.at_;have a6:=h.new.1;have a7:=aQS h;have a8:=h.old.1;omega
 obtain⟨h1,h2,h3,h4,h5,h6,h7⟩:=hl;unfold IU o6 nD rA HV;rw[(aSV h1).2,aL,OE,aL,OE,aL,OE,aL,pS aa,pS aa,pS aa];rfl
theorem a4M(hb:UR t.aA)(hk:t.aS.length<=1000)(hj:t.aR.length<=1000/\∀j∈t.aR,j=cZ\/JB j)(ht:t.eF.length<=1000/\(∀q∈t.eF,q.List.length<=1000)/\∀q∈t.eF,∀b∈q.List,b.bM.length<=1000)(hl:t.Log.length<=1000000/\∀e∈t.Log,EvS e):E3 t=some t:=by
 unfold E3 HU;rw[aSL hb,aL,OE,aL,(aM0 ht.1 ht.2.1 ht.2.2).2,aL];unfold E2;have k2:loop (lZ t) (0,(⟨t.aA,[]++t.aS,[],t.eF,[],t.aG⟩:Table))=some (⟨t.aA,t.aS,t.aR,t.eF,[],t.aG⟩:Table):=by
  have:=gT (f:=lZ t) t.aR.length (λk=>((k:Int),(⟨t.aA,t.aS,t.aR.take k,t.eF,[],t.aG⟩:Table))) (⟨t.aA,t.aS,t.aR,t.eF,[],t.aG⟩:Table) (λk hk=>by
   simp only[lZ];rw[eG,aW hk,aL,bEX (hj.2 _ (dB hk)),aL,OE];grind[E1,cQ,JN]) (by simp[lZ])
  grind
 have k3:loop (lY t) (0,(⟨t.aA,t.aS,t.aR,t.eF,[],t.aG⟩:Table))=some t:=by
  have:=gT (f:=lY t) t.Log.length (λk=>((k:Int),(⟨t.aA,t.aS,t.aR,t.eF,t.Log.take k,t.aG⟩:Table))) t (λk hk=>by
   simp only[lY];rw[eG,aW hk,aL,bAJ (hl.2 _ (dB hk)),aL,OE];grind[E0,cQ,JN]) (by simp[lY])
  grind
 show(loop (lZ t) (0,(⟨t.aA,[]++t.aS,[],t.eF,[],t.aG⟩:Table))).bind _=_;rw[k2,aL];show(loop (lY t) (0,(⟨t.aA,t.aS,t.aR,t.eF,[],t.aG⟩:Table))).bind _=_;rw[k3];rfl
def MR(t:Table):Bool:=!(t.aR.any λj=>j.bU) && !(t.eF.any λq=>decide (0<(q.List.length:Int)))
theorem aQV(hj:t.aR.length<=1000)(ht:t.eF.length<=1000):F6 t=some (MR t):=by
 unfold F6 MR;rw[RM (f:=λj=>j.bU) (g:=λy0=>H3 y0) hj λ_ _=>rfl,aL];cases (t.aR.any λj=>j.bU)
 ·rw[aN ak,WA (f:=λq=>decide (0<(q.List.length:Int))) (g:=λy0=>H4 y0) ht λ_ _=>rfl];rfl
 ·rfl
theorem aWI(hv:TV t):MR t=true↔∀w,fC w->Y3 t w:=by
 have h3:=hv.yN.1;have h4:=hv.todo.1;unfold MR;rw[wS,a2K,a2K,aTG,aTG];constructor
 ·rintro⟨a,b⟩ w hw;refine⟨by grind[zP],?_⟩;have hi:w.toNat<t.eF.length:=aa
  simp_all[rZ]
 ·intro h;refine⟨λj hj=>?_,λq hq=>?_⟩
  ·obtain⟨i,hi,rfl⟩:=WT hj;have:=(h i aa).1;grind[aE]
  ·obtain⟨i,hi,rfl⟩:=WT hq;have:=(h i aa).2;grind[rZ]
def S7:Nat->Nat->Table->Table
 |0,_,t=>t
 |n+1,k,t=>if MR t then t else S7 n (k+1) (bH t ((k % 3:Nat):Int))
theorem aJU(k:Nat):fC ((k % 3:Nat):Int):=aa
theorem aWJ:∀(n k:Nat) (t:Table),k+n=3000->TV t->t.Log.length+n<=1000000->(loop (mM 3000 true) ((k:Int),t)).bind LJ=some (S7 n k t)
 |0,k,t,hk,_,_=>by rw[aZ (r:=Out.brk t) (by simp_all[mM])];rfl
 |n + 1,k,t,hk,hv,hl=>by
  have h3:=hv.yN.1;have h4:=hv.todo.1;unfold S7;cases hi:MR t
  ·have hs:=aVQ hv aa (aJU k);rw[bS (s':=(((k+1:Nat):Int),bH t ((k % 3:Nat):Int))) (by
    simp only[mM];rw[eG,aN trivial,aQV aa aa,aL,hi,gI,RM (f:=λ_=>false) aa (λj hj=>by grind[tM,aQU]),aNL λ_ _=>rfl,aL];unfold mL;rw[gI,N0 aa,show((k:Int) % 3)=((k % 3:Nat):Int) by omega,hs,aL,dU];rfl)]
   rw[gI];refine aWJ n (k+1) _ aa (hv.step (aJU k)) ?_;have:=ZK t ((k % 3:Nat):Int);unfold P4 at this;grind
  ·rw[aZ (r:=Out.ret t) (by
    simp only[mM];rw[eG,aN trivial,aQV aa aa,aL,hi,aN rfl];rfl),aN rfl];rfl
theorem a4N(hv:TV t)(hl:t.Log.length+3000<=1000000)(he:∀e∈t.Log,EvS e):m8 t=some (S7 3000 0 t):=by have h2:=hv.bk.1;have h3:=hv.yN.1;have h4:=hv.todo;unfold m8;rw[a4M hv.base.small aa ⟨aa,hv.yN.2⟩ ⟨by have:=h4.1;omega,λq hq=>by have:=(h4.2 q hq).1;omega,λq hq b hb=>by have:=((h4.2 q hq).2 b hb).2.1;omega⟩ ⟨aa,he⟩,aL,aEH hv,aL,aN rfl];have:=aWJ 3000 0 t rfl hv hl;unfold H5;rw[show((0:Nat):Int)=0 from rfl] at this;rw[this];rfl
theorem aQW{Ky:List Int}(hK:Ky.length<=8)(P:Table->Prop)(hP:∀t w,TV t->fC w->P t->P (bH t w))(hser:∀t,P t->t.aG≠1000000):∀(n k:Nat) (q:Int->Nat) (t:Table),TV t->Sft Ky q t->P t->(∀w,fC w->¬Y3 t w->3*aEF q t w+(w-k) % 3<n)->MR (S7 n k t)=true/\TV (S7 n k t)/\P (S7 n k t)/\∃q',Sft Ky q' (S7 n k t)
 |0,k,q,t,hv,hs,hp,hn=>⟨(aWI hv).2 λw hw=>Classical.byContradiction λhi=>by
   have:=hn w hw hi;have:=bEW hK hv hs hw hi;omega,hv,hp,q,hs⟩
 |n + 1,k,q,t,hv,hs,hp,hn=>by
  unfold S7;by_cases hi:MR t=true
  ·grind
  ·rw[aP hi];have hw:=aJU k;refine aQW hK P hP hser n (k+1) (nxQ Ky q t ((k % 3:Nat):Int)) _ (hv.step hw) (hs.step hv hw) (hP t _ hv hw hp) λv hv' hni=>?_;by_cases hid:Y3 t ((k % 3:Nat):Int)
   ·obtain⟨e1,e2⟩:=aQT hK hv hs hw hid;rw[e1] at hni;rw[e1,e2];have:=hn v hv' hni;have hne:v≠((k % 3:Nat):Int):=λe=>hni (e ▸ hid);unfold fC at hv';omega
   ·obtain⟨a1,a2⟩:=aWF hK hv hs hw (hser t hp) hid;have h0:=hn _ hw hid;by_cases e:v=((k % 3:Nat):Int)
    ·rw[e];omega
    ·obtain⟨b1,b2⟩:=a2 v hv' e;have:=hn v hv' λz=>hni (b2 z);unfold fC at hv';omega
theorem aNM(f:Batch->Int)(x:Batch):∀l:List Batch,Y2 f (l++[x])=Y2 f l+f x
 |[]=>by simp[Y2]
 |y::r=>by simp only[D7,Y2,aNM f x r];omega
theorem bAK(x:Batch):isC x<=1:=by grind[isC]
theorem aWK:∀l:List Batch,Y2 isC l<=l.length
 |[]=>by simp[Y2]
 |x::r=>by have:=aWK r;have:=bAK x;grind[Y2]
def KyD(k:Int):Prop:=(0<=k/\k<=5)\/k=99\/k<0\/99<k
def BaD(x:Batch):Prop:=bC x<=145/\∀y∈x.bM,KyD y.Key
def QuD(m c:Int)(q:aO):Prop:=Y2 bC q.List<=c/\Y2 isC q.List<=m/\(q.List.length:Int)<=m/\∀x∈q.List,x.bM.length<=1000/\∀y∈x.bM,KyD y.Key
theorem aJV{l:List Batch}{m m' c':Int}(h:QuD m c ⟨l⟩)(hm:m+1<=m'){x:Batch}(hc:c+bC x<=c')(hx:x.bM.length<=1000/\∀y∈x.bM,KyD y.Key):QuD m' c' ⟨l++[x]⟩:=by obtain⟨h1,h2,h3,h4⟩:=h;simp only at h1 h2 h3 h4;have:=bAK x;refine⟨by grind[aNM],by grind[aNM],aj,λy hy=>?_⟩;grind
theorem Y4{m m' c':Int}{q:aO}(h:QuD m c q)(hm:m<=m')(hc:c<=c'):QuD m' c' q:=⟨aJY h.1 hc,aJY h.2.1 hm,aJY h.2.2.1 hm,h.2.2.2⟩
section
variable {b:List UInt8} {i h:Int} (hc:Cu b i)
include hc
theorem bGG:DK (JQ ⟨b,i,h⟩) (λx=>KyD x.1.Key/\Cu b x.2.1):=by
 unfold JQ EK EJ;refine .bind (aQJ hc ai ai) λx1 ⟨_,h1⟩=>.bind (below h1 aa) λx2 ⟨k2,h2⟩=>?_;have hk:KyD x2.1:=.inl aa;refine .ite (λ_=>.ite (λ_=>?_) λ_=>.ret ⟨hk,h2⟩) λ_=>.ite (λ_=>?_) λ_=>.ret ⟨hk,h2⟩
 ·exact .bind (below h2 aa) λx7 ⟨_,h7⟩=>.bind (aQJ h7 ae ae) λx8 ⟨_,h8⟩=>.ret ⟨hk,h8⟩
 ·exact .bind (below h2 aa) λx7 ⟨_,h7⟩=>.bind (aQJ h7 ae ae) λx8 ⟨_,h8⟩=>.ret ⟨hk,h8⟩
theorem bAM:DK (O6 ⟨b,i,h⟩) (λx=>KyD x.1.Key/\Cu b x.2.1):=by
 unfold O6 qZ;refine .bind (bGG hc) λx1 ⟨k1,h1⟩=>.bind (below h1 aa) λx7 ⟨_,h7⟩=>.ite (λ_=>?_) λ_=>.ite (λ_=>?_) λ_=>.ite (λ_=>?_) λ_=>.ret ⟨k1,h7⟩
 ·exact .bind (aQJ h7 ai ai) λx8 ⟨_,h8⟩=>.ret ⟨k1,h8⟩
 ·exact .bind (aQJ h7 ai ai) λx8 ⟨k8,h8⟩=>.ret ⟨by grind[KyD],h8⟩
 ·exact .bind (aQJ h7 ai ai) λx8 ⟨_,h8⟩=>.ret ⟨k1,h8⟩
theorem bEY:DK (LP ⟨b,i,h⟩) (λx=>BaD x.1/\x.1.bM.length<=1000/\Cu b x.2.1):=by unfold LP;refine .bind (bLI hc aa) λx1 h1=>.ite (λ_=>.ret ⟨⟨by show(14:Int)<=145;decide,ae⟩,ae,h1⟩) λ_=>.bind (below h1 aa) λx2 ⟨hx,h2⟩=>?_;rw[dU];refine .bind (P:=λx=>(x.2.2.length<=3/\∀y∈x.2.2,KyD y.Key)/\Cu b x.1) (.loop (λs=>s.1.toNat) (λs=>(0<=s.1/\s.1+s.2.2.2.length<=3/\∀y∈s.2.2.2,KyD y.Key)/\Cu b s.2.1) ⟨⟨aa,ah,ae⟩,h2⟩ ?_) λ⟨a1,a2,a3⟩ ⟨⟨hx,hy⟩,h3⟩=>.ret ⟨⟨by simp only at hx;unfold bC;grind,hy⟩,aj,h3⟩;rintro⟨n,i1,h1,l⟩ ⟨⟨n0,n1,n2⟩,hi1⟩;simp only at n0 n1 n2 hi1;simp only[VC,KN];refine .ite (λq=>?_) (λq=>.ret ⟨⟨aj,n2⟩,hi1⟩);have q1:=of_decide_eq_true q;refine .bind (bGG hi1) λo ⟨ho,h3⟩=>.need ah (.ret ?_);grind[cQ]
theorem aQX{m:Int}(hm:0<=m/\m<=12):DK (wY ⟨b,i,h⟩ m) (λx=>(x.1.length=3/\∀q∈x.1,QuD m (m*145) q)/\Cu b x.2.1):=by
 unfold wY;refine .bind (P:=λx=>(x.1.length=3/\∀q∈x.1,QuD m (m*145) q)/\Cu b x.2.1) (.loop (λs=>3-s.2.1.toNat) (λs=>((s.1.length:Int)=s.2.1/\s.2.1<=3/\∀q∈s.1,QuD m (m*145) q)/\Cu b s.2.2.1) ⟨⟨rfl,ae,ae⟩,hc⟩ ?_) λx hx=>.ret hx;rintro⟨l,k,i',h'⟩ ⟨⟨e,k3,hq⟩,hi⟩;simp only at e k3 hq hi;simp only[O5];refine .ite (λq=>?_) (λq=>?_)
 ·have q':=of_decide_eq_true q;rw[dU (x:=m+1)];refine .bind (below hi aa) λn ⟨hn,h1⟩=>?_;refine .bind (P:=λx=>QuD m (m*145) ⟨x.2.2⟩/\Cu b x.1) (.loop (λs=>s.1.toNat) (λs=>(0<=s.1/\QuD (m-s.1) ((m-s.1)*145) ⟨s.2.2.2⟩)/\Cu b s.2.1) ⟨⟨hn.1,by grind[QuD,Y2]⟩,h1⟩ ?_) ?_
  ·rintro⟨n,i1,h1,ops⟩ ⟨⟨n0,ho⟩,hi1⟩;simp only at n0 ho hi1;have hol:=ho.2.2.1;simp only at hol;simp only[O3,EL];refine .ite (λq=>?_) (λq=>?_)
   ·have q1:=of_decide_eq_true q;refine .bind (bEY hi1) λo ⟨h0,h2,h3⟩=>.need ah (.ret ?_);have hq:=aJV (m':=m-(n-1)) (c':=(m-(n-1))*145) ho aa (x:=o.1) (by have:=h0.1;omega) ⟨h2,h0.2⟩;grind[cQ]
   ·have q1:¬0<n:=aj
    exact .ret ⟨Y4 ho aa aa,hi1⟩
  ·rintro⟨i1,h1,ops⟩ ⟨ho,hi1⟩;simp only[O4,O2];refine .need ah (.ret ?_);grind[cQ]
 ·have q':¬k<3:=aj
  exact .ret ⟨⟨aj,hq⟩,hi⟩
def aB2(l:List aO):Prop:=l.length<=3/\∀q∈l,QuD 13 910 q
omit hc in
theorem aWL{l:List aO}(hl:aB2 l)(k:Nat){q:aO}(hq:QuD 13 910 q):aB2 (l.set k q):=⟨by simpa using hl.1,λx hx=>(qW hx).elim (hl.2 x) (λe=>e ▸ hq)⟩
theorem aZJ:DK (BU ⟨b,i,h⟩) (λx=>aB2 x.1/\Cu b x.2.1):=by
 unfold BU;refine .bind (aQX hc aa) λx1 ⟨⟨l3,hq⟩,h1⟩=>.bind (below h1 aa) λx5 ⟨_,h5⟩=>?_;have hT:aB2 x1.1:=⟨aa,λq hq'=>Y4 (hq q hq') aa aa⟩;simp only[kY,M3,C1];refine .ite (λ_=>?_) λ_=>.ite (λ_=>?_) λ_=>.ite (λ_=>?_) λ_=>.ite (λ_=>?_) λ_=>?_
 ·exact .need aa (.ret ⟨⟨ah,λq hq'=>hT.2 q (a5C (by simpa using hq'))⟩,h5⟩)
 ·refine .bind (.idx aa) λx6 h6=>?_;have h7:=hq _ h6;have:=h7.2.2.1;exact .need ah (.ret ⟨aWL hT _ (aJV (m:=5) (c:=5*145) (l:=x6.List) h7 aa (x:=⟨false,[]⟩) (by show _+(19:Int)<=910;omega) ⟨ae,ae⟩),h5⟩)
 ·refine .bind (P:=λx=>aB2 x.1/\Cu b x.2.1) (.loop (λs=>20-((s.1.getD 1 ⟨[]⟩).List.length)) (λs=>(s.1.length=3/\∀q∈s.1,QuD 13 (725+14*q.List.length) q)/\Cu b s.2.1) ⟨⟨l3,λq hq'=>Y4 (hq q hq') aa aa⟩,h5⟩ ?_) ?_
  ·rintro⟨l,i1,h1⟩ ⟨⟨l3,hq⟩,hi1⟩;simp only at l3 hq hi1;simp only[M4,C0];have hx:idx l 1=some l[1]:=aW (k:=1) aa;have hm:=hq _ (dB (show 1<l.length by omega));have hm1:=hm.2.2.1;rw[hx];simp only[aL];refine .bind (below hi1 aa) λx ⟨hx2,hi2⟩=>.ite (λq=>?_) (λq=>?_)
   ·have q':=of_decide_eq_true q;rw[dU] at q';refine .need ah (.ret ?_);refine⟨⟨⟨by simp[l3],λx hx=>?_⟩,hi2⟩,?_⟩
    ·rcases qW hx with hx|hx
     ·grind
     ·have:=aJV (m':=14) (c':=725+14*(l[1].List++[(⟨true,[]⟩:Batch)]).length) (l:=l[1].List) hm aa (x:=⟨true,[]⟩) (by show _+(14:Int)<=_;simp;omega) ⟨ae,ae⟩;rw[hx];refine⟨this.1,?_,ah,this.2.2.2⟩;have h13:=aWK (l[1].List++[(⟨true,[]⟩:Batch)]);grind
    grind
   ·exact .ret ⟨⟨aj,λq hq'=>Y4 (hq q hq') aa (by have:=(hq q hq').2.2.1;omega)⟩,hi2⟩
  ·rintro⟨l,i1,h1⟩ hx;exact .ret hx
 ·refine .bind (.idx aa) λx25 h25=>.bind (bAM h5) λx26 ⟨k26,h26⟩=>?_;have h7:=hq _ h25;have:=h7.2.2.1;exact .need ah (.ret ⟨aWL hT _ (aJV (m:=5) (c:=5*145) (l:=x25.List) h7 aa (x:=⟨false,[x26.1]⟩) (by show _+(1*42+19:Int)<=910;omega) ⟨ae,aj⟩),h26⟩)
 ·exact .ret ⟨hT,h5⟩
end
theorem aWM{code:List UInt8}(hl:code.length<=1048576):DK (sU code) (λx=>aB2 x.eF/\x.kH.length<=5000):=by unfold sU;refine .bind (bNT hl) λx1 h1=>.bind (aQX h1 aa) λx2 ⟨⟨l3,hq⟩,h2⟩=>.bind (bD6 h2 aa) λx3 ⟨p,h3⟩=>.bind (below h3 aa) λx6 ⟨_,h6⟩=>?_;have hT:aB2 x2.1:=⟨aa,λq hq'=>Y4 (hq q hq') aa aa⟩;simp only[kU];refine .ite (λ_=>.bind (aZJ h6) λx7 ⟨h7,_⟩=>.ret ⟨h7,aj⟩) λ_=>.ite (λ_=>.need ah (.ret ⟨hT,ah⟩)) λ_=>.ret ⟨hT,aj⟩
theorem aB2.bLQ{l:List aO}(h:aB2 l):bD5 l:=⟨h.1,λq hq=>⟨by have:=(h.2 q hq).2.2.1;omega,λx hx=>((h.2 q hq).2.2.2 x hx).1⟩⟩
theorem a11(j:aI)(x:aT):(nT j x).2.Batch=j.Batch:=by grind[nT,sE]
theorem a12(j:aI)(c:iB)(v:Int)(is:Bool):(qL j c v is).Batch=j.Batch:=by
 unfold qL;split
 ·generalize (if is then v else 0)=u;unfold WN;have h:=a11 j ⟨c.Key,false,G5 u c.dM⟩;split
  ·exact h
  ·exact h
 ·rfl
theorem bEZ(j:aI):(qH j).Batch=j.Batch:=by grind[qH,a11,a12]
theorem bAN(b:aA)(k:List bX)(w:Int)(j:aI):(iM b k w j).Batch=j.Batch:=by
 unfold iM;split
 ·split<;>rfl
 ·split
  ·simp
  ·split
   ·split
    ·rfl
    ·split<;>rfl
   ·split
    ·rfl
    ·split
     ·rfl
     ·split
      ·grind[a12]
      ·rfl
theorem bE0(b:aA)(w:Int)(j:aI):(vH b w j).2.Batch=j.Batch:=by
 unfold vH;split
 ·simp
 ·simp only;split
  ·simp
  ·split<;>rfl
theorem bE1(k:List bX)(w:Int)(j:aI):(oD k w j).2.1.Batch=j.Batch:=by
 unfold oD;split
 ·split
  ·rfl
  ·split
   ·rfl
   ·split<;>rfl
 simp
theorem bE2(k:List bX)(w:Int)(j:aI):(KH k w j).Batch=j.Batch:=by
 unfold KH;split
 ·simp
 ·split<;>rfl
theorem aZK(j:aI)(x:aT):(MO j x).Batch=j.Batch:=by grind[MO]
theorem bE3(j:aI):(MP j).Batch=j.Batch:=by grind[MP]
theorem bE4(b:aA)(k:List bX)(j:aI):(lV b k j).2.2.Batch=j.Batch:=by
 unfold lV;split
 ·simp
 ·split
  ·grind[aZK]
  ·split
   ·grind[aZK]
   ·split
    ·grind[aZK,bE3]
    ·split
     ·rfl
     grind
theorem a13(j:aI):(KI j).Batch=j.Batch:=by grind[KI]
theorem bE5(k:List bX)(j:aI):(AO k j).2.Batch=j.Batch:=by grind[AO,a13]
theorem bE6(b:aA)(w:Int)(j:aI):(DL b w j).2.Batch=j.Batch:=by grind[DL,a13]
theorem bE7(b:aA)(w:Int)(j:aI):(DM b w j).2.Batch=j.Batch:=by grind[DM]
theorem bE8(b:aA)(w:Int)(j:aI):(oE b w j).2.Batch=j.Batch:=by grind[oE]
def S8(w:Int)(j:aI)(r:TR):Prop:=
 (r.j.aG=j.aG/\r.j.bU=j.bU/\r.j.Batch=j.Batch/\(r.l=[]\/r.l=[⟨2,w,j.aG,0,[],[]⟩]))\/(¬(j.Pc<19\/19<j.Pc)/\r.j=cZ/\r.l=[tlE w j])
theorem wR(b:aA)(k:List bX)(w:Int)(j:aI)(hp:0<=j.Pc/\j.Pc<=21):S8 w j (fF b k w j):=by
 unfold fF;refine dL (P:=S8 w j) (λ_=>.inl ⟨(aJP b w j).1,(aJP b w j).2,bE8 b w j,.inl rfl⟩) λ_=>dL (P:=S8 w j) (λ_=>.inl ⟨(aJH j).1,(aJH j).2,bEZ j,.inl rfl⟩) λ_=>
  dL (P:=S8 w j) (λ_=>.inl ⟨(aD8 b k w j).1,(aD8 b k w j).2,bAN b k w j,.inl rfl⟩) λ_=>dL (P:=S8 w j) (λ_=>.inl ⟨(aJI b w j).1,(aJI b w j).2,bE0 b w j,.inl rfl⟩) λ_=>
  dL (P:=S8 w j) (λ_=>.inl ⟨(aJJ k w j).1,(aJJ k w j).2,bE1 k w j,?_⟩) λ_=>dL (P:=S8 w j) (λ_=>.inl ⟨(aJK k w j).1,(aJK k w j).2,bE2 k w j,.inl rfl⟩) λ_=>
  dL (P:=S8 w j) (λ_=>.inl ⟨(aJL b k j).1,(aJL b k j).2,bE4 b k j,.inl rfl⟩) λ_=>dL (P:=S8 w j) (λ_=>.inl ⟨(aJM k j).1,(aJM k j).2,bE5 k j,.inl rfl⟩) λ_=>
  dL (P:=S8 w j) (λ_=>.inl ⟨(aJN b w j).1,(aJN b w j).2,bE6 b w j,.inl rfl⟩) λ_=>dL (P:=S8 w j) (λ_=>.inl ⟨(aJO b w j).1,(aJO b w j).2,bE7 b w j,.inl rfl⟩) λ_=>
  dL (P:=S8 w j) (λ_=>.inl ⟨rfl,rfl,rfl,.inl rfl⟩) λ_=>dL (P:=S8 w j) (λp=>.inr ⟨aa,rfl,rfl⟩) λ_=>.inl ⟨rfl,rfl,rfl,.inl rfl⟩
 simp
structure TlJ (l:List iD) (s:Int) (P:List iB->Prop):Prop where
 call:∃c∈l,c.Kind=1/\c.aG=s
 all:∀c∈l,c.Kind=1->c.aG=s->P c.bM
theorem TlJ.app{l:List iD}{P:List iB->Prop}(h:TlJ l s P){m:List iD}(hm:∀x∈m,x.Kind=1->x.aG≠s):TlJ (l++m) s P:=by obtain⟨⟨c,hc,h1⟩,h2⟩:=h;refine⟨⟨c,U7 _ hc,h1⟩,λx hx k e=>?_⟩;grind
def kT(l:List iD):Int:=(l.countP λe=>e.Kind == 3:Nat)
def Z6(t:Table)(v:Int):Int:=if(aE t v).bU then 1 else 0
def OC(t:Table)(v:Int):Int:=(rZ t v).length
def bLR(e:iD)(c:List iB):Prop:=if e.Code=0 then e.fV.length=c.length else e.fV=[]
structure TlT (n:Int) (t:Table):Prop where
 ev:∀e∈t.Log,EvS e/\e.aG<=t.aG
 job:∀w,fC w->(aE t w).bU=true->(aE t w).aG<=t.aG/\TlJ t.Log (aE t w).aG (·=(aE t w).Batch.bM)
 tell:∀e∈t.Log,e.Kind=3->(e.Code=0\/e.Code=3\/e.Code=6\/e.Code=7)/\TlJ t.Log e.aG (bLR e)
 sum:kT t.Log+MQ (Z6 t)+MQ (OC t)=n
 ser:t.aG+MQ (OC t)=n
theorem aJW{f g:Int->Int}(hw:fC w)(hg:∀v,fC v->v≠w->g v=f v):MQ g+f w=MQ f+g w:=by grind[MQ]
theorem bAP(l m:List iD):kT (l++m)=kT l+kT m:=by grind[kT]
theorem TlT.zero{l:List aO}(hn:MQ (OC (dC l))=n):TlT n (dC l):=by
 have hj:∀w,fC w->(aE (dC l) w).bU=false:=λw hw=>by rcases(by omega:w=0\/w=1\/w=2) with rfl|rfl|rfl<;>rfl
 have h0:MQ (Z6 (dC l))=0:=rfl;have e0:(dC l).Log=[]:=rfl;refine⟨λe he=>?_,λw hw h=>?_,λe he=>?_,?_,?_⟩
 ·grind
 ·grind
 ·grind
 ·grind[kT]
 ·rw[hn];show(0:Int)+n=n;omega
theorem TlT.step{q:Int->Nat}(hv:TV t)(hw:fC w)(hs:Sft Ky q t)(h:TlT n t):TlT n (bH t w):=by
 have h3:=hv.yN.1;have h4:=hv.todo.1;have hJ:(aE t w).bU=true->JB (aE t w):=λhB=>(hv.yN.2 _ (zP h3 hw)).resolve_left λe=>by rw[e] at hB;cases hB
 obtain⟨c,sv⟩:=hs.sv;unfold bH;by_cases hB:(aE t w).bU=true
 ·rw[aN hB];have tw:=sv.tw w hw hB;have jb:=hJ hB;obtain⟨js,jt⟩:=h.job w hw hB;have hd:=wR t.aA t.aS w (aE t w) tw.pc;generalize fF t.aA t.aS w (aE t w)=r at hd;have ej:∀v,fC v->aE (yL t w r) v=if v=w then r.j else aE t v:=λv hv'=>aSY h3 rfl hw hv';have eq:OC (yL t w r)=OC t:=rfl;have el:(yL t w r).Log=t.Log++r.l:=rfl;have es:(yL t w r).aG=t.aG:=rfl;have hne:∀x∈r.l,x.Kind≠1:=λx hx=>by
   rcases hd with ⟨_,_,_,e|e⟩|⟨_,_,e⟩<;>rw[e] at hx
   ·cases hx
   ·grind
   ·rw[jO.1 hx];exact(by decide:(3:Int)≠1)
  have keep:∀{s:Int} {P:List iB->Prop},TlJ t.Log s P->TlJ (t.Log++r.l) s P:=λa=>a.app λx hx k=>absurd k (hne x hx);have hlen:(tlE w (aE t w)).Code=0->((tlE w (aE t w)).fV.length:Int)=(aE t w).At/\(tlE w (aE t w)).fV=(aE t w).fV:=λe=>by have e':(aE t w).Code=0:=e;simp only[tlE,aN e'];exact⟨jb.res,trivial⟩
  have hbl:=jb.at_;have hb6:=jb.WR.2.1;have hres:=jb.res;refine⟨λe he=>?_,λv hv' hb'=>?_,λe he k=>?_,?_,?_⟩
  ·rw[el] at he;rw[es];rcases dE.1 he with he|he
   ·exact h.ev e he
   ·rcases hd with ⟨_,_,_,e1|e1⟩|⟨_,_,e1⟩<;>rw[e1] at he
    ·cases he
    ·rw[jO.1 he];exact⟨⟨ae,ae⟩,js⟩
    ·rw[jO.1 he];refine⟨⟨by simp[tlE],?_⟩,js⟩;show(if(aE t w).Code=0 then(aE t w).fV else []).length<=1000;grind
  ·rw[el,es];rw[ej v hv'] at hb' ⊢;by_cases e:v=w
   ·rw[aN e] at hb' ⊢;rcases hd with ⟨s1,s2,s3,_⟩|⟨_,s1,_⟩
    ·grind
    ·rw[s1] at hb';cases hb'
   ·rw[aP e] at hb' ⊢;exact⟨(h.job v hv' hb').1,keep (h.job v hv' hb').2⟩
  ·rw[el] at he ⊢;rcases dE.1 he with he|he
   ·exact⟨(h.tell e he k).1,keep (h.tell e he k).2⟩
   ·rcases hd with ⟨_,_,_,e1|e1⟩|⟨p19,_,e1⟩<;>rw[e1] at he
    ·cases he
    ·grind
    ·rw[jO.1 he];have cd:=tw.cd;have at1:=tw.at_;refine⟨?_,keep ⟨jt.call,λc hc kc ec=>?_⟩⟩
     ·show(aE t w).Code=0\/(aE t w).Code=3\/(aE t w).Code=6\/(aE t w).Code=7;omega
     ·rw[jt.all c hc kc ec];unfold bLR;by_cases z:(aE t w).Code=0
      ·rw[aN (show(tlE w (aE t w)).Code=0 from z),(hlen z).2];omega
      ·rw[aP (show ¬(tlE w (aE t w)).Code=0 from z)];show(if(aE t w).Code=0 then(aE t w).fV else [])=[];grind
  ·rw[el,eq,bAP];have a:=aJW (f:=Z6 t) (g:=Z6 (yL t w r)) hw λv hv' hn=>by simp_all[Z6]
   have b:Z6 (yL t w r) w=if r.j.bU then 1 else 0:=by simp_all[Z6]
   have b':Z6 t w=1:=by simp_all[Z6]
   have s:=h.sum;rcases hd with ⟨_,s2,_,e1|e1⟩|⟨_,s1,e1⟩
   ·simp_all[kT]
   ·simp_all[kT]
   ·rw[s1,aP ai] at b;grind[kT,tlE]
  ·rw[eq,es];exact h.ser
 ·rw[aP hB];by_cases hq:(rZ t w).length=0\/t.aG=1000000
  ·grind
  ·rw[aP hq];have hmem:(rZ t w).getD 0 ⟨false,[]⟩∈rZ t w:=aj
   have hb6:((rZ t w).getD 0 ⟨false,[]⟩).bM.length<=6:=by
    have hi:w.toNat<t.eF.length:=aa
    have hq:=hv.todo.2 _ (dB hi);have e:rZ t w=t.eF[w.toNat].List:=by grind[rZ]
    exact(hq.2 _ (e ▸ hmem)).2.1
   generalize (rZ t w).getD 0 ⟨false,[]⟩=b at hb6;have ej:∀v,fC v->aE (sA t w b) v=if v=w then jG b (t.aG+1) else aE t v:=λv hv'=>aSY h3 rfl hw hv';have eqq:∀v,fC v->OC (sA t w b) v=if v=w then(((rZ t w).drop 1).length:Int) else OC t v:=λv hv'=>by grind[OC,rZ,sA]
   have el:(sA t w b).Log=t.Log++[⟨1,w,t.aG+1,0,b.bM,[]⟩]:=rfl;have es:(sA t w b).aG=t.aG+1:=rfl;have keep:∀{s:Int} {P:List iB->Prop},s<=t.aG->TlJ t.Log s P->TlJ (t.Log++[⟨1,w,t.aG+1,0,b.bM,[]⟩]) s P:=λhs a=>a.app λx hx k=>aj
   refine⟨λe he=>?_,λv hv' hb'=>?_,λe he k=>?_,?_,?_⟩
   ·rw[el] at he;rw[es];rcases dE.1 he with he|he
    ·have:=h.ev e he;grind
    ·rw[jO.1 he];exact⟨⟨aj,ae⟩,KJ _⟩
   ·rw[el,es];rw[ej v hv'] at hb' ⊢;by_cases e:v=w
    ·rw[aN e];refine⟨KJ _,⟨⟨_,aB8 _ (jO.2 rfl),rfl,rfl⟩,λc hc kc ec=>?_⟩⟩;rcases dE.1 hc with hc|hc
     ·have:=(h.ev c hc).2;have ec':c.aG=t.aG+1:=ec;omega
     ·rw[jO.1 hc];rfl
    ·rw[aP e] at hb' ⊢;obtain⟨a,b⟩:=h.job v hv' hb';grind
   ·rw[el] at he ⊢;rcases dE.1 he with he|he
    ·exact⟨(h.tell e he k).1,keep (h.ev e he).2 (h.tell e he k).2⟩
    grind
   ·rw[el,bAP];have a:=aJW (f:=Z6 t) (g:=Z6 (sA t w b)) hw λv hv' hn=>by simp_all[Z6]
    have a':=aJW (f:=OC t) (g:=OC (sA t w b)) hw λv hv' hn=>aj
    have b1:Z6 (sA t w b) w=1:=by unfold Z6;rw[ej w hw,aN rfl];rfl
    have b':Z6 t w=0:=by simp_all[Z6]
    have c1:=eqq w hw;rw[aN rfl,U6] at c1;have c2:OC t w=(rZ t w).length:=rfl;have s:=h.sum;grind[kT]
   ·rw[es];have a':=aJW (f:=OC t) (g:=OC (sA t w b)) hw λv hv' hn=>aj
    have c1:=eqq w hw;rw[aN rfl,U6] at c1;have c2:OC t w=(rZ t w).length:=rfl;have s:=h.ser;omega
def aF4(l:List iD):List iD:=l.filter λe=>e.Kind == 3
theorem a4O(hl:t.Log.length<=1000000)(he:∀e∈t.Log,EvS e):CH t=some (aF4 t.Log):=by
 unfold CH;have key:loop (nK t) ([],0)=some (aF4 t.Log):=by
  have:=gT (f:=nK t) t.Log.length (λi=>(aF4 (t.Log.take i),(i:Int))) (aF4 t.Log) (λi hi=>by
   have hle:(aF4 (t.Log.take i)).length<=i:=lW (aTI _ _) aj;simp only[nK,tN];rw[eG,aW hi,aL,bAJ (he _ (dB hi)),aL,OE,dU,JN hi];grind[aF4]) (by simp[nK])
  grind[aF4]
 rw[key];rfl
theorem aWN:∀(n k:Nat) (t:Table),(S7 n k t).Log.length<=t.Log.length+n
 |0,_,t=>iT _
 |n + 1,k,t=>by
  unfold S7;split
  ·omega
  ·have:=aWN n (k+1) (bH t ((k % 3:Nat):Int));have h:=ZK t ((k % 3:Nat):Int);unfold P4 at h;grind
def Ky7:List Int:=[0,1,2,3,4,5,99]
theorem bLS{k:Int}(h:KyD k)(v:0<=k/\k<=99):k∈Ky7:=by grind[KyD,Ky7]
theorem bJE{l:List aO}(hd:aB2 l)(ht:S4 l):Sft Ky7 (λ_=>0) (dC l):=Sft.zero λq hq b hb x hx=>bLS ((hd.2 q hq).2.2.2 b hb |>.2 x hx) ((((ht.2 q hq).2 b hb).2.2.1 x hx).2.1)
theorem bLT{l:List aO}(hd:aB2 l)(hw:fC w):aEF (λ_=>0) (dC l) w<=999:=by
 have ej:∀v,fC v->aE (dC l) v=cZ:=λv hv=>by rcases(by omega:v=0\/v=1\/v=2) with rfl|rfl|rfl<;>rfl
 have eq:∀v:Int,QuD 13 910 ⟨rZ (dC l) v⟩:=λv=>by
  show QuD 13 910 ⟨(l.getD v.toNat ⟨[]⟩).List⟩;rw[DN];cases e:l[v.toNat]? with
  |none=>simp[QuD,Y2]
  |some q=>exact hd.2 q (EA e)
 have eb:∀v,fC v->0<=zX (dC l) v/\zX (dC l) v<=13:=λv hv=>by have h1:=aEG a10 (rZ (dC l) v);have h2:=(eq v).2.1;unfold zX;rw[ej v hv,aP (λq=>by cases q.1)];grind
 have er:kC (dC l).aA w=0:=by rcases(by omega:w=0\/w=1\/w=2) with rfl|rfl|rfl<;>rfl
 have eo:aWD (λ_=>0) (dC l) w<=910:=by unfold aWD;rw[ej w hw,er];have h1:=(eq w).1;grind[b8,cZ]
 have b0:=eb 0 (by simp[fC]);have b1:=eb 1 (by simp[fC]);have b2:=eb 2 (by simp[fC]);unfold aEF MQ;rcases(by omega:w=0\/w=1\/w=2) with rfl|rfl|rfl<;>omega
def PlT(n:Int)(t:Table):Prop:=TlT n t/\∃q,Sft Ky7 q t
def PhT(n:Int)(t:Table):Prop:=TlT n t/\∃q,Sft Ky7 q t/\∀w,fC w->¬Y3 t w->aEF q t w<=999
theorem aWP(t:Table):0<=MQ (OC t):=by grind[MQ,OC]
theorem PlT.step(hv:TV t)(hw:fC w)(h:PlT n t):PlT n (bH t w):=by obtain⟨a,q,b⟩:=h;exact⟨a.step hv hw b,_,b.step hv hw⟩
theorem PhT.step(hn:n<=100)(hv:TV t)(hw:fC w)(h:PhT n t):PhT n (bH t w):=by
 obtain⟨a,q,b,c⟩:=h;refine⟨a.step hv hw b,_,b.step hv hw,λv hv' hi=>?_⟩;have hser:t.aG≠1000000:=by have:=a.ser;have:=aWP t;omega
 by_cases hid:Y3 t w
 ·obtain⟨e1,e2⟩:=aQT ai hv b hw hid;grind
 ·obtain⟨a1,a2⟩:=aWF ai hv b hw hser hid;grind
theorem bNY{l:List aO}(hd:aB2 l)(ht:S4 l)(p:List Int)(hp:p.length<=400):m8 (HO (dC l) p)=some (S7 3000 0 (HO (dC l) p))/\MR (S7 3000 0 (HO (dC l) p))=true/\TV (S7 3000 0 (HO (dC l) p))/\PlT (MQ (OC (dC l))) (S7 3000 0 (HO (dC l) p))/\(S7 3000 0 (HO (dC l) p)).Log.length<=3400:=by
 have hn:MQ (OC (dC l))<=100:=by
  have:∀v:Int,OC (dC l) v<=13:=λv=>by
   show(((l.getD v.toNat ⟨[]⟩).List.length:Nat):Int)<=13;rw[DN];cases e:l[v.toNat]? with
   |none=>simp
   |some q=>exact(hd.2 q (EA e)).2.2.1
  grind[MQ]
 obtain⟨v,a,q,b,c⟩:=aM1 (P:=PhT (MQ (OC (dC l)))) (λt w hv hw h=>h.step hn hv hw) p (aF1 ht) ⟨.zero rfl,_,bJE hd ht,λw hw _=>bLT hd hw⟩;have hl:=aQO p (dC l);rw[show(dC l).Log.length=0 from rfl] at hl;generalize HO (dC l) p=t at v a b c hl;obtain⟨g1,g2,g3,_⟩:=aQW ai (PlT (MQ (OC (dC l)))) (λt w hv hw h=>h.step hv hw) (λt h=>by have:=h.1.ser;have:=aWP t;omega) 3000 0 q t v b ⟨a,q,b⟩ λw hw hi=>aj
 have:=aWN 3000 0 t;exact⟨a4N v aa λe he=>(a.ev e he).1,g1,g2,g3,aa⟩
theorem aWQ{l:List iD}{P:List iB->Prop}(h:TlJ l s P):0<=sG l 1 s/\P (l.getD (sG l 1 s).toNat ⟨0,0,0,0,[],[]⟩).bM:=by obtain⟨c,hc,k,e⟩:=h.call;have hlt:l.findIdx (isE 1 s)<l.length:=aTH ⟨c,hc,by grind[isE]⟩;have hp:=aJ0 (w:=hlt);have e1:sG l 1 s=(l.findIdx (isE 1 s):Int):=aN hlt;rw[e1];refine⟨aa,?_⟩;rw[JM,DN,iS hlt];unfold isE at hp;rw[wS,beq_iff_eq,beq_iff_eq] at hp;exact h.all _ (dB hlt) hp.1 hp.2
theorem kE.cls(h:kE m x):0<=bK m.Heap (x % 32)/\lK x:=⟨dN h.1.2.1,h.1.1⟩
theorem aNN{m:Mem}(hm:lU m):∀(r:List Int) (done:List Int) (x:Int),ChT m x r->(done++r).Nodup->done.length+r.length<=1000->loop (CL m) (done,x)=some (Out.brk (done++r))
 |[],done,x,h,hn,hl=>by refine aZ ?_;have hx:x=0:=h;simp_all[CL]
 |a::r,done,x,h,hn,hl=>by
  obtain⟨rfl,hw,hk,hc⟩:=h;obtain⟨hcl,hh⟩:=hw.cls;obtain⟨c,e,hc0⟩:=YW hm x;have hx0:x≠0:=by have:=hh.1;omega
  have hnot:x∉done:=λq=>aj
  simp only[HD] at hl;rw[bS (s':=(done++[x],(cG m x).Next)) (by
   simp only[CL];rw[aN aj,e,aL,hc0.2 hw,gI,contains_eq (by grind[maxLen]),aL,gJ hnot];unfold CJ;rw[gI,show Int.tmod x 32=x % 32 from Int.tmod_eq_emod_of_nonneg (by have:=hh.1;omega),aFW hm.1.1.1 hcl hw.2,aL,aQI,aL,cN (show aBX (Z3 m.Heap (x % 32)) from hk),gI,OE];rfl)]
  rw[aNN hm r (done++[x]) _ hc aj ah];simp
theorem aS6(hm:lU m)(hb:m.Heap.Bytes.length<=maxLen)(ha:(iC m.aD).length<=1073741824)(h:ChT m x l)(hn:l.Nodup)(hl:l.length<=1000):GB m x=some (l,true):=by unfold GB;rw[BN hb ha,cN hm,aL,gI,aNN hm l [] x h aj aj];rfl
def bLU:List Int->Int->List Int
 |[],x=>[x]
 |a::t,x=>if a=x then a::t else if x<a then x::a::t else a::bLU t x
def a4P(f:Int->List Int):Nat->List Int
 |0=>[]
 |k+1=>a4P f k++f k
def srt(l:List Int):List Int:=l.foldl bLU []
def aPL(c:Int->List Int)(J:Int->aI):List Int:=a4P c 2++a4P (λv=>own (J v)) 3
section
variable {Ky:List Int} {b:aA} {k:List bX} {c:Int->List Int} {q:Int->Nat} {J:Int->aI} (h:sB Ky b k c q J)
include h
theorem a14(s:Int):Z5 (aPL c J) s=ind b s:=by rw[<-h.cnt s];grind[aPL,a4P,U0,cnC,cnO]
theorem bJF(hx:x∈aPL c J):kE b.Mem x/\¬bG b.aQ (x % 32):=by
 refine⟨?_,?_⟩
 ·have:x∈c 0\/x∈c 1\/x∈own (J 0)\/x∈own (J 1)\/x∈own (J 2):=by grind[aPL,a4P]
  rcases this with m|m|m|m|m
  ·exact((h.ch 0 (by simp[oS])).all x m).1
  ·exact((h.ch 1 (by simp[oS])).all x m).1
  ·exact h.ok 0 (by simp[fC]) x m
  ·exact h.ok 1 (by simp[fC]) x m
  ·exact h.ok 2 (by simp[fC]) x m
 ·have:=RK hx;rw[a14 h] at this;grind[ind]
theorem a15:((aPL c J).map (· % 32)).Nodup:=List.nodup_iff_count.2 λs=>by have:=a14 h s;grind[Z5,ind]
theorem a4Q:(aPL c J).Nodup:=(List.pairwise_map.1 (a15 h)).imp λh e=>h (by rw[e])
theorem a16(hx:x∈aPL c J):(0<=x % 32/\x % 32<24)/\x % 32 % 4<2/\x≠0:=by obtain⟨⟨lv,h10⟩,_⟩:=bJF h hx;obtain⟨a,e,f⟩:=qU (dN lv.2.1);rw[f] at h10;have:=lv.1;grind[lK,cH,jC]
theorem bE9:(aPL c J).length<=12:=by
 have e:=a4A (p:=λi:Nat=>decide ((i:Int)∈(aPL c J).map (· % 32))) (n:=24) (a15 h) (λx hx=>by
  grind[a16]) (λi _=>ae)
 rw[List.length_map] at e;rw[<-e];unfold bED;refine lW (m:=((List.range 24).filter λi:Nat=>decide (i % 4<2)).length) ?_ ai;rw[<-List.countP_eq_length_filter,<-List.countP_eq_length_filter];refine List.countP_mono_left λi _ hi=>?_;obtain⟨y,hy,e⟩:=AR.1 (of_decide_eq_true hi);grind[a16]
end
section
variable {Ky:List Int} {t:Table} {c:Int->List Int} {q:Int->Nat} (hv:TV t) (h:sB Ky t.aA t.aS c q (aE t))
include hv h
theorem aZL(hi:oS i):(c i).length<=12/\(c i).Nodup:=by have h1:=bE9 h;grind[a4Q,aPL,a4P]
theorem bAQ:J4 t=some ([c 0,c 1],true):=by
 have hm:=hv.base.1.1;obtain⟨hcnt,h3,h9,h384,_⟩:=lU.facts hm;have k2:=hv.bk.1;have e:∀i:Int,oS i->idx t.aS i=some (dW t.aS i)/\GB t.aA.Mem (dW t.aS i).Head=some (c i,true):=λi hi=>by obtain⟨a,b⟩:=aZL hv h hi;refine⟨?_,aS6 hm (by grind[maxLen]) aa (h.ch i hi) b aa⟩;grind[hU,dW]
 have key:loop (xV t) (([]:List (List Int)),0)=some (Out.brk [c 0,c 1]):=by
  rw[bS (s':=([c 0],1)) (by simp_all[xV,cQ,b7]),
   bS (s':=([c 0,c 1],2)) (by simp_all[xV,cQ,b7]),aZ (r:=Out.brk [c 0,c 1]) (by grind[xV])]
 unfold J4;rw[aEH hv,aL,gI,key];rfl
end
theorem aQY{s:List KV}{p:KV->Bool}(hl:s.length<=4611686018427387904) :
  (∃j,∃h:j<s.length,(∀i (h:i<s.length),i<j->p s[i]=false)/\p s[j]=true/\iY s (λy=>some (p y))=some (j:Int))\/((∀i (h:i<s.length),p s[i]=false)/\iY s (λy=>some (p y))=some (-1)):=by
 rcases SR (f:=tO s (λy=>some (p y))) (p:=p) hl (λk=>by
  simp only[tO];by_cases h:k<s.length
  ·rw[dif_pos h,eG,aW h,aL,aL,dU];rfl
  grind) s.length 0 aa with ⟨j,h,_,h2,h3,h4⟩|⟨h1,h2⟩
 ·refine .inl ⟨j,h,λi hi a=>h2 i hi (i4 _) a,h3,?_⟩;unfold iY;rw[show(0:Int)=((0:Nat):Int) from rfl,h4];rfl
 ·refine .inr ⟨λi hi=>h1 i hi (i4 _),?_⟩;unfold iY;rw[show(0:Int)=((0:Nat):Int) from rfl,h2];rfl
theorem aNO{s:List KV}{p:KV->Bool}(hl:s.length<=4611686018427387904):pM s (λy=>some (p y))=some (s.filter λx=>!p x):=by
 unfold pM;rcases aQY (p:=p) hl with ⟨j,h,h1,h2,h3⟩|⟨h1,h3⟩
 ·have ne:¬(((j:Int) == -1)=true):=ae
  rw[h3,aL,aP ne,dU];obtain⟨M,k,g1,g2,g3,g4⟩:=aJB (p:=p) (n:=s.length) (f:=mA (λy=>some (p y))) hl (λL i j h hn hi=>by
   simp only[mA];rw[eG,aW h,aL,aL];by_cases hp:p L[j]=true
   ·rw[aN hp,aP (by simp[hp])];grind[jT,cQ]
   ·rw[aP hp,aN aj,WL,aL];grind[jT,cQ]) (λL i j h=>by
   grind[mA]) (s.length-(j+1)) s j (j+1) aa rfl aa
  grind[DY,DX,b7,eU,aP4,aU7]
 ·rw[h3,aL,aN ak,List.filter_eq_self.2];grind[WT]
theorem bAR{O:Type}{p:O->Bool}:∀{l:List O},(∀x∈l,p x=true)->l.dropWhile p=[]
 |[],_=>rfl
 |a::l,h=>by rw[List.dropWhile_cons,aN (h a ae),bAR λx hx=>h x (by simp[hx])]
def mpF(m:List KV)(k v:Int):List KV:=(m.filter λx=>!(x.Key == k)).takeWhile (λx=>!decide (k<x.Key))++⟨k,v⟩::(m.filter λx=>!(x.Key == k)).dropWhile (λx=>!decide (k<x.Key))
theorem aF5{m:List KV}(hl:m.length<=100000)(k v:Int):sM m k v=some (mpF m k v):=by
 unfold sM J2 kK;rw[OE,aL,OU,show(λy0=>JC y0 k)=(λy=>some (y.Key == k)) from rfl,aNO aa,aL,aL];unfold mpF;have hd:(m.filter λx=>!(x.Key == k)).length<=m.length:=aTI _ _;generalize (m.filter λx=>!(x.Key == k))=d at hd;have ins:∀j:Nat,j<=d.length->xS k v d (j:Int)=some (d.take j++⟨k,v⟩::d.drop j):=λj hj=>by grind[xS,H6,b7]
 rw[show(λy0=>QO y0 k)=(λy=>some (decide (k<y.Key))) from rfl];rcases aQY (s:=d) (p:=λy=>decide (k<y.Key)) aa with ⟨j,h,h1,h2,h3⟩|⟨h1,h3⟩
 ·obtain⟨e1,e2⟩:=aSI (q:=λx:KV=>!decide (k<x.Key)) h (λi hi a=>aj) aj;grind
 ·have hall:∀x∈d,(!decide (k<x.Key))=true:=λx hx=>by grind[WT]
  have e0:d.dropWhile (λx:KV=>!decide (k<x.Key))=[]:=bAR hall;have e1:=aTK (p:=λx:KV=>!decide (k<x.Key)) (l:=d);grind
theorem bFA{m:List KV}{k v:Int}(h:∀x∈m,x.Key≠k):(mpF m k v).length=m.length+1/\∀x,x∈mpF m k v↔x=⟨k,v⟩\/x∈m:=by unfold mpF;rw[List.filter_eq_self.2 (λx hx=>aj)];have e:=aTK (p:=λx:KV=>!decide (k<x.Key)) (l:=m);grind
def chF(m:Mem)(l:List Int)(a:List KV):List KV:=l.foldr (λh a=>mpF a (cG m h).Key (cG m h).dM) a
theorem aEI{m:Mem}{a:List KV}:∀{l:List Int},(mP m l).Nodup->(∀x∈a,∀y∈l,x.Key≠(cG m y).Key)->(chF m l a).length=a.length+l.length/\∀x,x∈chF m l a↔x∈a\/∃y∈l,x=⟨(cG m y).Key,(cG m y).dM⟩
 |[],_,_=>by simp[chF]
 |h::l,hn,hd=>by unfold mP at hn;rw[D9,WU] at hn;obtain⟨i1,i2⟩:=aEI (l:=l) hn.2 (λx hx y hy=>hd x hx y (lE _ hy));grind[chF,bFA]
section
variable {Ky:List Int} {t:Table} {c:Int->List Int} {q:Int->Nat} (hv:TV t) (h:sB Ky t.aA t.aS c q (aE t))
include hv h
theorem aZM{i:Int}(hi:oS i):∀{l A:List Int} {a:List KV},c i=A++l->(mP t.aA.Mem l).Nodup->(∀x∈a,∀y∈l,x.Key≠(cG t.aA.Mem y).Key)->a.length<=1000->l.length<=100->tmB t l a=some (chF t.aA.Mem l a)
 |[],_,_,_,_,_,_,_=>rfl
 |x::l,A,a,e,hn,hd,ha,hl=>by have hm:=hv.base.1.1;unfold mP at hn;rw[D9,WU] at hn;rw[HD] at hl;have hd':∀z∈a,∀y∈l,z.Key≠(cG t.aA.Mem y).Key:=λz hz y hy=>hd z hz y (lE _ hy);have ih:=aZM hi (l:=l) (A:=A++[x]) (a:=a) (by rw[e];simp) hn.2 hd' ha aa;obtain⟨w1,w2⟩:=(h.ch i hi).all x (by rw[e];simp);obtain⟨hcl,hh⟩:=w1.cls;have hlen:=(aEI (m:=t.aA.Mem) (l:=l) hn.2 hd').1;unfold tmB;rw[ih,aL,show Int.tmod x 32=x % 32 from Int.tmod_eq_emod_of_nonneg (by have:=hh.1;omega),aFW hm.1.1.1 hcl w1.2,aL];exact aF5 aa _ _
def a4S(m:Mem)(c:Int->List Int):List KV:=chF m (c 1) (chF m (c 0) [])
theorem aWR:∀x∈chF t.aA.Mem (c 0) [],∀y∈c 1,x.Key≠(cG t.aA.Mem y).Key:=λx hx y hy e=>by
 obtain⟨k1,k2⟩:=h.key 0 (by simp[oS]);obtain⟨k3,k4⟩:=h.key 1 (by simp[oS]);rcases((aEI (a:=[]) k1 ae).2 x).1 hx with q|⟨z,hz,rfl⟩
 ·cases q
 ·have e1:=(k2 _ (AR.2 ⟨z,hz,rfl⟩)).1;have e2:=(k4 _ (AR.2 ⟨y,hy,rfl⟩)).1;grind
theorem bFB:A8 t=some (a4S t.aA.Mem c)/\(a4S t.aA.Mem c).length=(c 0).length+(c 1).length:=by obtain⟨k1,_⟩:=h.key 0 (by simp[oS]);obtain⟨k3,_⟩:=h.key 1 (by simp[oS]);have l0:=(aZL hv h (i:=0) (by simp[oS])).1;have l1:=(aZL hv h (i:=1) (by simp[oS])).1;obtain⟨e0,_⟩:=aEI (m:=t.aA.Mem) (a:=[]) k1 ae;obtain⟨e1,_⟩:=aEI (m:=t.aA.Mem) k3 (aWR hv h);refine⟨?_,by grind[a4S]⟩;unfold A8;rw[bAQ hv h,aL];simp only[tmL];rw[aZM hv h (by simp[oS]) (A:=[]) rfl k1 ae ae aa,aL,aZM hv h (by simp[oS]) (A:=[]) rfl k3 (aWR hv h) aj aa];rfl
end
abbrev MS:=Int->Option Int
def upM(M:MS)(k:Int)(v:Option Int):MS:=λx=>if x=k then v else M x
def aF6(M:MS)(c:iB):MS×fV:=
 if c.Kind=2 then(upM M c.Key (some c.dM),⟨false,0⟩)
 else if c.Kind=3 then(upM M c.Key none,⟨false,0⟩)
 else if c.Kind=4 then(upM M c.Key (some (G5 ((M c.Key).getD 0) c.dM)),⟨true,G5 ((M c.Key).getD 0) c.dM⟩)
 else(M,⟨(M c.Key).isSome,(M c.Key).getD 0⟩)
def D2(M:MS):List iB->MS×List fV
 |[]=>(M,[])
 |c::l=>((D2 (aF6 M c).1 l).1,(aF6 M c).2::(D2 (aF6 M c).1 l).2)
theorem U4(c:iB):∀(l:List iB) (M:MS),D2 M (l++[c])=((aF6 (D2 M l).1 c).1,(D2 M l).2++[(aF6 (D2 M l).1 c).2])
 |[],M=>rfl
 |d::l,M=>by simp only[D7,D2,U4 c l]
def apw(W:List aT)(M:MS):MS:=λk=>match W.find? (λy=>y.Key == k) with
 |some x=>wv x
 |none=>M k
theorem aEJ(M:MS):apw [] M=M:=rfl
theorem a17(W:List aT)(x:aT)(M:MS):apw (vF W x) M=upM (apw W M) x.Key (wv x):=by
 have e:=aTK (p:=λy:aT=>!decide (x.Key<y.Key)) (l:=W.filter λy=>!(y.Key == x.Key));funext k;unfold apw upM vF;by_cases h:k=x.Key
 ·subst h;have hn:((W.filter λy=>!(y.Key == x.Key)).takeWhile (λy=>!decide (x.Key<y.Key))).find? (λy=>y.Key == x.Key)=none:=by grind[List.takeWhile_sublist]
  grind
 ·have hf:(W.filter λy=>!(y.Key == x.Key)).find? (λy=>y.Key == k)=W.find? (λy=>y.Key == k):=aj
  grind
theorem a18(W:List aT)(M:MS)(k:Int):apw W M k=if(OT W k).2 then(if(OT W k).1.HC then none else some (OT W k).1.dM) else M k:=by unfold apw OT;cases W.find? λy=>y.Key == k<;>rfl
theorem aWS{W:List aT}{M:MS}{k:Int}(h:∀y∈W,y.Key≠k):apw W M k=M k:=by grind[apw]
theorem S9{W:List aT}{M N:MS}{k:Int}(h:M k=N k):apw W M k=apw W N k:=by grind[apw]
theorem aWT{W:List aT}(hs:W.Pairwise (λx y=>x.Key<y.Key))(h0:0<=K)(h:K<W.length)(M:MS)(k:Int):apw (W.drop K.toNat) M k=if k=(W.getD K.toNat ⟨0,false,0⟩).Key then wv (W.getD K.toNat ⟨0,false,0⟩) else apw (W.drop (K+1).toNat) M k:=by
 have hi:K.toNat<W.length:=aa
 have e:(K+1).toNat=K.toNat+1:=aa
 unfold apw;rw[uE hi,DN,iS hi,aCC,List.find?_cons,e];grind
theorem bFC{W:List aT}(hs:W.Pairwise (λx y=>x.Key<y.Key))(h0:0<=K)(h:K<W.length):∀y∈W.drop (K+1).toNat,y.Key≠(W.getD K.toNat ⟨0,false,0⟩).Key:=λy hy=>by
 have hi:K.toNat<W.length:=aa
 rw[show(K+1).toNat=K.toNat+1 by omega] at hy;rw[DN,iS hi,aCC];have h1:=hs.sublist (List.drop_sublist K.toNat W);grind[uE,aJ3]
def bAS(G:List (Int×Option Int))(M:MS):Prop:=∀g∈G,M g.1=g.2
def Did(G:List (Int×Option Int))(j:aI):Prop:=∀M,bAS G M->D2 M (j.Batch.bM.take j.At.toNat)=(apw j.aH M,j.fV)
section
variable {G G':List (Int×Option Int)} {j:aI} (h:Did G j) (hat:0<=j.At) (hc:tZ j)
include h hat hc
theorem aF7:j.Batch.bM.take (j.At+1).toNat=j.Batch.bM.take j.At.toNat++[cD j]:=by
 unfold tZ at hc;have hi:j.At.toNat<j.Batch.bM.length:=aa
 unfold cD
 (simp_all;omega)
theorem bFD(hk:(cD j).Kind=2\/(cD j).Kind=3)(e1:j'.Batch=j.Batch)(e2:j'.At=j.At+1)(e3:j'.aH=vF j.aH ⟨(cD j).Key,(cD j).Kind == 3,(cD j).dM⟩)(e4:j'.fV=j.fV++[⟨false,0⟩]):Did G j':=λM hM=>by rw[e1,e2,e3,e4,aF7 h hat hc,U4,h M hM,a17];grind[aF6,wv]
theorem a2A{v:Int}{is:Bool}(hG:∀M,bAS G' M->bAS G M)(hk:(cD j).Kind=1\/(cD j).Kind=4)(hv:∀M,bAS G' M->apw j.aH M (cD j).Key=if is then some v else none)(hl:(vF j.aH ⟨(cD j).Key,false,G5 (if is then v else 0) (cD j).dM⟩).length<=6):Did G' (qL j (cD j) v is):=λM hM=>by
 have hd:=h M (hG M hM);have hx:=hv M hM;unfold qL;rcases hk with k|k
 ·rw[gR];unfold UX;simp only;rw[aF7 h hat hc,U4,hd];grind[aF6]
 ·rw[aN k];unfold WN nT;rw[aP (show ¬6<(vF j.aH ⟨(cD j).Key,false,G5 (if is then v else 0) (cD j).dM⟩).length by omega),aN rfl];unfold UX;simp only;rw[aF7 h hat hc,U4,hd,a17];grind[aF6,wv]
end
def BkS(k k':List bX)(w:Int)(j:aI)(i:Int):Prop:=
 ((dW k' i).eJ=(dW k i).eJ/\((dW k' i).eI=(dW k i).eI\/(j.Pc=7/\(dW k i).eI=0/\(dW k' i).eI=w+1/\(dW k i).eJ≠1000000)\/(j.Pc=16/\(dW k i).eI=w+1/\(dW k' i).eI=0))) \/
 (j.Pc=14/\(dW k i).eI=w+1/\(dW k' i).eI=0/\(dW k' i).eJ=if 1000000<(dW k i).eJ+1 then 1000000 else(dW k i).eJ+1)
theorem bFE(h0:0<=j.K)(h:j.K<(pR j.aH).length):oS (fU j):=by grind[fU,SY,dB]
theorem bAT(h:0<j.bG.length):wQ j∈j.bG:=by grind[wQ]
theorem aNP{b:aA}(h2:k.length=2)(hj:JB j)(hl:ZL k w j)(hi:oS i):BkS k (fF b k w j).k w j i:=by
 have same:∀{k':List bX},(dW k' i).eJ=(dW k i).eJ->(dW k' i).eI=(dW k i).eI->BkS k k' w j i:=λa b=>.inl ⟨a,.inl b⟩;have hd:∀(i' x:Int),oS i'->BkS k (k.set i'.toNat {dW k i' with Head:=x}) w j i:=λi' x hi'=>by grind[qV]
 unfold fF;have P:∀{c:Prop} [Decidable c] {x y:TR},(c->BkS k x.k w j i)->(¬c->BkS k y.k w j i)->_:=dL (P:=λr=>BkS k r.k w j i);refine P (λ_=>same rfl rfl) λ_=>P (λ_=>same rfl rfl) λ_=>P (λ_=>same rfl rfl) λ_=>P (λ_=>same rfl rfl) λ_=>P (λp=>?_) λ_=>P (λ_=>same rfl rfl) λ_=>P (λp=>?_) λ_=>P (λp=>?_) λ_=>P (λ_=>same rfl rfl) λ_=>P (λ_=>same rfl rfl) λ_=>P (λ_=>same rfl rfl) λ_=>P (λ_=>same rfl rfl) λ_=>same rfl rfl
 ·show BkS k (oD k w j).1 w j i;have key:∀(h:j.K<(pR j.aH).length),(dW k (fU j)).eI=0->(dW k (fU j)).eJ≠1000000->BkS k (k.set (fU j).toNat {dW k (fU j) with eI:=w+1}) w j i:=λh a c=>by
   have hb:=bFE hj.k.1 h;by_cases e:i=fU j
   ·refine .inl ⟨?_,.inr (.inl ⟨p,?_⟩)⟩
    ·rw[qV h2 hb hi,aN e,e]
    ·rw[qV h2 hb hi,aN e,e];exact⟨a,rfl,c⟩
   simp_all[qV]
  unfold oD;grind
 ·show BkS k (lV b k j).2.1 w j i;unfold lV;split
  ·grind
  rename_i q;have hx:=hj.wr.2.1 (mO j) (by
   have hi:j.K.toNat<j.aH.length:=by have:=hj.k;omega
   grind[mO])
  have hb:oS (jD (mO j).Key):=by unfold jD;omega
  grind
 ·show BkS k (AO k j).1 w j i;unfold AO;split
  ·rename_i h0;have hm:=bAT h0;have hb:=hj.held.1 _ hm;have hlk:=(hl.iff _ hb).1 hm;by_cases e:i=wQ j
   ·by_cases p14:j.Pc=14
    ·refine .inr ⟨p14,?_⟩;rw[qV h2 hb hi,aN e,aN p14,e];exact⟨hlk,rfl,rfl⟩
    ·refine .inl ⟨?_,.inr (.inr ⟨aa,?_⟩)⟩
     ·rw[qV h2 hb hi,aN e,aP p14,e]
     ·rw[qV h2 hb hi,aN e,aP p14,e];exact⟨hlk,rfl⟩
   simp_all[qV]
  grind
structure Bz (n:Int) (t:Table):Prop where
 v:TV t
 pl:PlT n t
 lg:a39 t
 lv:∀i,oS i->(dW t.aS i).eI≠0->(dW t.aS i).eJ≠1000000
 rv:∀w,fC w->∀s∈(aE t w).Reads,s.eJ<=(dW t.aS s.bX).eJ
 tu:∀x∈t.Log,∀y∈t.Log,x.Kind=3->y.Kind=3->x.aG=y.aG->x=y
theorem bAU{b:aA}(hp:0<=j.Pc/\j.Pc<=21):∀s∈(fF b k w j).j.Reads,s∈j.Reads\/s=⟨j.bX,j.eJ⟩/\(dW k j.bX).eJ=j.eJ:=by
 unfold fF;have P:∀{c:Prop} [Decidable c] {x y:TR},(c->∀s∈x.j.Reads,s∈j.Reads\/s=⟨j.bX,j.eJ⟩/\(dW k j.bX).eJ=j.eJ)->(¬c->∀s∈y.j.Reads,s∈j.Reads\/s=⟨j.bX,j.eJ⟩/\(dW k j.bX).eJ=j.eJ)->_:=dL (P:=λr=>∀s∈r.j.Reads,s∈j.Reads\/s=⟨j.bX,j.eJ⟩/\(dW k j.bX).eJ=j.eJ);have E:∀{j':aI},j'.Reads=j.Reads->∀s∈j'.Reads,s∈j.Reads\/s=⟨j.bX,j.eJ⟩/\(dW k j.bX).eJ=j.eJ:=λe s hs=>.inl (e ▸ hs);have rr:∀(j:aI) (x:aT),(nT j x).2.Reads=j.Reads:=λj x=>by unfold nT sE;split<;>rfl
 have ra:∀(j:aI) c v is,(qL j c v is).Reads=j.Reads:=λj c v is=>by
  unfold qL;split
  ·generalize (if is then v else 0)=u;have h:=rr j ⟨c.Key,false,G5 u c.dM⟩;unfold WN;split
   ·exact h
   ·exact h
  ·rfl
 refine P (λ_=>E ?_) λ_=>P (λ_=>E ?_) λ_=>P (λp=>?_) λ_=>P (λ_=>E ?_) λ_=>P (λ_=>E ?_) λ_=>P (λ_=>E ?_) λ_=>P (λ_=>E ?_) λ_=>P (λ_=>E ?_) λ_=>P (λ_=>E ?_) λ_=>P (λ_=>E ?_) λ_=>P (λ_=>E rfl) λ_=>P (λ_ s hs=>by cases hs) λ_=>E rfl
 ·show(oE b w j).2.Reads=_;grind[oE]
 ·show(qH j).Reads=_;grind[qH]
 ·show ∀s∈(iM b k w j).Reads,_;unfold iM;split
  ·split<;>exact E rfl
  split
  ·exact E rfl
  split
  ·split
   ·exact E rfl
   ·split<;>exact E rfl
  ·split
   ·exact E rfl
   rename_i q;have hv:(dW k j.bX).eJ=j.eJ:=Classical.byContradiction λz=>q (.inr z);have sp:∀s∈(rX j.Reads j.bX j.eJ).1,s∈j.Reads\/s=⟨j.bX,j.eJ⟩/\(dW k j.bX).eJ=j.eJ:=λs hs=>by
    unfold rX at hs;split at hs
    ·exact .inl hs
    ·rcases dE.1 hs with hs|hs
     ·exact .inl hs
     ·exact .inr ⟨jO.1 hs,hv⟩
   split
   ·exact sp
   split
   ·rw[ra];exact sp
   ·exact sp
 ·show(vH b w j).2.Reads=_;grind[vH,sE]
 ·show(oD k w j).2.1.Reads=_;grind[oD,IG,sE]
 ·show(KH k w j).Reads=_;grind[KH,sE]
 ·show(lV b k j).2.2.Reads=_;grind[lV,MO,MP,sE]
 ·show(AO k j).2.Reads=_;grind[AO,KI]
 ·show(DL b w j).2.Reads=_;grind[DL,KI]
 ·show(DM b w j).2.Reads=_;grind[DM]
theorem BkS.le(h:BkS k k' w j i)(hv:(dW k i).eJ<=1000000):(dW k i).eJ<=(dW k' i).eJ:=by
 rcases h with ⟨a,_⟩|⟨_,_,_,a⟩
 ·omega
 ·rw[a];split<;>omega
theorem bAV(hv:TV t)(hi:oS i):(dW t.aS i).eJ<=1000000:=(hv.bk.2 _ (aSS hv.bk.1 hi)).2.1.2
theorem Bz.jb(h:Bz n t)(hw:fC w)(hB:(aE t w).bU=true):JB (aE t w):=(h.v.yN.2 _ (zP h.v.yN.1 hw)).resolve_left λe=>by rw[e] at hB;cases hB
theorem Bz.step(hw:fC w)(h:Bz n t):Bz n (bH t w):=by
 have h3:=h.v.yN.1;have hpl:=h.pl;obtain⟨_,q,hs⟩:=h.pl;obtain⟨c,sv⟩:=hs.sv;refine⟨h.v.step hw,hpl.step h.v hw,h.lg.step h.v hw,?_,?_,?_⟩
 ·intro i hi hn;unfold bH at hn ⊢;by_cases hB:(aE t w).bU=true
  ·rw[aN hB] at hn ⊢;have b1:=aNP (b:=t.aA) h.v.bk.1 (h.jb hw hB) (hs.lk w hw) hi;have lv:=h.lv i hi;show(dW (fF t.aA t.aS w (aE t w)).k i).eJ≠_;have hn:(dW (fF t.aA t.aS w (aE t w)).k i).eI≠0:=hn;unfold fC at hw;rcases b1 with ⟨a,b|b|b⟩|b
   ·rw[a];exact lv aa
   ·rw[a];exact b.2.2.2
   ·omega
   ·omega
  ·rw[aP hB] at hn ⊢;split at hn<;>split<;>first|exact h.lv i hi hn|contradiction
 ·intro v hv s hs';unfold bH at hs' ⊢;by_cases hB:(aE t w).bU=true
  ·rw[aN hB] at hs' ⊢;have ej:aE (yL t w (fF t.aA t.aS w (aE t w))) v=zQ (aE t) w (fF t.aA t.aS w (aE t w)).j v:=P6 h3 hw rfl hv;rw[ej] at hs';show s.eJ<=(dW (fF t.aA t.aS w (aE t w)).k s.bX).eJ;have le:∀{u:Int},oS u->(dW t.aS u).eJ<=(dW (fF t.aA t.aS w (aE t w)).k u).eJ:=λhu=>(aNP (b:=t.aA) h.v.bk.1 (h.jb hw hB) (hs.lk w hw) hu).le (bAV h.v hu);have old:∀u,fC u->s∈(aE t u).Reads->s.eJ<=(dW (fF t.aA t.aS w (aE t w)).k s.bX).eJ:=λu hu m=>by
    have a:=h.rv u hu s m;have hb:oS s.bX:=by
     rcases h.v.yN.2 _ (zP h3 hu) with e|e
     ·rw[e] at m;cases m
     ·exact e.reads.1 s m
    grind
   by_cases e:v=w
   ·rw[e,iN] at hs';rcases bAU (sv.tw w hw hB).pc s hs' with m|⟨e1,e2⟩
    ·grind
    ·rw[e1];exact e2 ▸ le (h.jb hw hB).bkt
   grind[uB]
  ·rw[aP hB] at hs' ⊢;by_cases hq:(rZ t w).length=0\/t.aG=1000000
   ·rw[aN hq] at hs' ⊢;exact h.rv v hv s hs'
   ·rw[aP hq] at hs' ⊢;have ej:aE (sA t w ((rZ t w).getD 0 ⟨false,[]⟩)) v=zQ (aE t) w (jG ((rZ t w).getD 0 ⟨false,[]⟩) (t.aG+1)) v:=P6 h3 hw rfl hv;rw[ej] at hs';by_cases e:v=w
    ·rw[e,iN] at hs';cases hs'
    ·rw[uB _ _ e] at hs';exact h.rv v hv s hs'
 ·have add:∀z:iD,(z.Kind=3->∀x∈t.Log,x.Kind=3->x.aG≠z.aG)->∀x∈t.Log++[z],∀y∈t.Log++[z],x.Kind=3->y.Kind=3->x.aG=y.aG->x=y:=λz hz x hx y hy kx ky e=>by
   rcases dE.1 hx with hx|hx<;>rcases dE.1 hy with hy|hy
   ·exact h.tu x hx y hy kx ky e
   ·rw[jO.1 hy] at ky e;exact absurd e (hz ky x hx kx)
   ·rw[jO.1 hx] at kx e;exact absurd e.symm (hz kx y hy ky)
   ·rw[jO.1 hx,jO.1 hy]
  unfold bH;by_cases hB:(aE t w).bU=true
  ·rw[aN hB];show ∀x∈t.Log++_,∀y∈t.Log++_,_;rcases aVX t.aA t.aS w (aE t w) with ⟨_,_,e|e⟩|⟨_,e⟩<;>rw[e]
   ·rw[uD];exact h.tu
   ·grind
   ·exact add _ λ_=>(h.lg.job w hw hB).tell
  ·rw[aP hB];split
   ·exact h.tu
   ·exact add _ λz=>by cases z
inductive Rn:Table->Table->Prop
 |refl (t:Table):Rn t t
 |step {t e:Table} {w:Int}:fC w->Rn (bH t w) e->Rn t e
theorem Rn.trans{a b c:Table}(h:Rn a b)(k:Rn b c):Rn a c:=by
 induction h with
 |refl=>exact k
 |step hw _ ih=>exact .step hw (ih k)
theorem a2B:∀(l:List Int) (t:Table),Rn t (HO t l)
 |[],t=>.refl t
 |p::l,t=>by
  have:=a2B l (P4 t p);show Rn t (HO (P4 t p) l);unfold P4 at this ⊢;split at this
  ·rw[aN (by assumption)];exact .step (by assumption) this
  grind
theorem bAW:∀(n k:Nat) (t:Table),Rn t (S7 n k t)
 |0,_,t=>.refl t
 |n + 1,k,t=>by
  unfold S7;split
  ·exact .refl t
  ·exact .step (aJU k) (bAW n (k+1) _)
def vI(e:Table)(s:Int):Bool:=e.Log.any λx=>x.Kind == 3 && x.aG == s && x.Code == 0
theorem aEK:vI e s=true↔∃x∈e.Log,x.Kind=3/\x.aG=s/\x.Code=0:=by simp[vI,and_assoc]
theorem bAX(h:∀x∈e.Log,x.Kind=3->x.aG=s->x.Code≠0):vI e s=false:=by grind[aEK]
theorem aWU(t:Table)(w:Int):∃m,(bH t w).Log=t.Log++m:=by
 unfold bH;split
 ·exact⟨_,rfl⟩
 ·split
  ·simp
  ·exact⟨_,rfl⟩
theorem Rn.log(h:Rn t e):∃m,e.Log=t.Log++m:=by
 induction h with
 |refl=>simp
 |step hw _ ih=>
  obtain⟨m,hm⟩:=ih;obtain⟨a,ha⟩:=aWU _ _;exact⟨a++m,by rw[hm,ha,oV]⟩
theorem aWV{b:aA}(h:16<=j.Pc/\j.Pc<=18):(fF b k w j).j.Code=j.Code:=by grind[fF,AO,DM]
theorem aS7{b:aA}(h:8<=j.Pc/\j.Pc<=18)(hp:j.Pc≠16/\j.Pc≠17)(hc:j.Code=0):((fF b k w j).j.Code=7/\j.Pc=8\/(fF b k w j).j.Code=1)\/(fF b k w j).j.Code=0/\(if j.Pc=8 then 8 else 9)<=(fF b k w j).j.Pc/\(fF b k w j).j.Pc<=19:=by
 rcases(by omega:j.Pc=8\/(9<=j.Pc/\j.Pc<=13)\/j.Pc=14\/j.Pc=15\/j.Pc=18) with p|p|p|p|p
 ·grind[fF,KH,sE]
 ·have e:(fF b k w j).j=(lV b k j).2.2:=by unfold fF;grind
  grind[lV,MO,MP,sE]
 ·grind[fF,AO,KI]
 ·have e:(fF b k w j).j=(DL b w j).2:=by grind[fF]
  grind[DL,KI]
 grind[fF]
section
variable {n:Int} {t:Table} (h:Bz n t)
include h
theorem Bz.ne{v:Int}(hv:fC v)(hw:fC w)(b1:(aE t v).bU=true)(b2:(aE t w).bU=true)(e:(aE t v).aG=(aE t w).aG):v=w:=Classical.byContradiction λq=>h.lg.ne v w hv hw q b1 b2 e
theorem Bz.tw(hw:fC w)(hB:(aE t w).bU=true):(0<=(aE t w).Pc/\(aE t w).Pc<=21)/\((aE t w).Code=0/\(aE t w).Pc≠16/\(aE t w).Pc≠17\/((aE t w).Code=3\/(aE t w).Code=6\/(aE t w).Code=7)/\16<=(aE t w).Pc/\(aE t w).Pc<=19):=by obtain⟨_,q,hs⟩:=h.pl;obtain⟨c,sv⟩:=hs.sv;exact⟨(sv.tw w hw hB).pc,(sv.tw w hw hB).cd⟩
theorem Bz.lk(hw:fC w):ZL t.aS w (aE t w):=by obtain⟨_,q,hs⟩:=h.pl;exact hs.lk w hw
theorem oT(hw:fC w)(hB:(aE t w).bU=true):bH t w=yL t w (fF t.aA t.aS w (aE t w))/\∀v,fC v->aE (bH t w) v=zQ (aE t) w (fF t.aA t.aS w (aE t w)).j v:=by
 have e:bH t w=yL t w (fF t.aA t.aS w (aE t w)):=by simp_all[bH]
 exact⟨e,λv hv=>by rw[e];exact P6 h.v.yN.1 hw rfl hv⟩
theorem IH(hw:fC w)(hB:(aE t w).bU≠true):aE t w=cZ/\(bH t w=t\/∃x∈rZ t w,bH t w=sA t w x/\∀v,fC v->aE (bH t w) v=zQ (aE t) w (jG x (t.aG+1)) v):=by
 refine⟨(h.v.yN.2 _ (zP h.v.yN.1 hw)).resolve_right λj=>hB j.busy,?_⟩;by_cases hq:(rZ t w).length=0\/t.aG=1000000
 ·simp_all[bH]
 ·right;have e:bH t w=sA t w ((rZ t w).getD 0 ⟨false,[]⟩):=by simp_all[bH]
  refine⟨_,?_,e,λv hv=>by rw[e];exact P6 h.v.yN.1 hw rfl hv⟩;grind
end
def a4T(t:Table)(s:Int):Prop:=s<=t.aG/\(∀x∈t.Log,x.Kind=3->x.aG=s->x.Code≠0)/\∀w,fC w->(aE t w).bU=true->(aE t w).aG=s->(aE t w).Code≠0
theorem a4T.step(h:Bz n t)(hw:fC w)(k:a4T t s):a4T (bH t w) s:=by
 obtain⟨k1,k2,k3⟩:=k;by_cases hB:(aE t w).bU=true
 ·obtain⟨e,ej⟩:=oT h hw hB;obtain⟨hpc,cd⟩:=h.tw hw hB;have dk:=wR t.aA t.aS w (aE t w) hpc;refine⟨by rw[e];exact k1,λx hx kx ex=>?_,λv hv hb es=>?_⟩
  ·rw[e] at hx;rcases dE.1 hx with hx|hx
   ·grind
   ·rcases dk with ⟨_,_,_,q|q⟩|⟨_,_,q⟩<;>rw[q] at hx
    ·cases hx
    ·grind
    ·rw[jO.1 hx] at ex ⊢;exact k3 w hw hB ex
  ·rw[ej v hv] at hb es ⊢;by_cases z:v=w
   ·rw[z,iN] at hb es ⊢;rcases dk with ⟨s1,_,_,_⟩|⟨_,q,_⟩
    ·have:=k3 w hw hB (s1.symm.trans es);rw[aWV]
     ·exact this
     ·refine⟨aa,?_⟩;have:=wR t.aA t.aS w (aE t w) hpc;by_cases p:(aE t w).Pc=19
      ·have e2:(fF t.aA t.aS w (aE t w)).j=cZ:=by simp_all[fF]
       rw[e2] at hb;cases hb
      ·omega
    ·rw[q] at hb;cases hb
   grind[uB]
 ·obtain⟨hn,e|⟨x,_,e,ej⟩⟩:=IH h hw hB
  ·rw[e];exact⟨k1,k2,k3⟩
  ·refine⟨by rw[e];show s<=t.aG+1;omega,λy hy ky ey=>?_,λv hv hb es=>?_⟩
   ·rw[e] at hy;rcases dE.1 hy with hy|hy
    ·exact k2 y hy ky ey
    ·rw[jO.1 hy] at ky;cases ky
   ·rw[ej v hv] at hb es ⊢;by_cases z:v=w
    ·rw[z,iN] at es;have:t.aG+1=s:=es;omega
    grind[uB]
theorem a4T.run(r:Rn t e)(h:Bz n t)(k:a4T t s):vI e s=false:=by
 induction r with
 |refl=>exact bAX k.2.1
 |step hw _ ih=>exact ih (h.step hw) (k.step h hw)
theorem a2C(r:Rn t e)(h:Bz n t)(hw:fC w)(hB:(aE t w).bU=true)(hc:(aE t w).Code≠0):vI e (aE t w).aG=false:=
 a4T.run r h ⟨h.lg.jle w hw hB,λx hx k q=>absurd q ((h.lg.job w hw hB).tell x hx k),λv hv b q=>by rw[h.ne hv hw b hB q];exact hc⟩
theorem bFF(r:Rn t e)(he:∀v,fC v->(aE e v).bU=false)(h:Bz n t)(k:(∃x∈t.Log,x.Kind=3/\x.aG=s/\x.Code=0)\/∃w,fC w/\(aE t w).bU=true/\(aE t w).aG=s/\(aE t w).Code=0/\9<=(aE t w).Pc/\(aE t w).Pc<=19):vI e s=true:=by
 induction r with
 |refl=>
  grind[aEK]
 |step hu _ ih=>
  rename_i t e u _;refine ih he (h.step hu) ?_;rcases k with ⟨x,m,k⟩|⟨w,hw,hB,es,hc,hp⟩
  ·obtain⟨l,el⟩:=aWU t u;grind
  ·by_cases z:w=u
   ·subst z;obtain⟨e1,ej⟩:=oT h hw hB;obtain⟨hpc,cd⟩:=h.tw hw hB;have dk:=wR t.aA t.aS w (aE t w) hpc;by_cases p:(aE t w).Pc=19
    ·left;rcases dk with ⟨_,q,_⟩|⟨_,_,q⟩
     ·exfalso;have e2:(fF t.aA t.aS w (aE t w)).j=cZ:=by unfold fF;simp only[p];rfl
      rw[e2,hB] at q;cases q
     ·refine⟨tlE w (aE t w),by rw[e1];exact aB8 _ (by rw[q];simp),rfl,es,hc⟩
    ·right;rcases dk with ⟨s1,s2,_⟩|⟨q,_⟩
     ·have hb':(aE (bH t w) w).bU=true:=by rw[ej w hw,iN,s2];exact hB
      have cd':=((h.step hw).tw hw hb').2;refine⟨w,hw,hb',by rw[ej w hw,iN,s1];exact es,?_⟩;rw[ej w hw,iN] at cd' ⊢;rcases aS7 (b:=t.aA) (k:=t.aS) (w:=w) (j:=aE t w) aa aa hc with c|⟨c1,c2,c3⟩
      ·omega
      ·rw[gR] at c2;exact⟨c1,c2,c3⟩
     ·omega
   ·right;have ej:aE (bH t u) w=aE t w:=by
     by_cases hBu:(aE t u).bU=true
     ·rw[(oT h hu hBu).2 w hw,uB _ _ z]
     ·obtain⟨_,q|⟨x,_,_,q⟩⟩:=IH h hu hBu
      ·rw[q]
      ·rw[q w hw,uB _ _ z]
    grind
def Holds(F:Int->Bool)(t:Table)(v i:Int):Prop:=(dW t.aS i).eI=v+1/\F (aE t v).aG=true/\8<=(aE t v).Pc
def Bad(F:Int->Bool)(t:Table)(w:Int):Prop:=∃s∈(aE t w).Reads.drop (aE t w).K.toNat,s.eJ<(dW t.aS s.bX).eJ\/∃v,fC v/\v≠w/\Holds F t v s.bX
theorem D3(h:Bz n t){v:Int}(hv:fC v)(hi:oS i)(hl:(dW t.aS i).eI=v+1):(aE t v).bU=true/\i∈(aE t v).bG/\(7<=(aE t v).Pc/\(aE t v).Pc<=14\/(aE t v).Pc=16):=by
 have hm:=((h.lk hv).iff i hi).2 hl;refine⟨?_,hm,(h.lk hv).pc (List.ne_nil_of_mem hm)⟩;rcases h.v.yN.2 _ (zP h.v.yN.1 hv) with e|e
 ·rw[e] at hm;cases hm
 ·exact e.busy
theorem Holds.step(h:Bz n t){u:Int}(hu:fC u)(r:Rn (bH t u) e){v:Int}(hv:fC v)(hi:oS i)(k:Holds (vI e) t v i):Holds (vI e) (bH t u) v i\/u=v/\(aE t v).Pc=14/\(dW (bH t u).aS i).eJ=(dW t.aS i).eJ+1/\(dW (bH t u).aS i).eI=0:=by
 obtain⟨k1,k2,k3⟩:=k;obtain⟨hB,hm,hp⟩:=D3 h hv hi k1;obtain⟨hpc,cd⟩:=h.tw hv hB;have hc:(aE t v).Code=0:=Classical.byContradiction λq=>by have:=a2C (.step hu r) h hv hB q;grind
 by_cases z:v=u
 ·subst z;obtain⟨e1,ej⟩:=oT h hv hB;have bk:=aNP (b:=t.aA) h.v.bk.1 (h.jb hv hB) (h.lk hv) hi;have lv:=h.lv i hi aa;have le:=bAV h.v hi;rcases bk with ⟨b1,b2|b2|b2⟩|⟨p,b1,b2,b3⟩
  ·left;rcases wR t.aA t.aS v (aE t v) hpc with ⟨s1,s2,_⟩|⟨q,_⟩
   ·unfold Holds;rw[ej v hv,iN,s1];refine⟨by rw[e1];exact b2.trans k1,k2,?_⟩;have hb':(aE (bH t v) v).bU=true:=by grind[iN]
    rcases aS7 (b:=t.aA) (k:=t.aS) (w:=v) (j:=aE t v) aa aa hc with c|⟨c1,c2,c3⟩
    ·exfalso;have:=a2C r (h.step hv) hv hb' (by grind[iN]);grind[iN]
    omega
   ·omega
  ·omega
  ·omega
  ·right;rw[e1];refine⟨rfl,p,?_,b2⟩;show(dW (fF t.aA t.aS v (aE t v)).k i).eJ=_;rw[b3,gR]
 ·left;unfold Holds;by_cases hBu:(aE t u).bU=true
  ·obtain⟨e1,ej⟩:=oT h hu hBu;have bk:=aNP (b:=t.aA) h.v.bk.1 (h.jb hu hBu) (h.lk hu) hi;rw[ej v hv,uB _ _ z];refine⟨?_,k2,k3⟩;rw[e1];show(dW (fF t.aA t.aS u (aE t u)).k i).eI=_;unfold fC at hv hu;rcases bk with ⟨b1,b2|b2|b2⟩|b
   ·rw[b2];exact k1
   ·omega
   ·omega
   ·omega
  ·obtain⟨_,q|⟨x,_,q1,q⟩⟩:=IH h hu hBu
   ·grind
   ·rw[q v hv,uB _ _ z,q1];exact⟨k1,k2,k3⟩
theorem aS8(h:Bz n t){u:Int}(hu:fC u)(hi:oS i):(dW t.aS i).eJ<=(dW (bH t u).aS i).eJ:=by
 by_cases hBu:(aE t u).bU=true
 ·rw[(oT h hu hBu).1];exact(aNP (b:=t.aA) h.v.bk.1 (h.jb hu hBu) (h.lk hu) hi).le (bAV h.v hi)
 ·obtain⟨_,q|⟨x,_,q1,q⟩⟩:=IH h hu hBu
  ·grind
  ·rw[q1];exact KJ _
theorem bNZ(r:Rn t e)(hw:fC w)(h:Bz n t)(hB:(aE t w).bU=true)(hp:(aE t w).Pc=8)(k:Bad (vI e) t w):vI e (aE t w).aG=false:=by
 induction r with
 |refl=>exact bAX λx hx k q=>absurd q ((h.lg.job w hw hB).tell x hx k)
 |step hu r ih=>
  rename_i t e u;obtain⟨s,hs,hk⟩:=k;have hb:oS s.bX:=(h.jb hw hB).reads.1 s (RN hs);have hk':s.eJ<(dW (bH t u).aS s.bX).eJ\/∃v,fC v/\v≠w/\Holds (vI e) (bH t u) v s.bX:=by
   rcases hk with k|⟨v,hv,hn,k⟩
   ·have:=aS8 h hu hb;left;omega
   ·rcases k.step h hu r hv hb with q|⟨_,_,q,_⟩
    ·grind
    ·have:=h.rv w hw s (RN hs);left;omega
  by_cases z:w=u
  ·subst z;obtain⟨e1,ej⟩:=oT h hw hB;have e2:(fF t.aA t.aS w (aE t w)).j=KH t.aS w (aE t w):=by grind[fF]
   have ew:aE (bH t w) w=KH t.aS w (aE t w):=by grind[iN]
   have hk0:=(h.jb hw hB).k;unfold KH at ew;split at ew
   ·grind[aB6]
   rename_i c1;split at ew
   ·have:=a2C r (h.step hw) hw (by rw[ew];exact hB) (by grind[sE]);rw[ew] at this;exact this
   ·rename_i c2;have hi:(aE t w).K.toNat<(aE t w).Reads.length:=aa
    rw[uE hi] at hs;have hin:s∈(aE t w).Reads.drop ((aE t w).K+1).toNat:=by
     rw[show((aE t w).K+1).toNat=(aE t w).K.toNat+1 by omega];rcases j3.1 hs with q|q
     ·exfalso;have er:rdN (aE t w)=s:=by rw[q];unfold rdN;rw[DN,iS hi];rfl
      rw[er] at c2;apply c2;rcases hk with k|⟨v,hv,hn,k,_⟩
      ·right;omega
      ·left;unfold fC at hv;omega
     ·exact q
    have:=ih (h.step hw) (by rw[ew];exact hB) (by rw[ew];exact hp) ⟨s,by rw[ew];exact hin,hk'⟩;rw[ew] at this;exact this
  ·have ej:aE (bH t u) w=aE t w:=by
    by_cases hBu:(aE t u).bU=true
    ·rw[(oT h hu hBu).2 w hw,uB _ _ z]
    ·obtain⟨_,q|⟨x,_,_,q⟩⟩:=IH h hu hBu
     ·rw[q]
     ·rw[q w hw,uB _ _ z]
   have:=ih (h.step hu) aj aj ⟨s,aj,hk'⟩;grind
structure FC (F:Int->Bool) (t:Table):Prop where
 ok:∀w,fC w->(aE t w).bU=true->F (aE t w).aG=true->(aE t w).Code=0/\((aE t w).Pc=8->¬Bad F t w)
 bLY:∀w,fC w->(aE t w).bU=true->(aE t w).Code=0->9<=(aE t w).Pc->(aE t w).Pc<=19->F (aE t w).aG=true
theorem aNQ(r:Rn t e)(he:∀v,fC v->(aE e v).bU=false)(h:Bz n t):FC (vI e) t:=
 ⟨λw hw hB hF=>⟨Classical.byContradiction λq=>(by grind[a2C]),λp q=>(by grind[bNZ])⟩,λw hw hB hc p1 p2=>bFF r he h (.inr ⟨w,hw,hB,rfl,hc,p1,p2⟩)⟩
def rpF(cm:Int->List iB)(a:MS×List (Int×List fV))(s:Int):MS×List (Int×List fV):=((D2 a.1 (cm s)).1,a.2++[(s,(D2 a.1 (cm s)).2)])
def rpS(cm:Int->List iB)(p:List Int):MS×List (Int×List fV):=p.foldl (rpF cm) (λ_=>none,[])
theorem aNR(cm:Int->List iB)(p:List Int)(s:Int):rpS cm (p++[s])=rpF cm (rpS cm p) s:=by grind[rpS]
def pts(F:Int->Bool)(l:List iD):List Int:=(l.filter λx=>x.Kind == 2 && F x.aG).map iD.aG
theorem a2D(F:Int->Bool)(l m:List iD):pts F (l++m)=pts F l++pts F m:=by grind[pts]
theorem bAY{F:Int->Bool}{m:List iD}(h:∀x∈m,x.Kind≠2):pts F m=[]:=by grind[pts,List.filter_eq_nil_iff]
def MT(F:Int->Bool)(cm:Int->List iB)(t:Table):MS:=(rpS cm (pts F t.Log)).1
def RT(F:Int->Bool)(cm:Int->List iB)(t:Table):List (Int×List fV):=(rpS cm (pts F t.Log)).2
def rmW(j:aI):List aT:=if j.Pc=8 then j.aH else if 9<=j.Pc/\j.Pc<=13 then j.aH.drop j.K.toNat else []
def Clr(F:Int->Bool)(t:Table)(i:Int):Prop:=∀v,fC v->¬Holds F t v i
def JRd(F:Int->Bool)(cm:Int->List iB)(t:Table)(j:aI):Prop:=∃G,Did G j/\∀g∈G,∃s∈j.Reads,s.bX=jD g.1/\(s.eJ=(dW t.aS s.bX).eJ->Clr F t s.bX->MT F cm t g.1=g.2)
structure Wlk (m:Mem) (c:Int->List Int) (P:Prop) (j:aI):Prop where
 key:(OT j.aH (cD j).Key).2=false/\jD (cD j).Key=j.bX/\((cD j).Kind=1\/(cD j).Kind=4)
 at3:j.Pc=3\/j.Pc=4->P->∃A B,c j.bX=A++j.H::B/\∀a∈A,(cG m a).Key≠(cD j).Key
 at4:j.Pc=4->P->j.Node=cG m j.H
 at5:j.Pc=5->P->lkp m (c j.bX) (cD j).Key=if j.Found then some j.Node.dM else none
structure IvC (F:Int->Bool) (cm:Int->List iB) (t:Table) (c:Int->List Int):Prop where
 free:∀i,oS i->Clr F t i->∀k,jD k=i->MT F cm t k=lkp t.aA.Mem (c i) k
 held:∀i,oS i->∀v,fC v->Holds F t v i->∀k,jD k=i->MT F cm t k=apw (rmW (aE t v)) (lkp t.aA.Mem (c i)) k
 job:∀w,fC w->(aE t w).bU=true->(aE t w).Code=0->(aE t w).Pc<=7->JRd F cm t (aE t w)
 walk:∀w,fC w->(aE t w).bU=true->2<=(aE t w).Pc->(aE t w).Pc<=5->((aE t w).Pc≠2->(aE t w).eJ<=(dW t.aS (aE t w).bX).eJ)/\Wlk t.aA.Mem c ((aE t w).eJ=(dW t.aS (aE t w).bX).eJ/\Clr F t (aE t w).bX) (aE t w)
 res:∀w,fC w->(aE t w).bU=true->F (aE t w).aG=true->8<=(aE t w).Pc->(aE t w).Pc<=19->(aE t w).Batch.Collect=false->((aE t w).aG,(aE t w).fV)∈RT F cm t
 tel:∀x∈t.Log,x.Kind=3->x.Code=0->cm x.aG≠[]->(x.aG,x.fV)∈RT F cm t
 pt:∀x∈t.Log,x.Kind=2->cm x.aG≠[]/\∀v,fC v->(aE t v).bU=true->(aE t v).aG=x.aG->8<=(aE t v).Pc
 pu:((t.Log.filter λx=>x.Kind == 2).map iD.aG).Nodup
 cv:∀x∈t.Log,x.Kind=1->x.bM.length<=6/\∀c∈x.bM,RJ c
def WS(j j':aI):Prop:=j'.Batch=j.Batch/\j'.At=j.At/\j'.aH=j.aH/\j'.fV=j.fV/\j'.Reads=j.Reads
theorem WS.did{G:List (Int×Option Int)}(h:WS j j')(d:Did G j):Did G j':=λM hM=>by obtain⟨a,b,c,e,_⟩:=h;rw[a,b,c,e];exact d M hM
theorem aNS{b:aA}(hp:0<=j.Pc/\j.Pc<=21)(h:j.Pc≠1/\j.Pc≠5/\j.Pc≠19):WS j (fF b k w j).j:=by
 unfold fF;have P:∀{c:Prop} [Decidable c] {x y:TR},(c->WS j x.j)->(¬c->WS j y.j)->_:=dL (P:=λr=>WS j r.j);refine P (λ_=>?_) λ_=>P (λp=>absurd p h.1) λ_=>P (λp=>?_) λ_=>P (λ_=>?_) λ_=>P (λ_=>?_) λ_=>P (λ_=>?_) λ_=>P (λ_=>?_) λ_=>P (λ_=>?_) λ_=>P (λ_=>?_) λ_=>P (λ_=>?_) λ_=>P (λ_=>⟨rfl,rfl,rfl,rfl,rfl⟩) λ_=>P (λp=>absurd p h.2.2) λ_=>⟨rfl,rfl,rfl,rfl,rfl⟩
 ·show WS j (oE b w j).2;unfold WS;grind[oE]
 ·show WS j (iM b k w j);have:¬j.Pc=5:=h.2.1;unfold WS iM sE;grind
 ·show WS j (vH b w j).2;unfold WS;grind[vH,sE]
 ·show WS j (oD k w j).2.1;unfold WS;grind[oD,IG,sE]
 ·show WS j (KH k w j);unfold WS;grind[KH,sE]
 ·show WS j (lV b k j).2.2;have z:WS j j:=⟨rfl,rfl,rfl,rfl,rfl⟩;have pl:∀{j1:aI} (x:aT),WS j j1->WS j (MO j1 x):=λx q=>by unfold MO;split<;>exact q
  have ol:WS j (MP j):=by unfold MP;split<;>exact z
  unfold lV;split;exact z;split
  ·simp only;split;exact pl _ z;exact z
  split
  ·simp only;split;exact z;split;exact pl _ z;exact z
  split
  ·split<;>exact pl _ ol
  split;exact z;split<;>exact z
 ·show WS j (AO k j).2;unfold WS;grind[AO,KI]
 ·show WS j (DL b w j).2;unfold WS;grind[DL,KI]
 ·show WS j (DM b w j).2;unfold WS;grind[DM]
theorem aF9{W:List aT}{x:aT}(h:W.length+1<=6):(vF W x).length<=6:=by grind[Y0]
theorem aQZ(j:aI)(c:iB)(v:Int)(is:Bool):(qL j c v is).Reads=j.Reads/\(qL j c v is).Batch=j.Batch:=by
 have rr:∀(x:aT),(nT j x).2.Reads=j.Reads/\(nT j x).2.Batch=j.Batch:=λx=>by grind[nT,sE]
 unfold qL;split
 ·generalize (if is then v else 0)=u;have h:=rr ⟨c.Key,false,G5 u c.dM⟩;unfold WN;split
  ·exact h
  ·exact h
 ·exact⟨rfl,rfl⟩
theorem aNT{G:List (Int×Option Int)}(d:Did G j)(hj:JB j)(hw:(j.aH.length:Int)<=j.At)(hp:j.Pc=1):Did G (qH j)/\(qH j).Reads=j.Reads/\((qH j).Pc<=5->2<=(qH j).Pc->(qH j).Pc=2/\(OT (qH j).aH (cD (qH j)).Key).2=false/\jD (cD (qH j)).Key=(qH j).bX/\((cD (qH j)).Kind=1\/(cD (qH j)).Kind=4)):=by
 have hat:=hj.at_;by_cases hc:tZ j
 ·have hlen:j.aH.length+1<=6:=by have:=hj.WR.2.1;grind[tZ]
  have h6:∀x,(nT j x).1=true/\(nT j x).2={j with aH:=vF j.aH x}:=λx=>by simp_all[nT,aP,aF9]
  by_cases hk:(cD j).Kind=2\/(cD j).Kind=3
  ·have e:qH j={{j with aH:=vF j.aH ⟨(cD j).Key,(cD j).Kind == 3,(cD j).dM⟩} with At:=j.At+1,fV:=j.fV++[⟨false,0⟩]}:=by simp_all[qH]
   grind[bFD]
  have hkk:(cD j).Kind=1\/(cD j).Kind=4:=by
   have hi:j.At.toNat<j.Batch.bM.length:=by grind[tZ]
   have hm:cD j∈j.Batch.bM:=by grind[cD]
   have:=(hj.WR.2.2.1 _ hm).1;omega
  by_cases ho:(OT j.aH (cD j).Key).2=true
  ·have e:qH j=qL j (cD j) (OT j.aH (cD j).Key).1.dM (!(OT j.aH (cD j).Key).1.HC):=by simp_all[qH]
   rw[e];refine⟨a2A d hat.1 hc (λ_ h=>h) hkk (λM _=>?_) (aF9 hlen),(aQZ ..).1,λa b=>?_⟩
   ·rw[a18,aN ho];grind
   grind[bI4]
  ·have e:qH j={j with Pc:=2,bX:=jD (cD j).Key}:=by simp_all[qH]
   rw[e];exact⟨WS.did ⟨rfl,rfl,rfl,rfl,rfl⟩ d,rfl,λ_ _=>⟨rfl,Bool.eq_false_iff.2 ho,rfl,hkk⟩⟩
 ·have e:qH j={j with Pc:=6,K:=0,Sub:=zN 1 16}:=by simp_all[qH]
  rw[e];exact⟨WS.did ⟨rfl,rfl,rfl,rfl,rfl⟩ d,rfl,λa=>by simp at a⟩
theorem bAZ(l:List Seen)(b v:Int)(h:(rX l b v).2=true):(∀s∈l,s∈(rX l b v).1)/\∃s∈(rX l b v).1,s.bX=b/\s.eJ=v:=by
 unfold rX at h ⊢;split at h
 ·grind
 simp_all
theorem a4U{b:aA}{c:Int->List Int}{q:Int->Nat}{J:Int->aI}(h:sB Ky b k c q J)(hj:JB j){P:Prop}(hp:2<=j.Pc/\j.Pc<=4)(hw:Wlk b.Mem c P j)(hc:(iM b k w j).Code=0)(hc0:j.Code=0):(2<=(iM b k w j).Pc/\(iM b k w j).Pc<=5)/\(iM b k w j).bX=j.bX/\((iM b k w j).eJ=if j.Pc=2 then(dW k j.bX).eJ else j.eJ)/\Wlk b.Mem c (j.Pc=2\/P) (iM b k w j):=by
 obtain⟨w1,w2,w3,w4⟩:=hw;have hb:oS j.bX:=hj.bkt;have hch:=h.ch _ hb;by_cases p2:j.Pc=2
 ·by_cases hl:(dW k j.bX).eI≠0
  ·exfalso;unfold iM at hc;rw[aN p2,aN hl] at hc;cases hc
  ·have e:iM b k w j={j with eJ:=(dW k j.bX).eJ,H:=(dW k j.bX).Head,Found:=false,Node:=aQG,Pc:=if(dW k j.bX).Head=0 then 5 else 3}:=by simp_all[iM]
   rw[e];refine⟨?_,rfl,aj,w1,λz _=>?_,λz=>?_,λz _=>?_⟩
   ·grind
   ·by_cases h0:(dW k j.bX).Head=0
    ·grind
    ·match hci:c j.bX,hch with
     |[],hch=>exact absurd hch h0
     |x::r,hch=>exact⟨[],r,by show x::r=(dW k j.bX).Head::r;rw[hch.1],ae⟩
   ·grind
   ·by_cases h0:(dW k j.bX).Head=0
    ·show lkp b.Mem (c j.bX) _=none
     match c j.bX,hch with
     |[],_=>rfl
     |x::r,hch=>exact absurd (hch.1.symm.trans h0) hch.2.1.ne
    grind
 by_cases p3:j.Pc=3
 ·have e:iM b k w j={j with Node:=WM b.Mem.Heap j.H,Pc:=4}:=by simp_all[iM]
  rw[e];refine⟨ae,rfl,aj,w1,λ_ z=>w2 (.inl p3) (z.resolve_left p2),λ_ z=>?_,λz=>by simp at z⟩;obtain⟨A,B,e1,_⟩:=w2 (.inl p3) (z.resolve_left p2);rw[e1] at hch;exact aS2 (hch.all j.H ae).1
 have p4:j.Pc=4:=aa
 by_cases hpin:¬((cS b.aC w).On=true/\(cS b.aC w).gL=false)
 ·exfalso;unfold iM at hc;rw[aP p2,aP p3,aN p4,aN hpin] at hc;cases hc
 by_cases hC:tZ j
 ·have e:iM b k w j={j with Found:=j.Node.Key == (cD j).Key,H:=MN j.Node,Pc:=if j.Node.Key=(cD j).Key\/MN j.Node=0 then 5 else 3}:=by simp_all[iM]
  rw[e];refine⟨aj,rfl,aj,w1,λz y=>?_,λz=>aj,λz y=>?_⟩
  ·obtain⟨A,B,e1,e2⟩:=w2 (.inr p4) (y.resolve_left p2);have en:=w3 p4 (y.resolve_left p2);rw[e1] at hch;have hH:=hch.split;have ng:¬(j.Node.Key=(cD j).Key\/MN j.Node=0):=λg=>aj
   rw[en,aNF hH.2.2.1] at ng
   match B,hH.2.2.2,e1 with
   |[],hq,_=>exact absurd hq λg=>ng (.inr g)
   |x::r,hq,e1=>
    refine⟨A++[j.H],r,?_,λa ha=>?_⟩
    ·show c j.bX=_;rw[e1,en,aNF hH.2.2.1,hq.1];simp
    ·rcases dE.1 ha with ha|ha
     ·exact e2 a ha
     ·rw[jO.1 ha];exact λg=>ng (.inl g)
  ·obtain⟨A,B,e1,e2⟩:=w2 (.inr p4) (y.resolve_left p2);have en:=w3 p4 (y.resolve_left p2);rw[e1] at hch;have hH:=hch.split;show lkp b.Mem (c j.bX) (cD j).Key=if j.Node.Key == (cD j).Key then some j.Node.dM else none;rw[e1,en];by_cases g:(cG b.Mem j.H).Key=(cD j).Key
   ·grind[lkp]
   ·rw[aP aj];have g2:MN j.Node=0:=Classical.byContradiction λq=>aj
    rw[en,aNF hH.2.2.1] at g2;refine aNG λa ha=>?_
    match B,hH.2.2.2,ha with
    |[],_,ha=>
     grind
    |x::r,hq,_=>exact absurd (hq.1.symm.trans g2) hq.2.1.ne
 ·exfalso;unfold iM at hc;rw[aP p2,aP p3,aN p4,aP hpin,aP hC] at hc;cases hc
theorem bGJ{b:aA}(h:0<=j.Pc/\j.Pc<=6):(fF b k w j).j.Pc<=7\/(fF b k w j).j.Pc=16:=by
 unfold fF;have P:∀{c:Prop} [Decidable c] {x y:TR},(c->(x.j.Pc<=7\/x.j.Pc=16))->(¬c->(y.j.Pc<=7\/y.j.Pc=16))->_:=dL (P:=λr=>r.j.Pc<=7\/r.j.Pc=16);refine P (λp=>?_) λ_=>P (λp=>?_) λ_=>P (λp=>?_) λ_=>P (λp=>?_) λ_=>aa
 ·show(oE b w j).2.Pc<=7\/(oE b w j).2.Pc=16;grind[oE]
 ·show(qH j).Pc<=7\/(qH j).Pc=16;grind[qH,nT,sE,qL,WN,UX]
 ·show(iM b k w j).Pc<=7\/(iM b k w j).Pc=16;grind[iM,nT,sE,qL,WN,UX]
 ·show(vH b w j).2.Pc<=7\/(vH b w j).2.Pc=16;grind[vH,sE]
theorem bLV{b:aA}(h:j.Pc=20\/j.Pc=21):19<=(fF b k w j).j.Pc:=by
 have e:(fF b k w j).j=(oE b w j).2:=by simp_all[fF]
 grind[oE]
theorem bLW{b:aA}(hp:9<=j.Pc/\j.Pc<=13)(h:j.K<j.aH.length)(hc:(lV b k j).2.2.Code=0)(hc0:j.Code=0):(9<=(lV b k j).2.2.Pc/\(lV b k j).2.2.Pc<=13)/\((lV b k j).2.2.K=j.K\/(lV b k j).2.2.K=j.K+1):=by grind[lV,MO,MP,sE]
theorem bA0{b:aA}(hk:(fF b k w j).l=[⟨2,w,j.aG,0,[],[]⟩]):j.Pc=7/\(fF b k w j).j.Pc=8:=by
 have p7:j.Pc=7:=Classical.byContradiction λq=>by
  have:(fF b k w j).l=[]\/(fF b k w j).l=[tlE w j]:=by unfold fF;have P:∀{c:Prop} [Decidable c] {x y:TR},(c->x.l=[]\/x.l=[tlE w j])->(¬c->y.l=[]\/y.l=[tlE w j])->_:=dL (P:=λr=>r.l=[]\/r.l=[tlE w j]);exact P (λ_=>.inl rfl) λ_=>P (λ_=>.inl rfl) λ_=>P (λ_=>.inl rfl) λ_=>P (λ_=>.inl rfl) λ_=>P (λp=>absurd p q) λ_=>P (λ_=>.inl rfl) λ_=>P (λ_=>.inl rfl) λ_=>P (λ_=>.inl rfl) λ_=>P (λ_=>.inl rfl) λ_=>P (λ_=>.inl rfl) λ_=>P (λ_=>.inl rfl) λ_=>P (λ_=>.inr rfl) λ_=>.inl rfl
  simp_all[tlE]
 have ed:fF b k w j=⟨b,(oD k w j).1,(oD k w j).2.1,if(oD k w j).2.2 then [⟨2,w,j.aG,0,[],[]⟩] else []⟩:=by grind[fF]
 refine⟨p7,?_⟩;rw[ed] at hk ⊢;have k3:(oD k w j).2.2=true:=Classical.byContradiction λz=>aj
 grind[oD]
section
variable {n:Int} {t e:Table} {u:Int} (hu:fC u) (r:Rn (bH t u) e) (he:∀v,fC v->(aE e v).bU=false) (h:Bz n t) (hB:(aE t u).bU=true) {cm:Int->List iB} (hcm:∀w,fC w->(aE t w).bU=true->cm (aE t w).aG=(aE t w).Batch.bM) {c:Int->List Int} {q:Int->Nat} (sv:sB Ky7 t.aA t.aS c q (aE t)) (I:IvC (vI e) cm t c)
include hu r he h hB
theorem pc7(hi:oS i){v:Int}(hv:fC v)(k:Holds (vI e) (bH t u) v i):Holds (vI e) t v i\/v=u/\(aE t u).Pc=7/\(fF t.aA t.aS u (aE t u)).j.Pc=8:=by
 obtain⟨k1,k2,k3⟩:=k;obtain⟨e1,ej⟩:=oT h hu hB;obtain⟨hB',_,_⟩:=D3 (h.step hu) hv hi k1;have bk:=aNP (b:=t.aA) h.v.bk.1 (h.jb hu hB) (h.lk hu) hi;rw[e1] at k1;have k1:(dW (fF t.aA t.aS u (aE t u)).k i).eI=v+1:=k1;by_cases z:v=u
 ·have fc:=(aNQ r he (h.step hu)).ok v hv hB' k2;have hl:=(D3 h hu hi);rw[ej v hv,z,iN] at k2 k3 fc;obtain⟨hpc,_⟩:=h.tw hu hB;have hs:=wR t.aA t.aS u (aE t u) hpc;by_cases p7:(aE t u).Pc<=6
  ·have:=bGJ (b:=t.aA) (k:=t.aS) (w:=u) (j:=aE t u) ⟨hpc.1,p7⟩;rcases bk with ⟨_,b|b|b⟩|b
   ·have:=(hl aa).2.2;omega
   ·omega
   ·omega
   ·omega
  ·by_cases p:(aE t u).Pc=7
   ·grind[fF,oD,IG,sE]
   ·left;refine⟨?_,?_,by rw[z];omega⟩
    ·rcases bk with ⟨_,b|b|b⟩|b
     ·omega
     ·omega
     ·unfold fC at hv;omega
     ·unfold fC at hv;omega
    ·rcases hs with ⟨s1,_⟩|⟨_,s1,_⟩
     ·grind
     ·rw[s1] at k3;exact absurd k3 ai
 ·left;rw[ej v hv,uB _ _ z] at k2 k3;refine⟨?_,k2,k3⟩;unfold fC at hv hu;rcases bk with ⟨_,b|b|b⟩|b<;>omega
theorem bFG(hp:9<=(aE t u).Pc/\(aE t u).Pc<=13)(hk:(aE t u).K<(aE t u).aH.length){c:Int->List Int}{q:Int->Nat}(sv:sB Ky7 t.aA t.aS c q (aE t)):oS (bi (aE t u))/\Holds (vI e) t u (bi (aE t u)):=by
 have hj:=h.jb hu hB;have hi:(aE t u).K.toNat<(aE t u).aH.length:=by have:=hj.k;omega
 have er:mO (aE t u)=(aE t u).aH[(aE t u).K.toNat]:=by grind[mO]
 have hm:mO (aE t u)∈(aE t u).aH:=aj
 have hx:=hj.wr.2.1 _ hm;have hb:oS (bi (aE t u)):=by unfold bi jD;omega
 have cd:=(h.tw hu hB).2;exact⟨hb,((h.lk hu).iff _ hb).1 ((sv.tw u hu hB).l8 aa _ hm),(aNQ (.step hu r) he h).bLY u hu hB aa hp.1 aa,aa⟩
include hcm sv I
theorem a2E:(MT (vI e) cm (bH t u)=MT (vI e) cm t/\RT (vI e) cm (bH t u)=RT (vI e) cm t/\¬((aE t u).Pc=7/\(fF t.aA t.aS u (aE t u)).j.Pc=8/\vI e (aE t u).aG=true)) \/
  ((aE t u).Pc=7/\(fF t.aA t.aS u (aE t u)).j.Pc=8/\vI e (aE t u).aG=true)/\MT (vI e) cm (bH t u)=apw (aE t u).aH (MT (vI e) cm t)/\RT (vI e) cm (bH t u)=RT (vI e) cm t++[((aE t u).aG,(aE t u).fV)]:=by
 obtain⟨e1,ej⟩:=oT h hu hB;obtain⟨hpc,cd⟩:=h.tw hu hB;have el:(bH t u).Log=t.Log++(fF t.aA t.aS u (aE t u)).l:=by rw[e1];rfl
 by_cases p:(aE t u).Pc=7/\(fF t.aA t.aS u (aE t u)).j.Pc=8
 ·have ed:fF t.aA t.aS u (aE t u)=⟨t.aA,(oD t.aS u (aE t u)).1,(oD t.aS u (aE t u)).2.1,if(oD t.aS u (aE t u)).2.2 then [⟨2,u,(aE t u).aG,0,[],[]⟩] else []⟩:=by grind[fF]
  have e8:(oD t.aS u (aE t u)).2.1.Pc=8:=aj
  have e3:(oD t.aS u (aE t u)).2.2=true/\(oD t.aS u (aE t u)).2.1.K=0:=by grind[oD,IG,sE]
  have ell:(fF t.aA t.aS u (aE t u)).l=[⟨2,u,(aE t u).aG,0,[],[]⟩]:=aj
  rw[ell] at el;cases hF:vI e (aE t u).aG
  ·grind[pts,MT,RT]
  ·right;refine⟨⟨p.1,p.2,rfl⟩,?_⟩;have hp:pts (vI e) (bH t u).Log=pts (vI e) t.Log++[(aE t u).aG]:=by grind[pts]
   obtain⟨G,d,g⟩:=I.job u hu hB aa aa;have sm:WS (aE t u) (fF t.aA t.aS u (aE t u)).j:=aNS hpc aa;have hs1:(fF t.aA t.aS u (aE t u)).j.aG=(aE t u).aG/\(fF t.aA t.aS u (aE t u)).j.bU=true:=by
    rcases wR t.aA t.aS u (aE t u) hpc with ⟨s1,s2,_⟩|⟨s,_⟩
    ·exact⟨s1,s2.trans hB⟩
    ·omega
   have ew:aE (bH t u) u=(fF t.aA t.aS u (aE t u)).j:=by grind[iN]
   have nb:=((aNQ r he (h.step hu)).ok u hu aj aj).2 aj;have sees:bAS G (MT (vI e) cm t):=λx hx=>by
    obtain⟨s,hs,hsb,hk⟩:=g x hx;have hb:oS s.bX:=(h.jb hu hB).reads.1 s hs;have hin:s∈(aE (bH t u) u).Reads.drop (aE (bH t u) u).K.toNat:=by rw[ew,sm.2.2.2.2,show(fF t.aA t.aS u (aE t u)).j.K=0 by grind];exact hs
    have a1:=h.rv u hu s hs;have a2:=aS8 h hu hb;refine hk ?_ λv hv k=>?_
    ·have:¬s.eJ<(dW (bH t u).aS s.bX).eJ:=λz=>nb ⟨s,hin,.inl z⟩;omega
    ·rcases k.step h hu r hv hb with k'|⟨z,z2,_⟩
     ·by_cases z:v=u
      ·have:=k.2.2;grind
      ·exact nb ⟨s,hin,.inr ⟨v,hv,z,k'⟩⟩
     grind
   have hat:=(sv.tw u hu hB).at_ aa aa;have dd:=d _ sees;grind[List.take_length,MT,RT,aNR,rpF]
 ·left;have hl:∀x∈(fF t.aA t.aS u (aE t u)).l,x.Kind≠2:=λx hx=>by
   rcases wR t.aA t.aS u (aE t u) hpc with ⟨_,_,_,k|k⟩|⟨_,_,k⟩
   ·grind
   ·grind[bA0]
   ·rw[k] at hx;rw[jO.1 hx];exact(by decide:(3:Int)≠2)
  have:pts (vI e) (bH t u).Log=pts (vI e) t.Log:=by grind[a2D,bAY]
  grind[MT,RT]
theorem a2F(hi:oS i)(hn:¬Holds (vI e) (bH t u) u i){k:Int}(hk:jD k=i):MT (vI e) cm (bH t u) k=MT (vI e) cm t k:=by
 obtain⟨e1,ej⟩:=oT h hu hB;obtain⟨hpc,cd⟩:=h.tw hu hB;rcases a2E hu r he h hB hcm sv I with ⟨a,_⟩|⟨⟨p7,p8,hF⟩,a,_⟩
 ·rw[a]
 ·rw[a];refine aWS λy hy q=>hn ?_;have hs1:(fF t.aA t.aS u (aE t u)).j.aG=(aE t u).aG/\(fF t.aA t.aS u (aE t u)).j.bU=true:=by
   rcases wR t.aA t.aS u (aE t u) hpc with ⟨s1,s2,_⟩|⟨s,_⟩
   ·exact⟨s1,s2.trans hB⟩
   ·omega
  have sm:WS (aE t u) (fF t.aA t.aS u (aE t u)).j:=aNS hpc aa;have ew:aE (bH t u) u=(fF t.aA t.aS u (aE t u)).j:=by grind[iN]
  obtain⟨_,q',hs'⟩:=(h.step hu).pl;obtain⟨c',sv'⟩:=hs'.sv;have l8:=(sv'.tw u hu aj).l8 aj y (by rw[ew,sm.2.2.1];exact hy);rw[q,hk] at l8;exact⟨(((h.step hu).lk hu).iff i hi).1 l8,aj,aj⟩
theorem ck(hi:oS i)(hx:x<=(dW t.aS i).eJ)(e1:x=(dW (bH t u).aS i).eJ)(hc:Clr (vI e) (bH t u) i):x=(dW t.aS i).eJ/\Clr (vI e) t i/\∀k,jD k=i->MT (vI e) cm (bH t u) k=MT (vI e) cm t k:=by
 have a2:=aS8 h hu hi;refine⟨aa,λv hv k=>?_,λk hk=>a2F hu r he h hB hcm sv I hi (hc u hu) hk⟩;rcases k.step h hu r hv hi with k'|⟨_,_,z,_⟩
 ·exact hc v hv k'
 ·omega
theorem bJG{w:Int}(hw:fC w)(ejw:aE t w=j)(hb:(aE t w).bU=true)(k:JRd (vI e) cm t j)(hd:∀G,Did G j->Did G j')(hr:∀s∈j.Reads,s∈j'.Reads):JRd (vI e) cm (bH t u) j':=by obtain⟨G,d,g⟩:=k;refine⟨G,hd G d,λx hx=>?_⟩;obtain⟨s,hs,hsb,hk⟩:=g x hx;subst ejw;refine⟨s,hr s hs,hsb,λa b=>?_⟩;obtain⟨c1,c2,c3⟩:=ck hu r he h hB hcm sv I ((h.jb hw hb).reads.1 s hs) (h.rv w hw s hs) a b;grind
end
theorem Wlk.mono{c c':Int->List Int}{P P':Prop}(h:Wlk m c P j)(k:P'->P/\c' j.bX=c j.bX/\∀x∈c j.bX,cG m' x=cG m x):Wlk m' c' P' j:=by
 refine⟨h.key,λz p=>?_,λz p=>?_,λz p=>?_⟩
 ·obtain⟨k1,k2,k3⟩:=k p;obtain⟨A,B,a,b⟩:=h.at3 z k1;grind
 ·obtain⟨k1,k2,k3⟩:=k p;obtain⟨A,B,a,b⟩:=h.at3 (.inr z) k1;rw[h.at4 z k1,k3 j.H (by rw[a];simp)]
 ·obtain⟨k1,k2,k3⟩:=k p;rw[k2,Y1 (m:=m) (m':=m') (λx hx=>aj)];exact h.at5 z k1
theorem bA1{b:aA}(p:j.Pc=5):(iM b k w j).Pc=16\/(iM b k w j).Pc=1:=by
 have a:∀(j:aI) c v is,(qL j c v is).Pc=16\/(qL j c v is).Pc=1:=λj c v is=>by
  unfold qL;split
  ·generalize (if is then v else 0)=u;unfold WN nT;by_cases q:6<(vF j.aH ⟨c.Key,false,G5 u c.dM⟩).length
   ·rw[aN q];exact .inl rfl
   ·rw[aP q];exact .inr rfl
  ·exact .inr rfl
 unfold iM;rw[gR,gR,gR];split;exact .inl rfl;split;exact .inl rfl;split;exact a ..;exact .inl rfl
section
variable {n:Int} {t e:Table} {u:Int} (hu:fC u) (r:Rn (bH t u) e) (he:∀v,fC v->(aE e v).bU=false) (h:Bz n t) (hB:(aE t u).bU=true) {cm:Int->List iB} (hcm:∀w,fC w->(aE t w).bU=true->cm (aE t w).aG=(aE t w).Batch.bM) {c:Int->List Int} {q:Int->Nat} (sv:sB Ky7 t.aA t.aS c q (aE t)) (I:IvC (vI e) cm t c)
include hu r he h hB hcm sv I
theorem a4V(p:(aE t u).Pc=5)(hc:(iM t.aA t.aS u (aE t u)).Code=0):JRd (vI e) cm (bH t u) (iM t.aA t.aS u (aE t u)):=by
 have hj:=h.jb hu hB;have tw:=sv.tw u hu hB;have hC:=tw.hc aa;obtain⟨_,w1,_,_,w4⟩:=I.walk u hu hB aa aa;obtain⟨G,d,g⟩:=I.job u hu hB (by have:=tw.cd;omega) aa;have hb:oS (aE t u).bX:=hj.bkt;unfold iM at hc ⊢;rw[gR,gR,gR] at hc ⊢;by_cases q1:(dW t.aS (aE t u).bX).eI≠0\/(dW t.aS (aE t u).bX).eJ≠(aE t u).eJ
 ·rw[aN q1] at hc;cases hc
 rw[aP q1] at hc ⊢;by_cases q2:(rX (aE t u).Reads (aE t u).bX (aE t u).eJ).2=false
 ·rw[aN q2] at hc;cases hc
 rw[aP q2,aN hC];clear hc;have hl0:(dW t.aS (aE t u).bX).eI=0:=Classical.byContradiction λz=>q1 (.inl z);have hv0:(dW t.aS (aE t u).bX).eJ=(aE t u).eJ:=Classical.byContradiction λz=>q1 (.inr z);have clr:Clr (vI e) t (aE t u).bX:=λv hv k=>by have:=k.1;omega
 have hx:=(I.free _ hb clr _ w1.2.1).trans (w4 p ⟨hv0.symm,clr⟩);obtain⟨r1,s0,r2,r3,r4⟩:=bAZ (aE t u).Reads (aE t u).bX (aE t u).eJ aj;have hlen:(aE t u).aH.length+1<=6:=by have:=hj.WR.2.1;have:=tw.wl;grind[tZ]
 have ar:=(aQZ {aE t u with Reads:=(rX (aE t u).Reads (aE t u).bX (aE t u).eJ).1} (cD (aE t u)) (aE t u).Node.dM (aE t u).Found).1;refine⟨((cD (aE t u)).Key,if(aE t u).Found then some (aE t u).Node.dM else none)::G,?_,λx hx'=>?_⟩
 ·exact a2A (j:={aE t u with Reads:=(rX (aE t u).Reads (aE t u).bX (aE t u).eJ).1}) (G:=G) d hj.at_.1 hC (λM hM x hx=>hM x (lE _ hx)) w1.2.2 (λM hM=>by
   rw[a18];have:=w1.1;show(if(OT (aE t u).aH (cD (aE t u)).Key).2=true then _ else M (cD (aE t u)).Key)=_;rw[this];exact hM _ (aAB ..)) (aF9 hlen)
 ·rw[ar];rcases j3.1 hx' with z|z
  ·subst z;refine⟨s0,r2,r3.trans w1.2.1.symm,λa b=>?_⟩;rw[r3] at a b;obtain⟨_,_,c3⟩:=ck hu r he h hB hcm sv I hb aa a b;grind
  ·obtain⟨s,hs,hsb,hk⟩:=g x z;refine⟨s,r1 s hs,hsb,λa b=>?_⟩;obtain⟨c1,c2,c3⟩:=ck hu r he h hB hcm sv I (hj.reads.1 s hs) (h.rv u hu s hs) a b;grind
theorem IvC.bLX:∃c' q',sB Ky7 (bH t u).aA (bH t u).aS c' q' (aE (bH t u))/\IvC (vI e) cm (bH t u) c':=by
 have hJ:∀v,fC v->(aE t v).bU=true->JB (aE t v):=λv hv hb=>h.jb hv hb;obtain⟨_,q0,hs⟩:=h.pl;obtain⟨c',sv',W⟩:=bGD sv hs.lk hu h.v.base h.v.bk hJ hB hs.ep;obtain⟨e1,ej⟩:=oT h hu hB;have h':=h.step hu;have fc:=aNQ (.step hu r) he h;have fc':=aNQ r he h';obtain⟨hpc,cd⟩:=h.tw hu hB;have tw:=sv.tw u hu hB;have hj:=h.jb hu hB;have mk:=λ{i:Int} (hi:oS i) (hn:¬Holds (vI e) (bH t u) u i) {k:Int} (hk:jD k=i)=>a2F hu r he h hB hcm sv I hi hn hk;have ms:=a2E hu r he h hB hcm sv I;have hp7:=λ{i:Int} (hi:oS i) {v:Int} (hv:fC v) k=>pc7 hu r he h hB hi (v:=v) hv k;have jup:=λ{j j':aI} {w:Int} (hw:fC w) a b k d r'=>bJG hu r he h hB hcm sv I (j:=j) (j':=j') (w:=w) hw a b k d r';have cks:=λ{i:Int} (hi:oS i) {x:Int} hx a b=>ck hu r he h hB hcm sv I hi (x:=x) hx a b;have eb:(bH t u).aA=(fF t.aA t.aS u (aE t u)).b:=by rw[e1];rfl
 have ek:(bH t u).aS=(fF t.aA t.aS u (aE t u)).k:=by rw[e1];rfl
 have ew:aE (bH t u) u=(fF t.aA t.aS u (aE t u)).j:=by rw[ej u hu,iN]
 have eo:∀v,fC v->v≠u->aE (bH t u) v=aE t v:=λv hv hn=>by rw[ej v hv,uB _ _ hn]
 have keep:∀i,oS i->(aE t u).Pc≠11/\(aE t u).Pc≠13\/¬Holds (vI e) t u i->c' i=c i/\∀x∈c i,cG (bH t u).aA.Mem x=cG t.aA.Mem x:=λi hi z=>by
  rw[eb];refine W.keep i hi λp ei=>?_;rcases z with z|z
  ·omega
  ·rw[ei] at z;exact z (bFG hu r he h hB aa (tw.k9 aa) sv).2
 have lk:∀i,oS i->(aE t u).Pc≠11/\(aE t u).Pc≠13\/¬Holds (vI e) t u i->∀k,lkp (bH t u).aA.Mem (c' i) k=lkp t.aA.Mem (c i) k:=λi hi z k=>by obtain⟨a,b⟩:=keep i hi z;rw[a];exact Y1 (λx hx=>by rw[b x hx];omega) k
 have lock1:∀{v i:Int},Holds (vI e) t v i->v≠u->¬Holds (vI e) t u i:=λa z b=>z (by have:=a.1;have:=b.1;omega);have rsub:∀x∈RT (vI e) cm t,x∈RT (vI e) cm (bH t u):=λx hx=>by
  rcases ms with ⟨_,a,_⟩|⟨_,_,a⟩
  ·grind
  ·rw[a];exact U7 _ hx
 have own:(aE (bH t u) u).bU=true->(fF t.aA t.aS u (aE t u)).j.aG=(aE t u).aG/\(fF t.aA t.aS u (aE t u)).j.Batch=(aE t u).Batch/\(aE t u).Pc≠19:=λhb=>by
  rcases wR t.aA t.aS u (aE t u) hpc with ⟨s1,_,s3,_⟩|⟨_,s1,_⟩
  ·refine⟨s1,s3,λp=>?_⟩;have e2:(fF t.aA t.aS u (aE t u)).j=cZ:=by unfold fF;simp only[p];rfl
   rw[ew,e2] at hb;cases hb
  ·rw[ew,s1] at hb;cases hb
 have low:(aE (bH t u) u).bU=true->(aE (bH t u) u).Code=0->(aE (bH t u) u).Pc<=7->(aE t u).Pc<=7/\(aE t u).Code=0:=λhb hc hp=>by
  obtain⟨_,_,p19⟩:=own hb;rw[ew] at hc hp;have:(aE t u).Pc<=7:=Classical.byContradiction λz=>by
   by_cases p20:(aE t u).Pc=20\/(aE t u).Pc=21
   ·have:=bLV (b:=t.aA) (k:=t.aS) (w:=u) p20;omega
   ·by_cases c0:(aE t u).Code=0
    ·rcases aS7 (b:=t.aA) (k:=t.aS) (w:=u) (j:=aE t u) aa aa c0 with y|⟨_,y,_⟩
     ·omega
     ·split at y<;>omega
    ·rw[aWV aa] at hc;exact c0 hc
  omega
 refine⟨c',_,by rw[eb,ek];exact sv'.congr ej,?_,?_,?_,?_,?_,?_,?_,?_,?_⟩
 ·intro i hi hc k hk;rw[mk hi (hc u hu) hk];by_cases z:Clr (vI e) t i
  ·rw[I.free i hi z k hk,lk i hi (.inr (z u hu))]
  ·obtain⟨v,hv,kh⟩:∃v,fC v/\Holds (vI e) t v i:=Classical.byContradiction λy=>z λv hv k=>y ⟨v,hv,k⟩;rcases kh.step h hu r hv hi with y|⟨y,p14,_⟩
   ·exact absurd y (hc v hv)
   ·rw[I.held i hi v hv kh k hk];have:rmW (aE t v)=[]:=by unfold rmW;rw[gR,gR]
    rw[this,aEJ,lk i hi (.inl (by rw[y];omega))]
 ·intro i hi v hv kh k hk;rcases hp7 hi hv kh with k0|⟨z,p7,p8⟩
  ·by_cases z:v=u
   ·subst z;obtain⟨hb',_,hpp⟩:=D3 h' hv hi kh.1;obtain⟨o1,o2,o3⟩:=own hb';have hc0:=(fc'.ok v hv hb' (by rw[ew,o1];exact k0.2.1)).1;rw[ew] at hc0 hpp;have p8:=k0.2.2;obtain⟨_,_,hpp0⟩:=D3 h hv hi k0.1;have c0:=(fc.ok v hv hB k0.2.1).1;have em:MT (vI e) cm (bH t v)=MT (vI e) cm t:=aj
    rw[em,I.held i hi v hv k0 k hk,ew];have sm:WS (aE t v) (fF t.aA t.aS v (aE t v)).j:=aNS hpc aa;by_cases q8:(aE t v).Pc=8
    ·have e2:(fF t.aA t.aS v (aE t v)).j=KH t.aS v (aE t v):=by unfold fF;simp only[q8];rfl
     have e3:rmW (fF t.aA t.aS v (aE t v)).j=(aE t v).aH:=by
      rw[e2] at hc0 ⊢;unfold rmW;unfold KH at hc0 ⊢;split
      ·simp
      ·rename_i a;rw[aP a] at hc0;split
       ·rename_i a2;rw[aN a2] at hc0;cases hc0
       ·simp[q8]
     rw[e3,show rmW (aE t v)=(aE t v).aH from aN q8];exact S9 (lk i hi (.inl aa) k).symm
    by_cases q14:(aE t v).Pc=14
    ·have e2:(fF t.aA t.aS v (aE t v)).j=(AO t.aS (aE t v)).2:=by unfold fF;simp only[q14];rfl
     have e3:rmW (fF t.aA t.aS v (aE t v)).j=[]:=by
      rw[e2];have:(AO t.aS (aE t v)).2.Pc=14\/(AO t.aS (aE t v)).2.Pc=15:=by grind[AO,KI]
      unfold rmW;rw[gR,gR]
     rw[e3,show rmW (aE t v)=[] by unfold rmW;grind,aEJ,aEJ];exact(lk i hi (.inl aa) k).symm
    have q9:9<=(aE t v).Pc/\(aE t v).Pc<=13:=aa
    have e2:(fF t.aA t.aS v (aE t v)).j=(lV t.aA t.aS (aE t v)).2.2:=by unfold fF;rw[gR,gR,gR,gR,gR,gR,aN q9]
    have r0:rmW (aE t v)=(aE t v).aH.drop (aE t v).K.toNat:=by unfold rmW;grind
    by_cases hK:(aE t v).K<(aE t v).aH.length
    ·have hsrt:=hj.wr.2.2;have hk0:=hj.k.1;rw[e2] at hc0 sm;obtain⟨k1,k2⟩:=bLW q9 hK hc0 c0;have r1:rmW (fF t.aA t.aS v (aE t v)).j=(aE t v).aH.drop (lV t.aA t.aS (aE t v)).2.2.K.toNat:=by rw[e2];unfold rmW;rw[gR,aN k1,sm.2.2.1]
     have oth:∀k,k≠(mO (aE t v)).Key->jD k=i->lkp t.aA.Mem (c i) k=lkp (bH t v).aA.Mem (c' i) k:=λk a b=>by
      by_cases y:i=bi (aE t v)
      ·rw[y,eb];exact(W.oth q9 k a).symm
      ·obtain⟨a1,a2⟩:=W.keep i hi λ_=>y;rw[a1,eb];exact(Y1 (λx hx=>by rw[a2 x hx];omega) k).symm
     rw[r0,r1,aWT hsrt hk0 hK];rcases k2 with k2|k2
     ·rw[k2,aWT hsrt hk0 hK];split
      ·rfl
      ·rename_i y;exact S9 (oth k y hk)
     ·rw[k2];split
      ·rename_i y;rw[aWS (λx hx=>by rw[y];exact bFC hsrt hk0 hK x hx),y,show i=bi (aE t v) by rw[<-hk,y];rfl,eb];exact(W.key q9 aj).symm
      ·rename_i y;exact S9 (oth k y hk)
    ·have p9:(aE t v).Pc=9:=by have:=tw.k9;omega
     have e3:(lV t.aA t.aS (aE t v)).2.2.Pc=14:=by unfold lV;grind
     rw[r0,aB6 aa,show rmW (fF t.aA t.aS v (aE t v)).j=[] by rw[e2];unfold rmW;rw[gR,gR],aEJ,aEJ];exact(lk i hi (.inl aa) k).symm
   ·rw[mk hi (λy=>z (by have:=y.1;have:=kh.1;omega)) hk,eo v hv z,I.held i hi v hv k0 k hk];exact S9 (lk i hi (.inr (lock1 k0 z)) k).symm
  ·subst z;obtain⟨hb',_,_⟩:=D3 h' hv hi kh.1;obtain⟨o1,_,_⟩:=own hb';have hF:vI e (aE t v).aG=true:=by have:=kh.2.1;grind
   have bk:=aNP (b:=t.aA) h.v.bk.1 hj (h.lk hv) hi;have hl:=kh.1;rw[ek] at hl;have clr:Clr (vI e) t i:=λv' hv' k'=>by
    have a:=k'.1;have b:=k'.2.2;by_cases y:v'=v
    ·grind
    ·unfold fC at hv hv';rcases bk with ⟨_,z|z|z⟩|z<;>omega
   rcases ms with ⟨_,_,a⟩|⟨_,a,_⟩
   ·grind
   ·have sm:WS (aE t v) (fF t.aA t.aS v (aE t v)).j:=aNS hpc aa;rw[a,ew,show rmW (fF t.aA t.aS v (aE t v)).j=(aE t v).aH by unfold rmW;rw[aN p8,sm.2.2.1]];exact S9 (by rw[I.free i hi clr k hk,lk i hi (.inl aa)])
 ·intro w hw hb hc hp;by_cases z:w=u
  ·subst z;obtain⟨p7,c0⟩:=low hb hc hp;have jr:=I.job w hw hB c0 p7;rw[ew] at hc hp ⊢;by_cases p1:(aE t w).Pc=1
   ·have e2:(fF t.aA t.aS w (aE t w)).j=qH (aE t w):=by unfold fF;simp only[p1];rfl
    rw[e2];obtain⟨G0,d0,g0⟩:=jr;have hrd:=(aNT d0 hj tw.wl p1).2.1;exact jup hw rfl hB ⟨G0,d0,g0⟩ (λG d=>(aNT d hj tw.wl p1).1) λs hs=>aj
   by_cases p5:(aE t w).Pc=5
   ·have e2:(fF t.aA t.aS w (aE t w)).j=iM t.aA t.aS w (aE t w):=by unfold fF;simp only[p5];rfl
    rw[e2] at hc ⊢;exact a4V hw r he h hB hcm sv I p5 hc
   have sm:WS (aE t w) (fF t.aA t.aS w (aE t w)).j:=aNS hpc aa;exact jup hw rfl hB jr (λG d=>sm.did d) λs hs=>by rw[sm.2.2.2.2];exact hs
  ·rw[eo w hw z] at hb hc hp ⊢;exact jup hw rfl hb (I.job w hw hb hc hp) (λ_ d=>d) λ_ h=>h
 ·intro w hw hb a2 a5;by_cases z:w=u
  ·subst z;have cd':=(h'.tw hw hb).2;have hc:(aE (bH t w) w).Code=0:=aa
   obtain⟨p7,c0⟩:=low hb hc aa;rw[ew] at hc a2 a5 ⊢;by_cases p1:(aE t w).Pc=1
   ·have e2:(fF t.aA t.aS w (aE t w)).j=qH (aE t w):=by unfold fF;simp only[p1];rfl
    rw[e2] at a2 a5 ⊢;obtain⟨G,d,_⟩:=I.job w hw hB c0 p7;obtain⟨x1,x2⟩:=(aNT d hj tw.wl p1).2.2 a5 a2;exact⟨λy=>absurd x1 y,x2,λy=>aa,λy=>aa,λy=>aa⟩
   have hp24:2<=(aE t w).Pc/\(aE t w).Pc<=4:=by
    by_cases p0:(aE t w).Pc=0
    ·exfalso;have e2:(fF t.aA t.aS w (aE t w)).j=(oE t.aA w (aE t w)).2:=by unfold fF;grind
     rw[e2] at a2;have:(oE t.aA w (aE t w)).2.Pc<=1:=by grind[oE]
     omega
    by_cases p5:(aE t w).Pc=5
    ·exfalso;have e2:(fF t.aA t.aS w (aE t w)).j=iM t.aA t.aS w (aE t w):=by unfold fF;simp only[p5];rfl
     rw[e2] at a2 a5 hc;have:=bA1 (b:=t.aA) (k:=t.aS) (w:=w) p5;omega
    by_cases p6:(aE t w).Pc=6
    ·exfalso;have e2:(fF t.aA t.aS w (aE t w)).j=(vH t.aA w (aE t w)).2:=by unfold fF;simp only[p6];rfl
     rw[e2] at a5;have:6<=(vH t.aA w (aE t w)).2.Pc:=by grind[vH,sE]
     omega
    by_cases p7:(aE t w).Pc=7
    ·exfalso;have e2:(fF t.aA t.aS w (aE t w)).j=(oD t.aS w (aE t w)).2.1:=by unfold fF;simp only[p7];rfl
     rw[e2] at a5;have:7<=(oD t.aS w (aE t w)).2.1.Pc:=by grind[oD,IG,sE]
     omega
    omega
   have ed:fF t.aA t.aS w (aE t w)=⟨t.aA,t.aS,iM t.aA t.aS w (aE t w),[]⟩:=by unfold fF;rw[gR,gR,aN aa]
   rw[ed] at a2 a5 hc ek eb;obtain⟨i1,i2⟩:=I.walk w hw hB hp24.1 aa;obtain⟨_,s2,s3,s4⟩:=a4U sv (w:=w) hj hp24 i2 hc c0;rw[ed];simp only;rw[s2,ek];have hbk:oS (aE t w).bX:=hj.bkt;refine⟨λ_=>?_,s4.mono λP'=>?_⟩
   ·rw[s3];split
    ·simp
    grind
   ·obtain⟨k1,k2⟩:=keep (aE t w).bX hbk (.inl aa);rw[s2];refine⟨?_,k1,k2⟩;by_cases y:(aE t w).Pc=2
    ·exact .inl y
    ·right;rw[s3,aP y] at P';obtain⟨c1,c2,_⟩:=cks hbk (i1 y) aj P'.2;grind
  ·rw[eo w hw z] at hb a2 a5 ⊢;obtain⟨i1,i2⟩:=I.walk w hw hb a2 a5;have hbk:oS (aE t w).bX:=(h.jb hw hb).bkt;refine⟨λy=>aJY (i1 y) (aS8 h hu hbk),?_⟩;by_cases y:(aE t w).Pc=2
   ·exact⟨i2.key,λa=>aa,λa=>aa,λa=>aa⟩
   refine i2.mono λP'=>?_;obtain⟨c1,c2,_⟩:=cks hbk (i1 y) P'.1 P'.2;exact⟨⟨c1,c2⟩,keep _ hbk (.inr (c2 u hu))⟩
 ·intro w hw hb hF a8 a19 hcl;by_cases z:w=u
  ·subst z;obtain⟨o1,o2,o3⟩:=own hb;have hc:=(fc'.ok w hw hb hF).1;rw[ew] at hF a8 a19 hcl hc ⊢;rw[o1] at hF ⊢;rw[o2] at hcl;by_cases p7:(aE t w).Pc=7
   ·have e2:(fF t.aA t.aS w (aE t w)).j=(oD t.aS w (aE t w)).2.1:=by unfold fF;simp only[p7];rfl
    have sm:WS (aE t w) (fF t.aA t.aS w (aE t w)).j:=aNS hpc aa;have p8:(fF t.aA t.aS w (aE t w)).j.Pc=8:=by rw[e2] at hc a8 ⊢;grind[oD,IG,sE]
    rw[sm.2.2.2.1];rcases ms with ⟨_,_,a⟩|⟨_,_,a⟩
    ·grind
    ·rw[a];simp
   by_cases p6:(aE t w).Pc<=6
   ·exfalso;have:=bGJ (b:=t.aA) (k:=t.aS) (w:=w) (j:=aE t w) ⟨hpc.1,p6⟩;have cd':=(h'.tw hw hb).2;rw[ew] at cd';omega
   have p20:(aE t w).Pc≠20/\(aE t w).Pc≠21:=by constructor<;>(intro p;have:=tw.cl2 aa;grind)
   have sm:WS (aE t w) (fF t.aA t.aS w (aE t w)).j:=aNS hpc aa;rw[sm.2.2.2.1];exact rsub _ (I.res w hw hB hF aa aa hcl)
  ·rw[eo w hw z] at hb hF a8 a19 hcl ⊢;exact rsub _ (I.res w hw hb hF a8 a19 hcl)
 ·intro x hx kx cx hne;rw[e1] at hx;rcases dE.1 hx with hx|hx
  ·exact rsub _ (I.tel x hx kx cx hne)
  ·rcases wR t.aA t.aS u (aE t u) hpc with ⟨_,_,_,k|k⟩|⟨p,_,k⟩<;>rw[k] at hx
   ·cases hx
   ·rw[jO.1 hx] at kx;cases kx
   ·have ex:=jO.1 hx;subst ex;have hc0:(aE t u).Code=0:=cx;have p19:(aE t u).Pc=19:=aa
    have hF:=fc.bLY u hu hB hc0 aa aa;have hcl:(aE t u).Batch.Collect=false:=by
     cases y:(aE t u).Batch.Collect
     ·rfl
     ·exfalso;apply hne;show cm (aE t u).aG=[];rw[hcm u hu hB];exact hj.WR.1 y
    have er:(tlE u (aE t u)).fV=(aE t u).fV:=aN hc0;rw[er];exact rsub _ (I.res u hu hB hF aa aa hcl)
 ·have up:∀{s:Int},(∀v,fC v->(aE t v).bU=true->(aE t v).aG=s->8<=(aE t v).Pc)->∀v,fC v->(aE (bH t u) v).bU=true->(aE (bH t u) v).aG=s->8<=(aE (bH t u) v).Pc:=λ{s} k v hv hb es=>by
   by_cases y:v=u
   ·subst y;have cd':=(h'.tw hv hb).2;have o1:=(own hb).1;have:=k v hv hB aj;grind
   ·rw[eo v hv y] at hb es ⊢;exact k v hv hb es
  intro x hx kx;rw[e1] at hx;rcases dE.1 hx with hx|hx
  ·exact⟨(I.pt x hx kx).1,up (I.pt x hx kx).2⟩
  ·rcases wR t.aA t.aS u (aE t u) hpc with ⟨_,_,_,k|k⟩|⟨p,_,k⟩<;>rw[k] at hx
   ·cases hx
   ·rw[jO.1 hx];have p7:=bA0 k;refine⟨?_,λv hv hb es=>?_⟩
    ·show cm (aE t u).aG≠[];rw[hcm u hu hB];intro z;have hcl:(aE t u).Batch.Collect=false:=by
      cases y:(aE t u).Batch.Collect
      ·rfl
      ·have:=tw.cl y;omega
     have:=hj.WR.2.2.2 hcl;rw[z] at this;simp at this
    ·have hvu:v=u:=by
      by_cases y:v=u
      ·exact y
      ·rw[eo v hv y] at hb es;exact absurd (h.ne hv hu hb hB es) y
     grind
   ·rw[jO.1 hx] at kx;cases kx
 ·have el:(bH t u).Log=t.Log++(fF t.aA t.aS u (aE t u)).l:=by rw[e1];rfl
  rw[el,List.filter_append,sH];rcases wR t.aA t.aS u (aE t u) hpc with ⟨_,_,_,k|k⟩|⟨p,_,k⟩
  ·rw[k];simpa using I.pu
  ·have p7:=(bA0 k).1;rw[k];refine aJ2.2 ⟨I.pu,ae,λa ha b hb=>?_⟩;simp at hb;obtain⟨x,hx,ex⟩:=AR.1 ha;obtain⟨hx1,hx2⟩:=aJ1.1 hx;intro z;have:=(I.pt x hx1 aj).2 u hu hB aa;omega
  ·rw[k];have:([tlE u (aE t u)].filter λx:iD=>x.Kind == 2)=[]:=by simp[tlE]
   rw[this];simpa using I.pu
 ·intro x hx kx;rw[e1] at hx;rcases dE.1 hx with hx|hx
  ·exact I.cv x hx kx
  ·rcases wR t.aA t.aS u (aE t u) hpc with ⟨_,_,_,k|k⟩|⟨p,_,k⟩<;>rw[k] at hx
   ·cases hx
   ·rw[jO.1 hx] at kx;cases kx
   ·rw[jO.1 hx] at kx;cases kx
end
end Go.Gv
end
