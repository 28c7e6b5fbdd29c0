import Derived.Test.YtdooodokcphomaaGreatXUH
set_option linter.unusedVariables false
set_option linter.unusedSimpArgs false
set_option linter.unusedSectionVars false
set_option linter.constructorNameAsVariable false
set_option linter.unnecessarySimpa false
set_option linter.defProp false
noncomputable section
namespace Go.Gv
variable{c e i s w x:Int}{A Ky l:an}{k k':ay}{m m':Mem}{n:Nat}{t:Table}{O:Type}{j j':aK}
theorem bCS{b:aA}(d:lR b)(a:0<=w/\w<=2):∃c,FU b w=some (c,{b with aD:=(PR b.aD w).1}):=by obtain⟨r,e,f,_,_⟩:=a37 d.1.2.1 a;rw[aYT d.1.2.1 a] at e;simp_all[FU]
section
variable {t:Table} {w:Int} (h3:t.aR.length=3) (h2:t.aT.length=2) (hb:lR t.aA) (hw:0<=w/\w<=2)
include h3 h2 hb hw
theorem bMQ(m:t.eE.length=3)(f:∀q∈t.eE,q.List.length<=12/\∀b∈q.List,aFZ b)(s:0<=t.aG/\t.aG<=1000000)(hl:t.Log.length<=1000000) :
  B5 t w=some (if(uU t w).length=0\/t.aG=1000000 then t else uV t w ((uU t w).getD 0 ⟨false,[]⟩)):=by
 have h:w.toNat<t.eE.length:=aa
 have j:idx t.eE w=some ⟨uU t w⟩:=by simp_all[iD,uU]
 have g:(⟨uU t w⟩:aP)∈t.eE:=by unfold uU;rw[DY,iS h];exact cQ _
 have a:=f _ g;simp only at a;unfold B5;rw[j,aI];simp only;by_cases r:(uU t w).length=0
 .simp_all[nH]
 .have e:(((uU t w).length:Int) == 0)=false:=aj
  rw[aO (by rw[e];simp)];unfold nH;by_cases hm:t.aG=1000000
  .grind
  .have e:(t.aG == 1000000)=false:=aj
   have c:0<(uU t w).length:=aa
   have k:(uU t w).getD 0 ⟨false,[]⟩=(uU t w)[0]:=aj
   have d:=a.2 (uU t w)[0] (cQ c);rw[<-k] at d;rw[aO (by rw[e];simp),j,aI];simp only;have o:idx (uU t w) 0=some ((uU t w)[0]):=aS c;rw[o,aI,<-k,aO (λq=>q.elim r hm)];unfold PZ;rw[WU,aI];generalize n:(uU t w).getD 0 ⟨false,[]⟩=b at *;simp only[mG,aI];unfold DI;have fin:∀x:aK,x.aG=t.aG+1->x.Batch.Collect=b.Collect->nG t w ⟨uU t w⟩ b x=some ⟨t.aA,t.aT,t.aR.set w.toNat {x with Batch:=⟨x.Batch.Collect,b.bR⟩,Reads:=[],aH:=[],eX:=[],gN:=[],bH:=[],cK:=[]},t.eE.set w.toNat ⟨(uU t w).drop 1⟩,t.Log++[⟨1,w,t.aG+1,0,b.bR,[]⟩],t.aG+1⟩:=λx p _=>by unfold nG lU DH;rw[GI h3 hw,aI,cJ (by have:=d.2.1;simp;omega),aI,LW,p,cY];rfl
   have l:aZ (t.aG+1)=t.aG+1:=cY;unfold uV jZ;cases hc:b.Collect
   .rw[dY,fin _ aa aj];simp only[l,hc,bQ,bN];have i:(⟨false,b.bR⟩:Batch)=b:=by cases b;grind
    rw[i];rfl
   .rw[aM rfl];simp only[mG,aI];rw[fin _ aa aj];simp only[l,hc,bS];have i:(⟨true,b.bR⟩:Batch)=b:=by cases b;grind
    rw[i];rfl
end
def aAL(t:Table)(w:Int)(p:aA×aK):BV t w ⟨p.1,t.aT,p.2,[]⟩=aEK t w p:=by grind[BV,aEK]
def a4C(b:TV t)(hl:t.Log.length<=1000000)(c:0<=w/\w<=2):xJ t w=some (bM t w):=by
 have d:=b.yY.1;have j:=b.bk.1;have i:=b.base;have f:=GI d c;have n:=b.yY.2 _ (C9 d c);unfold xJ bM;rw[f,aI];cases a:(aE t w).bU
 .simp only[QC,bS,bQ,bN];rw[bMQ d j i c b.todo.1 b.todo.2 b.ser hl];rfl
 .have s : JB (aE t w):=n.resolve_left λe=>by rw[e] at a; cases a
  simp only[jI,bQ,bN,bS];unfold fU;by_cases y:(aE t w).Pc=0\/(aE t w).Pc=20\/(aE t w).Pc=21
  .rw[aM y,aAL];have go:j9 t w (aE t w) true=some (aEK t w (pW t.aA w (aE t w))):=by simp_all[j9,bHV]
   grind
  .rw[aO y];have C:((aE t w).Pc == 0)=false:=ah
   have p:((aE t w).Pc == 20)=false:=ah
   have o:((aE t w).Pc == 21)=false:=ah
   simp only[C,p,o,bQ,bN];unfold j9;simp only[bQ,bN,dL,aI];by_cases B:(aE t w).Pc=1
   .have e:((aE t w).Pc == 1)=true:=aj
    simp_all[aEJ,bHU,BV]
   .have e : ((aE t w).Pc == 1) = false:=aj
    simp only[e,bQ,bN,aO B];by_cases x:2<=(aE t w).Pc/\(aE t w).Pc<=5
    .simp_all[bMN,BV,a4A]
    .simp only[eQ x,bQ,bN,aO x];by_cases A:(aE t w).Pc=6
     .simp_all[bCQ,aAL]
     .have e : ((aE t w).Pc == 6) = false:=aj
      simp only[e,bQ,bN,aO A];by_cases v:(aE t w).Pc=7
      .have e:((aE t w).Pc == 7)=true:=aj
       simp only[e,bS,aM v];rw[bMO d j i c s hl];rfl
      .have e : ((aE t w).Pc == 7) = false:=aj
       simp only[e,bQ,bN,aO v];by_cases z:(aE t w).Pc=8
       .simp_all[bHW,BV,a4A]
       .have e : ((aE t w).Pc == 8) = false:=aj
        simp only[e,bQ,bN,aO z];by_cases u:9<=(aE t w).Pc/\(aE t w).Pc<=13
        .simp_all[bHY,BV,a7N]
        .simp only[eQ u,bQ,bN,aO u];by_cases h:(aE t w).Pc=14\/(aE t w).Pc=16
         .rw[aM h];have go:lV t w (aE t w) true=some (bAG t w (DX t.aT (aE t w))):=by unfold lV;rw[aM rfl,bCR d j i c s b.bk.2];rfl
          grind[bAG,BV]
         .have r:((aE t w).Pc == 14)=false:=ah
          have q:((aE t w).Pc == 16)=false:=ah
          simp only[r,q,bQ,bN,aO h];unfold lV;simp only[bQ,bN];by_cases m:(aE t w).Pc=15
          .simp_all[a7P,aAL]
          .have e:((aE t w).Pc == 15)=false:=aj
           simp only[e,bQ,bN,aO m];by_cases l:(aE t w).Pc=17
           .simp_all[drop_eq,aAL]
           .have e:((aE t w).Pc == 17)=false:=aj
            simp only[e,bQ,bN,aO l];by_cases g:(aE t w).Pc=18
            .have e:((aE t w).Pc == 18)=true:=aj
             simp only[e,bS,aM g];grind[bCS,BV]
            .have e:((aE t w).Pc == 18)=false:=aj
             simp only[e,bQ,bN,aO g];by_cases k:(aE t w).Pc=19
             .have e:((aE t w).Pc == 19)=true:=aj
              simp only[e,bS,aM k];rw[a7Q d j i c s hl];rfl
             simp_all[BV,dB,uZ]
def a1I(o:az)(x:aX):az:=o.takeWhile (λy=>!decide (x.Key<y.Key))++[x]++o.dropWhile (λy=>!decide (x.Key<y.Key))
theorem aY3(y:aX)(r:az)(x:aX):a1I (y::r) x=if x.Key<y.Key then x::y::r else y::a1I r x:=by grind[a1I,List.takeWhile_cons,List.dropWhile_cons]
theorem aUQ(o:az)(x z:aX):z∈a1I o x↔z=x\/z∈o:=by
 induction o with
 |nil=>simp[a1I]
 |cons y r a=>
  grind[aY3]
def a4D{o:az}{x:aX}(e:o.Pairwise (λa b=>a.Key<b.Key))(d:∀y∈o,y.Key≠x.Key):(a1I o x).Pairwise (λa b=>a.Key<b.Key):=by
 induction o with
 |nil=>simp[a1I]
 |cons y r c=>
  grind[aY3,aRA,aUQ]
def bHZ{l:az}(h:WrV l){x:aX}(b:(0<=x.Key/\x.Key<=99)/\(0<=x.dP/\x.dP<=65535))(hl:(yC l x).length<=6):WrV (yC l x):=by
 refine⟨hl,λy a=>?_,?_⟩
 .rcases(aUQ _ _ _).1 (show y∈a1I _ x from a) with rfl|a
  .exact b
  .exact h.2.1 y (aX0.1 a).1
 .exact a4D (h.2.2.sublist List.filter_sublist) λy a=>aj
def bH0{a b:Int}(d:0<=a/\a<=4294967295)(c:0<=b/\b<=65535):0<=HB a b/\HB a b<=65535:=by grind[HB,cC]
section
variable {j:aK} (hj:JB j)
include hj
theorem JB.ab(c:Int):JB (uZ j c):=⟨hj.busy,hj.bat,hj.h,hj.prev,hj.bkt,hj.at_,hj.k,hj.new,hj.old,hj.reads,hj.wr,hj.held,hj.res,hj.node⟩
theorem JB.pc(p:Int):JB {j with Pc:=p}:=⟨hj.busy,hj.bat,hj.h,hj.prev,hj.bkt,hj.at_,hj.k,hj.new,hj.old,hj.reads,hj.wr,hj.held,hj.res,hj.node⟩
theorem JB.sub(s:Sub):JB {j with Sub:=s}:=⟨hj.busy,hj.bat,hj.h,hj.prev,hj.bkt,hj.at_,hj.k,hj.new,hj.old,hj.reads,hj.wr,hj.held,hj.res,hj.node⟩
theorem JB.kk{k:Int}(h:0<=k/\k<=6):JB {j with K:=k}:=⟨hj.busy,hj.bat,hj.h,hj.prev,hj.bkt,hj.at_,h,hj.new,hj.old,hj.reads,hj.wr,hj.held,hj.res,hj.node⟩
theorem JB.nd{n:gL}(h:0<=n.dP/\n.dP<=4294967295):JB {j with Node:=n}:=⟨hj.busy,hj.bat,hj.h,hj.prev,hj.bkt,hj.at_,hj.k,hj.new,hj.old,hj.reads,hj.wr,hj.held,hj.res,h⟩
theorem JB.hh(h:kN x):JB {j with H:=x}:=⟨hj.busy,hj.bat,h,hj.prev,hj.bkt,hj.at_,hj.k,hj.new,hj.old,hj.reads,hj.wr,hj.held,hj.res,hj.node⟩
theorem JB.pv(h:kN x):JB {j with g7:=x}:=⟨hj.busy,hj.bat,hj.h,h,hj.bkt,hj.at_,hj.k,hj.new,hj.old,hj.reads,hj.wr,hj.held,hj.res,hj.node⟩
theorem JB.rd2:j.Reads.length<=2:=by
 have a:=hj.reads.2;have b:∀x∈j.Reads.map Seen.bZ,x=0\/x=1:=λx c=>by obtain⟨s,d,rfl⟩:=H9.1 c;have:=hj.reads.1 s d;omega
 have hl:(j.Reads.map Seen.bZ).length<=2:=by
  match h:j.Reads.map Seen.bZ,a,b with
  |[],_,_=>simp
  |[_],_,_=>simp
  |[_,_],_,_=>simp
  |x::y::z::r,a,b=>
   (simp_all;omega)
 grind
theorem JB.cmd(h:wR j):TQ (cZ j):=by
 have b:=hj.at_;have a:j.At.toNat<j.Batch.bR.length:=by grind[wR]
 unfold cZ;rw[DY,iS a];exact hj.bat.2.2.1 _ (cQ a)
theorem JB.aAK(h:wR j)(is:Bool)(v:Int):JB (Gv.aAK j is v):=by have c:j.At<j.Batch.bR.length:=h;have b:=hj.at_;have a:=hj.res;exact⟨hj.busy,hj.bat,hj.h,hj.prev,hj.bkt,⟨by show 0<=j.At+1;omega,by show j.At+1<=(j.Batch.bR.length:Int);omega⟩,hj.k,hj.new,hj.old,hj.reads,hj.wr,hj.held,by show(((j.eX++[_]).length:Nat):Int)=j.At+1;simp;omega,hj.node⟩
theorem JB.rcw{x:aX}(a:(0<=x.Key/\x.Key<=99)/\(0<=x.dP/\x.dP<=65535)):JB (pK j x).2:=by
 unfold pK;split
 .exact hj.ab 1
 .exact⟨hj.busy,hj.bat,hj.h,hj.prev,hj.bkt,hj.at_,hj.k,hj.new,hj.old,hj.reads,bHZ hj.wr a aa,hj.held,hj.res,hj.node⟩
theorem aUR(x:aX):(pK j x).2.Batch=j.Batch:=by grind[pK,uZ]
theorem JB.ans(h:wR j){c:iK}(hc:TQ c){v:Int}(d:0<=v/\v<=4294967295)(is:Bool):JB (sK j c v is):=by
 unfold sK;split
 .have a:0<=(if is then v else 0)/\(if is then v else 0)<=4294967295:=aa
  generalize (if is then v else 0)=u at a;unfold aCC;have b:=hj.rcw (x:=⟨c.Key,false,HB u c.dP⟩) ⟨hc.2.1,bH0 a hc.2.2.1⟩;split
  .refine b.aAK ?_ _ _;grind[wR,aUR,aML]
  .exact b
 .exact hj.aAK h _ _
theorem JB.jnx:JB (sG j):=by
 unfold sG;split
 .rename_i h;have hc:=hj.cmd h;have e:j.At<j.Batch.bR.length:=h;have d:=hj.at_;have c:=hj.res;split
  .have a:=hj.rcw (x:=⟨(cZ j).Key,(cZ j).Kind == 3,(cZ j).dP⟩) ⟨hc.2.1,hc.2.2.1⟩;split
   .refine⟨a.busy,a.bat,a.h,a.prev,a.bkt,⟨aj,?_⟩,a.k,a.new,a.old,a.reads,a.wr,a.held,aj,a.node⟩;grind[aUR]
   .exact a
  .split
   .refine hj.ans h hc ?_ _;unfold T9;split
    .rename_i x b;have:=hj.wr.2.1 x (List.mem_of_find?_eq_some b);grind
    simp
   .exact⟨hj.busy,hj.bat,hj.h,hj.prev,by show 0<=jN _/\jN _<=1;unfold jN;rw[aM hc.2.1];omega,hj.at_,hj.k,hj.new,hj.old,hj.reads,hj.wr,hj.held,hj.res,hj.node⟩
 .exact((hj.pc 6).kk (k:=0) aa).sub _
theorem JB.spt(b v:Int)(f:0<=b/\b<=1):JB {j with Reads:=(uS j.Reads b v).1}:=by
 refine⟨hj.busy,hj.bat,hj.h,hj.prev,hj.bkt,hj.at_,hj.k,hj.new,hj.old,?_,hj.wr,hj.held,hj.res,hj.node⟩;show(∀s∈(uS j.Reads b v).1,0<=s.bZ/\s.bZ<=1)/\((uS j.Reads b v).1.map Seen.bZ).Nodup;unfold uS;split
 .exact hj.reads
 .rename_i e;refine⟨λs d=>?_,?_⟩
  .obtain d|d:=dR.1 d
   .exact hj.reads.1 s d
   grind
  .rw[vC,aIL];refine⟨hj.reads.2,ae,λa g c hc=>?_⟩;grind
theorem JB.pl(h:j.K<j.aH.length)(x:aX):JB (RP j x):=by
 have hk:=hj.k;have a:=hj.wr.1;unfold RP;split
 .exact(hj.pc 9).kk (k:=j.K+1) aa
 .exact hj.pc 12
theorem JB.bWI:JB (RQ j):=by
 unfold RQ;split
 .rename_i h;refine⟨hj.busy,hj.bat,hj.h,hj.prev,hj.bkt,hj.at_,hj.k,hj.new,⟨aj,λx a=>?_⟩,hj.reads,hj.wr,hj.held,hj.res,hj.node⟩;obtain a|a:=dR.1 a
  .exact hj.old.2 x a
  grind
 .exact hj
theorem JB.rtn:JB (OZ j):=by
 unfold OZ;split
 .exact hj.sub _
 .exact hj
end
def bMR(h:uQ l){a:Nat}(c:a+4<=l.length):0<=ld l a 4/\ld l a 4<=4294967295:=by
 rw[ld4 c];have b:∀k,k<l.length->0<=bt l k/\bt l k<=255:=λk hk=>by rw[<-aUC hk];exact h _ (cQ hk)
 grind
def a4E(a:lN m)(x:Int):0<=(aCB m.Heap x).dP/\(aCB m.Heap x).dP<=4294967295:=by
 unfold aCB;split
 .rename_i h;have b:=(BU h.2.1 h.2.2).1;have c:=a.1.1.1.1;exact bMR a.1.1.1.2.2.1 aa
 .show(0:Int)<=0/\(0:Int)<=4294967295;omega
def YW(l:az)(n:Int):gG l n<=l.length:=by grind[gG]
def a1J(b:k.length=2)(a:0<=i/\i<=1):eG k i∈k:=by grind[eG]
def aQQ(h:k.length=2/\∀x∈k,BkV x)(i:Nat){y:bZ}(a:BkV y):(k.set i y).length=2/\∀x∈k.set i y,BkV x:=⟨aj,λx b=>(tD b).elim (h.2 x) λe=>e ▸ a⟩
theorem bRH{b:aA}(a:lR b)(f:0<=w/\w<=2)(g:lJ x)(hn:¬bH b.aQ (x % 32)):lR {b with Mem:=a39 b.Mem w x}:=by
 unfold a39;by_cases hl:m5 b.Mem x
 .obtain⟨m',d,i,_,h⟩:=aQN a.1.1 f hl;rw[aKL a.1.1 f hl] at d;injection d with d
  rw[aM hl,d];refine⟨⟨h.1,a.1.2⟩,λr c=>⟨h.live (a.2 r c).1 ?_,(a.2 r c).2⟩⟩;intro e;exact hn ⟨r,c,(a.2 r c).1.1,e⟩
 simp_all
structure TRV (r:TR):Prop where
 b:lR r.b
 k:r.k.length=2/\∀x∈r.k,BkV x
 j:r.j=cM\/JB r.j
def aPZ{c:Prop}[Decidable c]{a b:TR}(e:c->TRV a)(d:¬c->TRV b):TRV (if c then a else b):=aj
def bRI{b:aA}(f:lR b)(hk:k.length=2/\∀x∈k,BkV x)(G:0<=w/\w<=2)(d:JB j):TRV (fU b k w j):=by
 have P:=d.k;have t:=d.wr;have M:=d.rd2;have u:=bMK f G j.Sub;have p:∀{i},0<=i/\i<=1->BkV (eG k i):=λD=>hk.2 _ (a1J hk.1 D);unfold fU;refine aPZ (λ_=>?_) λ_=>?_
 .refine⟨u,hk,.inr ?_⟩;unfold pW;split
  .exact d.sub _
  .split
   .exact(d.pc 1).sub _
   .split
    .exact(d.pc 21).sub _
    .exact(d.pc 19).sub _
 refine aPZ (λ_=>?_) λ_=>?_
 .exact⟨f,hk,.inr d.jnx⟩
 refine aPZ (λ_=>?_) λ_=>?_
 .refine⟨f,hk,.inr ?_⟩;unfold i6;have l:=p d.bkt;split
  .split
   .exact d.ab _
   .have o:JB {j with eW:=(eG k j.bZ).eW}:=⟨d.busy,d.bat,d.h,d.prev,d.bkt,d.at_,d.k,d.new,d.old,d.reads,d.wr,d.held,d.res,d.node⟩;have K:JB {j with eW:=(eG k j.bZ).eW,Found:=false}:=⟨d.busy,d.bat,d.h,d.prev,d.bkt,d.at_,d.k,d.new,d.old,d.reads,d.wr,d.held,d.res,d.node⟩;exact((K.hh l.1).nd (n:=aYX) (by show(0:Int)<=0/\(0:Int)<=4294967295;omega)).pc _
  .split
   .exact(d.nd (a4E f.1.1 _)).pc _
   .split
    .split
     .exact d.ab _
     .split
      .have o:JB {j with Found:=j.Node.Key == (cZ j).Key}:=⟨d.busy,d.bat,d.h,d.prev,d.bkt,d.at_,d.k,d.new,d.old,d.reads,d.wr,d.held,d.res,d.node⟩;exact(o.hh (aMJ _)).pc _
      .exact d.ab _
    .split
     .exact d.ab _
     .have H:=d.spt j.bZ j.eW d.bkt;split
      .exact H.ab _
      .split
       .rename_i h;exact H.ans h (d.cmd h) d.node _
       .exact H.ab _
 refine aPZ (λ_=>?_) λ_=>?_
 .unfold yE;split
  .exact⟨f,hk,.inr ((d.pc 7).kk (k:=0) aa)⟩
  .rename_i C;have:=YW j.aH j.aH.length;have:=t.1;refine⟨u,hk,.inr ?_⟩;simp only;split
   .exact d.sub _
   .split
    .exact(d.sub _).ab _
    .rename_i R;have T:lJ (iV b w j.Sub).2.Out:=Classical.byContradiction λq=>R (.inr (.inl q));have S:j.gN.length<6:=aa
     refine⟨d.busy,d.bat,d.h,d.prev,d.bkt,d.at_,⟨aj,aj⟩,⟨aj,λx m=>?_⟩,d.old,d.reads,d.wr,d.held,d.res,d.node⟩;obtain m|m:=dR.1 m
     .exact d.new.2 x m
     grind
 refine aPZ (λ_=>?_) λ_=>?_
 .have U:=a1A j.aH;unfold pU;split
  .rename_i C;have D:j.K.toNat<(rO j.aH).length:=aa
   have v:gK j=(rO j.aH)[j.K.toNat]:=by grind[gK]
   have l:0<=gK j/\gK j<=1:=by grind[YS,cQ]
   have g:=p l;have s:=aQQ hk (gK j).toNat (y:={eG k (gK j) with eU:=w+1}) ⟨g.1,g.2.1,aj⟩;have A:JB (MR j):=by
    refine⟨d.busy,d.bat,d.h,d.prev,d.bkt,d.at_,⟨by show 0<=j.K+1;omega,by show j.K+1<=6;omega⟩,d.new,d.old,d.reads,d.wr,?_,d.res,d.node⟩;show(∀x∈(if gK j∈j.bH then j.bH else j.bH++[gK j]),0<=x/\x<=1)/\(if gK j∈j.bH then j.bH else j.bH++[gK j]).Nodup;split
    .exact d.held
    .rename_i hm;refine⟨λx m=>?_,?_⟩
     .obtain m|m:=dR.1 m
      .exact d.held.1 x m
      grind
     .rw[aIL];exact⟨d.held.2,ae,λa W c hc e=>aj⟩
   split
   .exact⟨f,hk,.inr (d.ab _)⟩
   .split
    .exact⟨f,hk,.inr (d.ab _)⟩
    .split
     .exact⟨f,s,.inr ((A.pc 8).kk (k:=0) aa)⟩
     .exact⟨f,s,.inr A⟩
  .exact⟨f,hk,.inr ((d.pc 8).kk (k:=0) aa)⟩
 refine aPZ (λ_=>?_) λ_=>?_
 .refine⟨f,hk,.inr ?_⟩;unfold OY;split
  .exact(d.pc 9).kk (k:=0) aa
  .split
   .exact d.ab _
   .exact d.kk (k:=j.K+1) aa
 refine aPZ (λ_=>?_) λ_=>?_
 .have L:=t.1;unfold mO;split
  .exact⟨f,hk,.inr (d.pc 14)⟩
  .rename_i C;have D:j.K.toNat<j.aH.length:=aa
   have v:nP j=j.aH[j.K.toNat]:=by grind[nP]
   have m:=t.2.1 j.aH[j.K.toNat] (cQ D);rw[<-v] at m;have l:0<=jN (nP j).Key/\jN (nP j).Key<=1:=by unfold jN;omega
   have g:=p l;have Q:kN 0:=.inl rfl;split
   .have o:=((d.pc 10).hh g.1).pv Q;refine⟨f,hk,.inr ?_⟩;simp only;split
    .exact o.pl aj _
    .exact o
   .split
    .have o:=d.nd (a4E f.1.1 j.H);refine⟨f,hk,.inr ?_⟩;simp only;split
     .exact o.pc 11
     .split
      .exact o.pl aj _
      .exact(o.hh (aMJ _)).pv d.h
    .split
     .have o:=d.bWI;have B:(RQ j).K<(RQ j).aH.length:=by grind[RQ]
      split
      .exact⟨f,aQQ hk _ ⟨aMJ _,g.2⟩,.inr (o.pl B _)⟩
      .exact⟨f.mem (bHR f.1.1 _ _),hk,.inr (o.pl B _)⟩
     .split
      .exact⟨f,hk,.inr (d.ab _)⟩
      .rename_i V;have N:0<=gG j.aH j.K:=by grind[gG]
       have F:(gG j.aH j.K).toNat<j.gN.length:=aa
       have en:LC j=j.gN[(gG j.aH j.K).toNat]:=by grind[LC]
       have z:lJ (LC j):=by rw[en];exact d.new.2 _ (cQ F)
       split
       .exact⟨f.mem (bHQ f.1.1 _ _),hk,.inr (d.pc 13)⟩
       .exact⟨f,aQQ hk _ ⟨.inr z,g.2⟩,.inr ((d.pc 9).kk (k:=j.K+1) aa)⟩
 refine aPZ (λ_=>?_) λ_=>?_
 .unfold DX;split
  .rename_i C;have v:zO j=j.bH[0]:=by grind[zO]
   have l:=d.held.1 j.bH[0] (cQ C);rw[<-v] at l;have g:=p l;have J:=g.2.1;refine⟨f,aQQ hk _ ?_,.inr ⟨d.busy,d.bat,d.h,d.prev,d.bkt,d.at_,d.k,d.new,d.old,d.reads,d.wr,⟨λx m=>d.held.1 x (XE m),d.held.2.sublist (List.drop_sublist _ _)⟩,d.res,d.node⟩⟩;split
   .refine⟨g.1,?_,ae⟩;grind
   .exact⟨g.1,g.2.1,ae⟩
  .split
   .exact⟨f,hk,.inr (d.pc 17)⟩
   .exact⟨f,hk,.inr (((d.pc 15).kk (k:=0) aa).rtn)⟩
 refine aPZ (λ_=>?_) λ_=>?_
 .have O:=d.old.1;unfold HC;split
  .exact⟨f,hk,.inr (d.pc 18)⟩
  .refine⟨u,hk,.inr ?_⟩;simp only;split
   .exact((d.kk (k:=j.K+1) aa).sub _).rtn
   .exact d.sub _
 refine aPZ (λ_=>?_) λ_=>?_
 .unfold HD;split
  .exact⟨f,hk,.inr (d.pc 18)⟩
  .rename_i C;have E:0<j.gN.length:=aa
   have v:j.gN.getD 0 0=j.gN[0]:=aj
   have hh:=d.new.2 j.gN[0] (cQ E);rw[<-v] at hh;refine⟨?_,hk,.inr ⟨d.busy,d.bat,d.h,d.prev,d.bkt,d.at_,d.k,⟨by show(j.gN.drop 1).length<=6;have:=d.new.1;simp;omega,λx m=>d.new.2 x (XE m)⟩,d.old,d.reads,d.wr,d.held,d.res,d.node⟩⟩;grind[bRH]
 refine aPZ (λ_=>?_) λ_=>?_
 .obtain⟨r,I,X,o,K⟩:=a37 f.1.2.1 G;rw[aYT f.1.2.1 G] at I;injection I with I
  refine⟨f.clock aj aj,hk,.inr (d.pc 19)⟩
 refine aPZ (λ_=>?_) λ_=>?_
 .exact⟨f,hk,.inl rfl⟩
 .exact⟨f,hk,.inr (d.ab 1)⟩
def bH1{b:Batch}(a:aFZ b)(s:Int):JB (jZ b s):=⟨rfl,a,.inl rfl,.inl rfl,by simp[jZ],by simp[jZ],by simp[jZ],by simp[jZ],by simp[jZ],by simp[jZ],⟨by simp[jZ],by simp[jZ],by simp[jZ]⟩,by simp[jZ],by simp[jZ],by show(0:Int)<=0/\(0:Int)<=4294967295;omega⟩
def TV.step(a:TV t)(p:0<=w/\w<=2):TV (bM t w):=by
 have n:=a.yY.2 _ (C9 a.yY.1 p);have d:∀{x:aK},(x=cM\/JB x)->(t.aR.set w.toNat x).length=3/\∀j∈t.aR.set w.toNat x,j=cM\/JB j:=λs=>
  ⟨by simpa using a.yY.1,λj o=>(tD o).elim (a.yY.2 j) λe=>e ▸ s⟩
 unfold bM;split
 .rename_i c;have o:JB (aE t w):=n.resolve_left λe=>by rw[e] at c;cases c
  have h:=bRI a.base a.bk p o;exact⟨h.b,h.k,d h.j,a.todo,a.ser⟩
 .split
  .exact a
  .rename_i u;have k:w.toNat<t.eE.length:=by have:=a.todo.1;omega
   have i:(⟨uU t w⟩:aP)∈t.eE:=by unfold uU;rw[DY,iS k];exact cQ _
   have f:(uU t w).length<=12/\∀b∈uU t w,aFZ b:=a.todo.2 _ i;have m:0<(uU t w).length:=aa
   have y:(uU t w).getD 0 ⟨false,[]⟩=(uU t w)[0]:=aj
   have g:=f.2 (uU t w)[0] (cQ m);rw[<-y] at g;have z:=a.ser;have r:t.aG≠1000000:=λe=>u (.inr e);unfold uV;refine⟨a.base,a.bk,d (.inr (bH1 g _)),⟨by simpa using a.todo.1,λq l=>?_⟩,⟨aj,aj⟩⟩;obtain h|h:=tD l
   .exact a.todo.2 q h
   .subst h;exact⟨aj,λb v=>f.2 b (XE v)⟩
def aUS(c:iK):R8 c=some (decide (TQ c)):=by
 unfold R8 MY MX;simp only[cR,aI];by_cases a:1<=c.Kind/\c.Kind<=4
 .by_cases b:0<=c.Key/\c.Key<=99
  .simp only[bY a,bY b,jI,bQ,bN];have i:(c.Kind=2\/c.Kind=4)->decide (0<=c.dP/\c.dP<=65535)=decide (TQ c):=λk=>by rw[LY,decide_eq_true_eq,decide_eq_true_eq];exact⟨λh=>⟨a,b,h,aa⟩,λh=>h.2.2.1⟩
   by_cases g:c.Kind=2
   .grind
   .have e:(c.Kind == 2)=false:=aj
    by_cases f:c.Kind=4
    .grind
    .have d:(c.Kind == 4)=false:=aj
     simp only[e,d,bQ,bN];congr 1;rw[LY,beq_iff_eq,decide_eq_true_eq];constructor
     .intro h;exact⟨a,b,aa,.inr (.inr h)⟩
     .rintro⟨_,_,_,h|h|h⟩<;>omega
  simp_all[eQ,TQ]
 .simp only[eQ a,QC,bS];grind[TQ]
theorem a7R(c:iK):GP c=some (decide (TQ c)):=by
 have key:∀B:Bool,rW c B=some (decide ((1<=c.Kind/\c.Kind<=4)/\(0<=c.Key/\c.Key<=99)/\((B=true/\(0<=c.dP/\c.dP<=65535))\/c.dP=0))):=λB=>by unfold rW oC;simp only[dL,aI];grind
 unfold GP;have fin:∀B:Bool,(B=true↔c.Kind=2\/c.Kind=4)->rW c B=some (decide (TQ c)):=λB a=>by rw[key];congr 1;rw[LY,decide_eq_true_eq,decide_eq_true_eq];grind[TQ]
 grind
def aUT{b:Batch}(hl:b.bR.length<=1000):IM b=some (decide (aFZ b)):=by
 unfold IM;cases hc:b.Collect
 .rw[dY];have e:∀k (hk:k<b.bR.length),pX b (k:Int)=if TQ b.bR[k] then some (.next ((k+1:Nat):Int)) else some (.stop (Out.ret false)):=λk hk=>by simp only[pX];rw[cO,aS hk,aI,aUS,aI,cY];simp
  have key:loop (pX b) 0=_:=m0 (f:=pX b) b.bR (λk=>(k:Int)) TQ (Out.brk ()) (Out.ret false) (λk hk c=>aj) (λk hk c=>aj) (by simp[pX]);rw[key];by_cases q:∀x∈b.bR,TQ x
  .rw[aM q];simp only[aI,aA0,aAZ,cR];congr 1;rw[LY,decide_eq_true_eq,decide_eq_true_eq];exact⟨λa=>⟨λh=>aj,aa,q,λ_=>aa⟩,λa=>by have:=a.2.2.2 hc;have:=a.2.1;omega⟩
  .rw[aO q,eQ (show ¬aFZ b from λa=>q a.2.2.1)];rfl
 .rw[aM rfl];congr 1;rw[LY,beq_iff_eq,decide_eq_true_eq];constructor
  .intro h;have d:b.bR=[]:=vB aa;exact⟨λ_=>d,aa,aj,λh=>aj⟩
  .intro h;rw[h.1 hc];rfl
def BsV(l:bm):Prop:=∀b∈l,aFZ b
instance (l:bm):Decidable (BsV l):=by unfold BsV;infer_instance
def aUU{l:ax}(hl:l.length<=1000)(i:∀q∈l,∀b∈q.List,b.bR.length<=1000):IN l=some (decide (W6 l)):=by
 unfold IN;have d:∀k (hk:k<l.length),l[k].List.length<=12->loop (pY l (k:Int)) 0=some (if BsV l[k].List then Out.brk () else Out.ret false):=by
  intro k hk c;have h:∀j (e:j<l[k].List.length),pY l (k:Int) (j:Int)=if aFZ l[k].List[j] then some (.next ((j+1:Nat):Int)) else some (.stop (Out.ret false)):=by intro j e;simp only[pY];rw[aS hk,aI,cO,aI,aS e,aI,aUT (i _ (cQ hk) _ (cQ e)),aI,cY];simp
  have:=m0 (f:=pY l (k:Int)) l[k].List (λj=>(j:Int)) aFZ (Out.brk ()) (Out.ret false) (λj e g=>aj) (λj e g=>aj) (by
   simp_all[pY,aS])
  refine Eq.trans this ?_;congr 1
 have h:∀k (hk:k<l.length),pZ l (k:Int)=if QuV l[k] then some (.next ((k+1:Nat):Int)) else some (.stop (Out.ret false)):=by
  intro k hk;simp only[pZ];rw[cO,aS hk,aI];by_cases c:l[k].List.length<=12
  .rw[T8,d k hk c];by_cases q:BsV l[k].List
   .rw[aM q,aM (show QuV l[k] from⟨c,q⟩)];simp only[aI,aA3,aA2];grind[cC]
   .rw[aO q,aO (show ¬QuV l[k] from λa=>q a.2)];rfl
  .rw[cO,aO (show ¬QuV l[k] from λa=>c a.1)]
 have key:loop (pZ l) 0=_:=m0 (f:=pZ l) l (λk=>(k:Int)) QuV (Out.brk ()) (Out.ret false) (λk hk g=>aj) (λk hk g=>aj) (by simp[pZ]);rw[key];by_cases q:∀x∈l,QuV x
 .rw[aM q];simp only[aI,aA4,aA1];congr 1;rw[LY];simp only[beq_iff_eq,decide_eq_true_eq];exact⟨λa=>⟨aa,q⟩,λa=>by have:=a.1;omega⟩
 .rw[aO q,eQ (show ¬W6 l from λa=>q a.2)];rfl
def RZ{l:List O}{f:Int->Option (Step Int (Out Unit Int))}{p:O->Bool}{m:(Out Unit Int)->bu}(hl:l.length<=4611686018427387904)
  (g:∀k:Nat,f (k:Int)=if h:k<l.length then(if p l[k] then some (.stop (Out.ret (k:Int))) else some (.next ((k+1:Nat):Int))) else some (.stop (Out.brk ()))) (d:∀r,m (.ret r)=some r) (c:m (.brk ())=some (-1)) :
  ((loop f 0).bind m).bind (λb=>some (decide (0<=b)))=some (l.any p):=by
 rcases TC (f:=f) (p:=p) hl g l.length 0 aa with ⟨j,h,_,a,q,n⟩|⟨s,a⟩
 .rw[show(0:Int)=((0:Nat):Int) from rfl,n,aI,d,aI,bY aa];grind
 .rw[show(0:Int)=((0:Nat):Int) from rfl,a,aI,c,aI,eQ aa];congr 1;refine(aIH.2 λx e=>?_).symm;obtain⟨i,o,rfl⟩:=XB e;grind
def a1K{l:bc}(hl:l.length<=1000){f:iK->Bool}{g:iK->aw}(a:∀x∈l,g x=some (f x)):tI l g=some (l.any f):=
 RZ (f:=tH l g) (m:=HI) aa (λk=>by
  simp only[tH];by_cases h:k<l.length
  .rw[dif_pos h,cO,aS h,aI,a _ (cQ h),aI,cY];rfl
  grind) (λ_=>rfl) rfl
def aUV{l:bm}(hl:l.length<=1000){f:Batch->Bool}{g:Batch->aw}(a:∀x∈l,g x=some (f x)):pP l g=some (l.any f):=
 RZ (f:=pO l g) (m:=DB) aa (λk=>by
  simp only[pO];by_cases h:k<l.length
  .rw[dif_pos h,cO,aS h,aI,a _ (cQ h),aI,cY];rfl
  grind) (λ_=>rfl) rfl
def aBZ{l:ax}(hl:l.length<=1000){f:aP->Bool}{g:aP->aw}(a:∀x∈l,g x=some (f x)):kQ l g=some (l.any f):=
 RZ (f:=oW l g) (m:=zX) aa (λk=>by
  simp only[oW];by_cases h:k<l.length
  .rw[dif_pos h,cO,aS h,aI,a _ (cQ h),aI,cY];rfl
  grind) (λ_=>rfl) rfl
def a1L{l:List O}{P:O->Prop}[DecidablePred P]:(!(l.any λx=>!decide (P x)))=decide (∀x∈l,P x):=aj
theorem aUW{b:Batch}(hl:b.bR.length<=1000):IW b=some (decide (aFZ b)):=by
 unfold IW;cases hc:b.Collect
 .rw[dY,dL,aI];by_cases h:1<=(b.bR.length:Int)/\(b.bR.length:Int)<=6
  .rw[bY h,aM rfl,a1K hl (f:=λx=>!decide (TQ x)) (λx _=>by grind[SA,a7R]),aI,a1L];unfold wZ;congr 1;rw[LY,decide_eq_true_eq,decide_eq_true_eq];exact⟨λa=>⟨λh=>aj,aa,a,λ_=>aa⟩,λa=>a.2.2.1⟩
  .rw[eQ h,dY];grind[wZ,aFZ]
 .rw[aM rfl];congr 1;rw[LY,beq_iff_eq,decide_eq_true_eq];constructor
  .intro h;have c:b.bR=[]:=vB aa;exact⟨λ_=>c,aa,aj,λh=>aj⟩
  .intro h;rw[h.1 hc];rfl
def aUX{l:ax}(hl:l.length<=1000)(c:∀q∈l,q.List.length<=1000)(i:∀q∈l,∀b∈q.List,b.bR.length<=1000):IY l=some (decide (W6 l)):=by
 have e:∀q∈l,IX q=some (!decide (QuV q)):=λq d=>by
  unfold IX y8;by_cases h:q.List.length<=12
  .rw[T8,aUV (c q d) (f:=λx=>!decide (aFZ x)) (λx g=>by grind[L6,aUW]),aI];congr 1;rw[<-Bool.not_not ((q.List.any λx=>!decide (aFZ x))),a1L];congr 1;rw[LY,decide_eq_true_eq,decide_eq_true_eq];exact⟨λa=>⟨h,a⟩,λa=>a.2⟩
  .rw[cO,eQ (show ¬QuV q from λa=>h a.1)];rfl
 unfold IY FD;by_cases h:l.length=3
 .rw[cO,aBZ hl e,aI,a1L];congr 1;rw[LY,decide_eq_true_eq,decide_eq_true_eq];exact⟨λa=>⟨h,a⟩,λa=>a.2⟩
 .rw[T8,eQ (show ¬W6 l from λa=>h a.1)]
def a1M{b:Batch}(h:b.bR.length<=1000):MZ b=some b/\zY b=some b:=by unfold MZ zY ZE lU;rw[LW];simp
def aUY{l:ax}(hl:l.length<=1000)(c:∀q∈l,q.List.length<=1000)(d:∀q∈l,∀b∈q.List,b.bR.length<=1000):IT l=some l/\zZ l=some l:=by
 constructor
 .unfold IT;rw[aT9 l]
  .rfl
  .intro k hk;have e:=c _ (cQ hk);simp only[IS];rw[cO,aE8 l[k].List]
   .simp only[aI,UM,UL];rw[LW,cY];rfl
   .intro i a;simp only[IQ,IP];rw[aS hk,aI,cO,aI,aS a,aI,(a1M (d _ (cQ hk) _ (cQ a))).1,aI,LW,cY];rfl
   simp_all[IQ,aS]
  grind[IS]
 .unfold zZ;rw[aT9 l]
  .rfl
  .intro k hk;have e:=c _ (cQ hk);simp only[I1];rw[cO,aS hk,aI,aE8 l[k].List]
   .simp only[aI,UP,UO];rw[LW,cY];rfl
   .intro i a;simp only[I0,IZ];rw[cO,aS a,aI,(a1M (d _ (cQ hk) _ (cQ a))).2,aI,LW,cY];rfl
   grind[I0]
  grind[I1]
def bAH:Table:=⟨⟨⟨⟨[],[]⟩,⟨[],[]⟩⟩,⟨0,[]⟩,[],[]⟩,[],[],[],[],0⟩
def dA(t:ax):Table:=⟨bAF,List.replicate 2 ⟨0,0,0⟩,List.replicate 3 cM,t,[],0⟩
def aEL{t:ax}(hl:t.length<=1000)(c:∀q∈t,q.List.length<=1000)(a:∀q∈t,∀b∈q.List,b.bR.length<=1000):M0 t=some (if W6 t then dA t else bAH)/\M1 t=some (if W6 t then dA t else bAH):=by
 unfold M0 M1;rw[aUU hl a,aUX hl c a];simp only[aI];by_cases h:W6 t
 .simp only[bY h,jI,bQ,bN,aM h,aUL.1,aUL.2,aI,(aUY hl c a).1,(aUY hl c a).2];rw[WU,WU];exact⟨rfl,rfl⟩
 .simp only[eQ h,QC,bS,aO h];exact⟨rfl,rfl⟩
def aE9{t:ax}(h:W6 t):TV (dA t):=⟨bHS,⟨rfl,λx a=>by simp[dA] at a;subst a;exact⟨.inl rfl,ae,ae⟩⟩,⟨rfl,λj b=>by grind[dA]⟩,h,by show(0:Int)<=0/\(0:Int)<=1000000;omega⟩
def VT(t:Table)(p:Int):Table:=if 0<=p/\p<=2 then bM t p else t
def E7(t:Table)(l:an):Table:=l.foldl VT t
def dX{P:TR->Prop}{c:Prop}[Decidable c]{a b:TR}(e:c->P a)(d:¬c->P b):P (if c then a else b):=aj
def bMS(b:aA)(k:ay)(w:Int)(j:aK):(fU b k w j).l.length<=1:=by unfold fU;refine dX (P:=λr=>r.l.length<=1) (λ_=>iT _) λ_=>dX (P:=λr=>r.l.length<=1) (λ_=>iT _) λ_=>dX (P:=λr=>r.l.length<=1) (λ_=>iT _) λ_=>dX (P:=λr=>r.l.length<=1) (λ_=>iT _) λ_=>dX (P:=λr=>r.l.length<=1) (λ_=>?_) λ_=>dX (P:=λr=>r.l.length<=1) (λ_=>iT _) λ_=>dX (P:=λr=>r.l.length<=1) (λ_=>iT _) λ_=>dX (P:=λr=>r.l.length<=1) (λ_=>iT _) λ_=>dX (P:=λr=>r.l.length<=1) (λ_=>iT _) λ_=>dX (P:=λr=>r.l.length<=1) (λ_=>iT _) λ_=>dX (P:=λr=>r.l.length<=1) (λ_=>iT _) λ_=>dX (P:=λr=>r.l.length<=1) (λ_=>jE _) λ_=>iT _;grind
theorem aFA(t:Table)(p:Int):(VT t p).Log.length<=t.Log.length+1:=by
 unfold VT bM;split
 .split
  .have:=bMS t.aA t.aT p (aE t p);show(t.Log++_).length<=_;grind
  .split
   .omega
   .show(t.Log++_).length<=_;simp
 .omega
def a4F(h:TV t)(p:Int):TV (VT t p):=by
 unfold VT;split
 .exact h.step (by assumption)
 .exact h
def aID{P:Table->Prop}(b:∀t w,TV t->(0<=w/\w<=2)->P t->P (bM t w)):∀(l:an) {t:Table},TV t->P t->TV (E7 t l)/\P (E7 t l)
 |[],t,h,a=>⟨h,a⟩
 |p::l,t,h,a=>aID b l (a4F h p) (by grind[VT])
def aY4{x:FA}{n:Nat}(hn:((x.kD.take ((if 400<(x.kD.length:Int) then 400 else(x.kD.length:Int)).toNat)).drop 0)=x.kD.take n)(a:(x.kD.take n).length<=400):∀(d k:Nat) (t:Table),k+d=(x.kD.take n).length->TV t->t.Log.length<=k->loop (rG x) ((k:Int),t)=some (E7 t ((x.kD.take n).drop k))
 |0,k,t,hk,c,hl=>by rw[List.drop_of_length_le aa];refine aY ?_;simp only[rG,hn];rw[aO aj];rfl
 |d + 1,k,t,hk,c,hl=>by
  have b:k<(x.kD.take n).length:=aa
  have st:rG x ((k:Int),t)=some (.next (((k+1:Nat):Int),VT t (x.kD.take n)[k])):=by
   simp only[rG,hn];rw[aM aj,aS b,aI,oH,aI];unfold zF VT;rw[cY];by_cases e:0<=(x.kD.take n)[k]/\(x.kD.take n)[k]<=2
   .rw[bY e,aM rfl,a4C c aa e,aM e];rfl
   grind
  rw[bJ st,aY4 hn a d (k+1) _ aa (a4F c _) (by grind[aFA]),vA b];rfl
def a1N{x:FA}(hl:x.eE.length<=1000)(c:∀q∈x.eE,q.List.length<=1000)(e:∀q∈x.eE,∀b∈q.List,b.bR.length<=1000)(a:W6 x.eE):tT x=some (E7 (dA x.eE) (x.kD.take 400)):=by
 unfold tT;rw[(aEL hl c e).2,aM a,aI,aO (by simp[dA])];have d:((x.kD.take ((if 400<(x.kD.length:Int) then 400 else(x.kD.length:Int)).toNat)).drop 0)=x.kD.take 400:=by
  (simp_all;omega)
 rw[WU,show(0:Int)=((0:Nat):Int) from rfl,aY4 d aj (x.kD.take 400).length 0 _ aa (aE9 a) (by simp[dA]),aI];rfl
def QuS(m:Int)(q:aP):Prop:=(q.List.length:Int)<=m/\∀x∈q.List,x.bR.length<=1000
section
variable {b:bh} {i h:Int} (hc:Cu b i)
include hc
def bMT(l:ax):Prop:=l.length<=3/\∀q∈l,QuS 100 q
theorem bMU{m:Int}(D:m<=100):HA (MW ⟨b,i,h⟩ m) (λx=>x.1.length<=4000/\Cu b x.2.1):=by
 unfold MW;refine .bind (below hc aa) λy ⟨c,f⟩=>?_;refine .bind (P:=λx=>x.1.length<=4000/\Cu b x.2.1) (.loop (λs=>s.2.1.toNat) (λs=>(0<=s.2.1/\s.1.length+8*s.2.1<=4000)/\Cu b s.2.2.1) ⟨⟨c.1,ah⟩,f⟩ ?_) λx w=>.ret w;rintro⟨l,n,B,f⟩ ⟨⟨t,p⟩,a⟩;simp only at t p a;simp only[XW];refine .ite (λq=>?_) (λq=>?_)
 .have A:=of_decide_eq_true q;refine .bind (below a aa) λj ⟨_,d⟩=>.bind (below d aa) λg ⟨e,o⟩=>?_;rw[cY];refine .bind (P:=λx=>(x.length:Int)<=l.length+8) (.loop (λs=>s.2.toNat) (λs=>0<=s.2/\(s.1.length:Int)+s.2<=l.length+8) ⟨aa,aj⟩ ?_) ?_
  .rintro⟨r,k⟩ ⟨v,u⟩;simp only at v u;simp only[XU];refine .ite (λq=>?_) (λq=>?_)
   .have z:=of_decide_eq_true q;refine .need ah (.ret ?_);grind[cC]
   .exact .ret aa
  .intro r C;simp only[XV,XT];refine .ret ?_;grind[cC]
 .exact .ret ⟨aj,a⟩
end
def bMT.fit{l:ax}(h:bMT l):l.length<=1000/\(∀q∈l,q.List.length<=1000)/\∀q∈l,∀b∈q.List,b.bR.length<=1000:=⟨by have:=h.1;omega,λq a=>by have:=(h.2 q a).1;omega,λq a=>(h.2 q a).2⟩
def bCT{x:FA}(a:bMT x.eE):UN x=some (decide (W6 x.eE)):=by
 obtain⟨d,c,b⟩:=a.fit;unfold UN;rw[(aEL d c b).1,aI];by_cases h:W6 x.eE
 .rw[aM h,bY h];rfl
 .rw[aO h,eQ h];rfl
def a7S{b:bZ}(h:BkV b):ZP b=some true:=by unfold ZP EP;rw[RM,bY h.1,aI,aM rfl,cR,bY h.2.1,aI,aM rfl,cR,bY h.2.2];rfl
def aKP(hl:l.length<=6)(h:∀x∈l,lJ x):xS l=some true:=by
 unfold xS;have key:loop (o9 l) 0=some (Out.brk ()):=eY (f:=o9 l) l.length (λk=>(k:Int)) _ (λk hk=>by
  simp only[o9];rw[cO,aS hk,aI,jH,bY (h _ (cQ hk)),aI,dY,cY];rfl) (by simp[o9])
 grind[SR,SQ]
def a7T(h:JB j):NR j=some true:=by
 have s:=h.bat.2.1;have hk:=h.k;have b:=h.wr;have hh:=h.held;have i:=h.rd2;have c:j.bH.length<=2:=by
  match e:j.bH,hh with
  |[],_=>simp
  |[_],_=>simp
  |[_,_],_=>simp
  |x::y::z::r,⟨hm,q⟩=>
   (simp_all;omega)
 have m:MG j=some true:=by
  unfold MG;have key:loop (uF j) 0=some (Out.brk ()):=eY (f:=uF j) j.aH.length (λk=>(k:Int)) _ (λk hk=>by
   have g:=b.1;have d:=b.2.1 _ (cQ hk);simp only[uF,oQ];rw[cO,aS hk,aI,cR,bY d.1,aI,dY,aI,cR,bY d.2,aI,dY];by_cases p:(0:Int)<k
   .have a:k-1<j.aH.length:=aa
    have l:=aX1.1 b.2.2 (k-1) k a hk aa;rw[aM aj,aI,cY (x:=(k:Int)-1),show(k:Int)-1=((k-1:Nat):Int) by omega,aS a,aI,eQ aa,dY,cY];rfl
   simp_all[cC]) (by simp[uF])
  rw[key];rfl
 have n:MH j=some true:=by
  unfold MH;have key:loop (uG j) 0=some (Out.brk ()):=eY (f:=uG j) j.Reads.length (λk=>(k:Int)) _ (λk hk=>by
   simp only[uG];rw[cO,aS hk,aI,cR,bY (h.reads.1 _ (cQ hk)),aI,dY,cY];rfl) (by simp[uG])
  rw[key];exact m
 have o:fV j false=some true:=by
  unfold fV;have key:loop (uH j) 0=some (Out.brk ()):=eY (f:=uH j) j.bH.length (λk=>(k:Int)) _ (λk hk=>by
   simp only[uH,CP];rw[cO,aS hk,aI,cR,bY (hh.1 _ (cQ hk)),aI,dY,WU,aI,H3,PW,yU (by grind[maxLen]),eQ ((MO _).1 hh.2 k hk),aI,dY,cY];rfl) (by simp[uH])
  rw[dY,key];exact n
 unfold NR;rw[aUT aa,bY h.bat,RM,bY h.h,RM,bY h.prev,cR,bY h.bkt,cR,bY h.at_,cR,bY (show 0<=j.K/\j.K<=100 by omega),aKP h.new.1 h.new.2,aKP h.old.1 h.old.2];simp only[aI,jI,bQ,bN];rw[eQ (by have:=b.1;omega)];exact o
def a7U:qI cM cM=some true:=by
 have c1:uI [] []=some true:=by unfold uI;rw[dY,aY (r:=Out.brk ()) (by simp[P4])];rfl
 have d:CQ cM cM=some true:=by unfold CQ sY;rw[dY,dY,aY (r:=Out.brk ()) (by simp[P7,cM]),aI];unfold P8 P6;rw[aY (r:=Out.brk ()) (by simp[P5,cM])];rfl
 have c:m9 [] []=some true:=by unfold m9;rw[dY,aY (r:=Out.brk ()) (by simp[o8])];rfl
 have b:uJ [] []=some true:=by unfold uJ;rw[dY,aY (r:=Out.brk ()) (by simp[U7])];rfl
 have a:zI cM.Batch cM.Batch=some true:=by unfold zI;rw[aM ae];show(uI [] []).bind _=_;rw[c1];rfl
 unfold qI;rw[a,d,show cM.eX=[] from rfl,show cM.gN=[] from rfl,show cM.bH=[] from rfl,show cM.cK=[] from rfl,c,b];simp[cA]
def aKQ(c:TV t):KD t=some true:=by
 have o:=c.bk.1;have n:=c.yY.1;have d:=c.todo;have l:=c.ser;have i:PG t=some true:=by
  unfold PG;have key:loop (xT t) 0=some (Out.brk ()):=eY (f:=xT t) 3 (λk=>(k:Int)) _ (λk hk=>by
   have a:k<t.aR.length:=aa
   simp only[xT,nB];rw[cO,aS a];simp only[aI];rcases c.yY.2 _ (cQ a) with e|h
   .rw[e];have:=a7U;simp only[show cM.bU=false from rfl,QC,bQ,bN,bS];rw[show(qI cM ⟨false,⟨false,[]⟩,0,0,0,0,0,0,0,0,⟨0,0,0⟩,false,0,⟨0,0,0,0,0,0,0,0,0,false⟩,[],[],[],[],[],[]⟩)=some true from this];simp only[aI,jI,bQ,bN];grind[cC]
   .have g:=h.busy;simp only[g,bS,jI,bQ,bN,a7T h,aI];grind[cC]) (by simp[xT])
  rw[key];rfl
 have j:lE t false=some true:=by
  unfold lE;have key:loop (xU t) 0=some (Out.brk ()):=eY (f:=xU t) 2 (λk=>(k:Int)) _ (λk hk=>by
   have a:k<t.aT.length:=aa
   simp only[xU];rw[cO,aS a,aI,a7S (c.bk.2 _ (cQ a)),aI,dY,cY];rfl) (by simp[xU])
  rw[dY,key];exact i
 unfold KD;rw[aT6 c.base.small.fits,bY c.base,aI,dY,T8,T8,aUU (by have:=d.1;omega) (λq m b g=>by have:=((d.2 q m).2 b g).2.1;omega),bY d,aI,dY,cR,bY l,aI];exact j
def wS(p:Int):Prop:=(7<=p/\p<=14)\/p=16
structure LkJ (k:ay) (w:Int) (j:aK):Prop where
 iff:∀b,0<=b/\b<=1->(b∈j.bH↔(eG k b).eU=w+1)
 pc:j.bH≠[]->wS j.Pc
def a7V(k k':ay)(w:Int):Prop:=∀b,0<=b/\b<=1->(eG k' b).eU=(eG k b).eU\/((eG k b).eU=0/\(eG k' b).eU=w+1)\/((eG k b).eU=w+1/\(eG k' b).eU=0)
theorem tC{b:Int}{y:bZ}(d:k.length=2)(a:0<=i/\i<=1)(c:0<=b/\b<=1):eG (k.set i.toNat y) b=if b=i then y else eG k b:=by unfold eG;grind
def LkR(k:ay)(w:Int)(r:TR):Prop:=LkJ r.k w r.j/\a7V k r.k w
section
variable {k:ay} {w:Int} {j:aK} (h:LkJ k w j)
include h
theorem LkJ.same(e:j'.bH=j.bH)(a:j.bH≠[]->wS j'.Pc):LkJ k w j':=⟨λb c=>by rw[e];exact h.iff b c,λq=>a aj⟩
theorem LkJ.none(a:¬wS j.Pc):j.bH=[]:=Classical.byContradiction λq=>a (h.pc q)
end
theorem iJ(k:ay)(w:Int):a7V k k w:=λ_ _=>.inl rfl
theorem a4G(j:aK)(x:aX):(pK j x).2.bH=j.bH:=by grind[pK,uZ]
theorem a4H(j:aK)(c:iK)(v:Int)(is:Bool):(sK j c v is).bH=j.bH:=by
 unfold sK;split
 .generalize (if is then v else 0)=u;unfold aCC;have h:=a4G j ⟨c.Key,false,HB u c.dP⟩;split
  .exact h
  .exact h
 .rfl
def bH2(j:aK):(sG j).bH=j.bH:=by grind[sG,a4G,a4H]
def bCV(b:aA)(k:ay)(w:Int)(j:aK):(i6 b k w j).bH=j.bH:=by
 unfold i6;split
 .split<;>rfl
 .split
  .rfl
  .split
   .split
    .rfl
    .split<;>rfl
   .split
    .rfl
    .split
     .rfl
     .split
      .grind[a4H]
      .rfl
def bH3(b:aA)(w:Int)(j:aK):(yE b w j).2.bH=j.bH:=by
 unfold yE;split
 .rfl
 .simp only;split
  .rfl
  .split<;>rfl
def bMV(j:aK)(x:aX):(RP j x).bH=j.bH/\((RP j x).Pc=9\/(RP j x).Pc=12):=by grind[RP]
theorem bH4(j:aK):(RQ j).bH=j.bH:=by grind[RQ]
theorem a4I(j:aK):(OZ j).bH=j.bH:=by grind[OZ]
def bH5(b:aA)(w:Int)(j:aK):(HC b w j).2.bH=j.bH:=by grind[HC,a4I]
def bH6(b:aA)(w:Int)(j:aK):(HD b w j).2.bH=j.bH:=by grind[HD]
def bH7(b:aA)(w:Int)(j:aK):(pW b w j).2.bH=j.bH:=by grind[pW]
def bMW(b:aA)(y:k.length=2)(m:JB j)(h:LkJ k w j)(s:9<=j.Pc/\j.Pc<=13):LkJ (mO b k j).2.1 w (mO b k j).2.2/\a7V k (mO b k j).2.1 w:=by
 have g:wS 14:=.inl aa;have pl:∀(j':aK) (x:aX),j'.bH=j.bH->LkJ k w (RP j' x):=λj' x e=>by obtain⟨v,f⟩:=bMV j' x;exact h.same (v.trans e) λ_=>by obtain f|f:=f<;>rw[f]<;>exact .inl aa
 have a:∀{i:Int} {x:Int} {j':aK},0<=i/\i<=1->LkJ k w j'->LkJ (k.set i.toNat {eG k i with Head:=x}) w j'/\a7V k (k.set i.toNat {eG k i with Head:=x}) w:=λ{i x j'} n c=>by
  have e:∀b,0<=b/\b<=1->(eG (k.set i.toNat {eG k i with Head:=x}) b).eU=(eG k b).eU:=λb d=>by grind[tC]
  exact⟨⟨λb d=>by rw[e b d];exact c.iff b d,c.pc⟩,λb d=>.inl (e b d)⟩
 unfold mO;by_cases c1:(j.aH.length:Int)<=j.K
 .rw[aM c1];exact⟨h.same rfl λ_=>g,iJ _ _⟩
 rw[aO c1];have hk:=m.k;have n:j.K.toNat<j.aH.length:=aa
 have u:nP j=j.aH[j.K.toNat]:=by grind[nP]
 have t:=m.wr.2.1 j.aH[j.K.toNat] (cQ n);rw[<-u] at t;have l:0<=jN (nP j).Key/\jN (nP j).Key<=1:=by unfold jN;omega
 by_cases r:j.Pc=9
 .rw[aM r];refine⟨?_,iJ _ _⟩;simp only;split
  .grind
  .exact h.same rfl λ_=>.inl ae
 rw[aO r];by_cases p:j.Pc=10
 .rw[aM p];refine⟨?_,iJ _ _⟩;simp only;split
  .exact h.same rfl λ_=>.inl ae
  .split
   .grind
   .exact h.same rfl λq=>h.pc q
 rw[aO p];by_cases o:j.Pc=11
 .rw[aM o];grind[bH4,iJ]
 rw[aO o];split
 .exact⟨h.same rfl λ_=>.inr rfl,iJ _ _⟩
 .split
  .exact⟨h.same rfl λ_=>.inl ae,iJ _ _⟩
  .exact a l (h.same rfl λ_=>.inl ae)
def bMX(p:k.length=2)(r:0<=w)(o:JB j)(h:LkJ k w j)(f:j.Pc=7):LkJ (pU k w j).1 w (pU k w j).2.1/\a7V k (pU k w j).1 w:=by
 have m:wS 8:=.inl aa;unfold pU;by_cases c1:j.K<(rO j.aH).length
 .rw[aM c1];have hk:=o.k;have t:j.K.toNat<(rO j.aH).length:=aa
  have u:gK j=(rO j.aH)[j.K.toNat]:=by grind[gK]
  have c:0<=gK j/\gK j<=1:=by grind[YS,cQ]
  by_cases i:(eG k (gK j)).eU≠0\/(j.Reads.any λs=>s.bZ == gK j && s.eW != (eG k (gK j)).eW)=true
  .rw[aM i];exact⟨h.same rfl λ_=>.inr rfl,iJ _ _⟩
  rw[aO i];have c0:(eG k (gK j)).eU=0:=Classical.byContradiction λq=>i (.inl q);split
  .exact⟨h.same rfl λ_=>.inr rfl,iJ _ _⟩
  have l:gK j∉j.bH:=λq=>by have:=(h.iff _ c).1 q;omega
  have d:a7V k (k.set (gK j).toNat {eG k (gK j) with eU:=w+1}) w:=λb g=>by grind[tC]
  have a:∀j':aK,j'.bH=j.bH++[gK j]->wS j'.Pc->LkJ (k.set (gK j).toNat {eG k (gK j) with eU:=w+1}) w j':=λj' e n=>⟨λb g=>by
   rw[e,dR,jQ,tC p c g];split
   .grind
   .rename_i q;rw[h.iff b g];omega,λ_=>n⟩
  have hh:(MR j).bH=j.bH++[gK j]:=by simp_all[MR]
  split
  .grind
  .refine⟨a _ hh ?_,d⟩;show wS j.Pc;rw[f];exact .inl aa
 .rw[aO c1];exact⟨h.same rfl λ_=>m,iJ _ _⟩
def bMY(s:k.length=2)(u:0<=w)(l:JB j)(h:LkJ k w j)(d:j.Pc=14\/j.Pc=16):LkJ (DX k j).1 w (DX k j).2/\a7V k (DX k j).1 w:=by
 have o:wS j.Pc:=by obtain e|e:=d<;>rw[e];exact .inl aa;exact .inr rfl
 unfold DX;by_cases c1:0<j.bH.length
 .rw[aM c1];have t:zO j=j.bH[0]:=by grind[zO]
  have g:zO j∈j.bH:=aj
  have c:=l.held.1 _ g;have hl:=(h.iff _ c).1 g;obtain⟨y,n,m⟩:∃y:bZ,(if j.Pc=14 then(⟨(eG k (zO j)).Head,if 1000000<(eG k (zO j)).eW+1 then 1000000 else(eG k (zO j)).eW+1,0⟩:bZ) else {eG k (zO j) with eU:=0})=y/\y.eU=0:=aj
  simp only;rw[n];have r:j.bH=zO j::j.bH.drop 1:=by rw[t];exact(vA (i:=0) c1)
  have p:=l.held.2;rw[r,aF9] at p;refine⟨⟨λb f=>?_,λ_=>o⟩,λb f=>?_⟩
  .show b∈j.bH.drop 1↔_;rw[tC s c f];split
   .grind
   .rename_i e;have:=h.iff b f;grind
  grind[tC]
 .rw[aO c1];have a:j.bH=[]:=vB aa;split
  .exact⟨h.same rfl λq=>absurd a q,iJ _ _⟩
  .exact⟨h.same (a4I {j with Pc:=15,K:=0}) λq=>absurd a q,iJ _ _⟩
def bRJ{b:aA}(c:k.length=2)(d:0<=w/\w<=2)(a:JB j)(h:LkJ k w j):LkR k w (fU b k w j):=by
 have i:∀{p:Int},¬wS p->j.Pc=p->j.bH=[]:=λf e=>h.none aj;have no:∀{j':aK},j'.bH=j.bH->j.bH=[]->LkJ k w j':=λe l=>h.same e λq=>absurd l q;have g:∀{p:Int},j.Pc=p->¬wS p->j.bH=[]:=λe f=>i f e;unfold fU;refine dX (P:=LkR k w) (λp=>⟨no (bH7 b w j) (h.none (by grind[wS])),iJ _ _⟩) λ_=>dX (P:=LkR k w) (λp=>⟨no (bH2 j) (h.none (by grind[wS])),iJ _ _⟩) λ_=>
  dX (P:=LkR k w) (λp=>⟨no (bCV b k w j) (h.none (by grind[wS])),iJ _ _⟩) λ_=>dX (P:=LkR k w) (λp=>⟨no (bH3 b w j) (h.none (by grind[wS])),iJ _ _⟩) λ_=>
  dX (P:=LkR k w) (λp=>bMX c d.1 a h p) λ_=>dX (P:=LkR k w) (λp=>⟨?_,iJ _ _⟩) λ_=>
  dX (P:=LkR k w) (λp=>bMW b c a h p) λ_=>dX (P:=LkR k w) (λp=>bMY c d.1 a h p) λ_=>
  dX (P:=LkR k w) (λp=>⟨no (bH5 b w j) (h.none (by grind[wS])),iJ _ _⟩) λ_=>dX (P:=LkR k w) (λp=>⟨no (bH6 b w j) (h.none (by grind[wS])),iJ _ _⟩) λ_=>
  dX (P:=LkR k w) (λp=>⟨no rfl (h.none (by grind[wS])),iJ _ _⟩) λ_=>dX (P:=LkR k w) (λp=>⟨no (j':=cM) (h.none (by grind[wS])).symm (h.none (by grind[wS])),iJ _ _⟩) λ_=>⟨h.same rfl λ_=>.inr rfl,iJ _ _⟩
 show LkJ k w (OY k w j);unfold OY;split
 .exact h.same rfl λ_=>.inl ae
 .split
  .exact h.same rfl λ_=>.inr rfl
  .exact h.same rfl λq=>h.pc q
def aUZ(t:Table):Prop:=∀w,0<=w/\w<=2->LkJ t.aT w (aE t w)
def aU0{l:bp}{v:Int}{x:aK}(c:t.aR.length=3)(hl:l=t.aR.set w.toNat x)(a:0<=w/\w<=2)(b:0<=v/\v<=2):l.getD v.toNat cM=if v=w then x else aE t v:=by subst hl;unfold aE;grind
def aUZ.step(j:TV t)(f:0<=w/\w<=2)(h:aUZ t):aUZ (bM t w):=by
 have l:=j.yY.1;have d:=j.yY.2 _ (C9 l f);unfold bM;split
 .rename_i a;have k:JB (aE t w):=d.resolve_left λe=>by rw[e] at a;cases a
  obtain⟨r,p⟩:=bRJ (b:=t.aA) j.bk.1 f k (h w f);intro v c;have m:aE (BV t w (fU t.aA t.aT w (aE t w))) v=if v=w then(fU t.aA t.aT w (aE t w)).j else aE t v:=aU0 l rfl f c;rw[m];show LkJ (fU t.aA t.aT w (aE t w)).k v _;split
  .rename_i e;rw[e];exact r
  .rename_i e;refine⟨λb o=>?_,(h v c).pc⟩;rw[(h v c).iff b o];obtain q|⟨i,g⟩|⟨i,g⟩:=p b o
   .rw[q]
   .rw[i,g];omega
   .rw[i,g];omega
 .rename_i a;split
  .exact h
  .intro v c;generalize (uU t w).getD 0 ⟨false,[]⟩=b;have m:aE (uV t w b) v=if v=w then jZ b (t.aG+1) else aE t v:=aU0 l rfl f c;rw[m];show LkJ t.aT v _;split
   .rename_i e;subst e;have n:(aE t v).bH=[]:=by
     obtain e|k:=d
     .rw[e];rfl
     .exact absurd k.busy a
    exact(h v c).same n.symm λq=>absurd n q
   .exact h v c
def aUZ.zero(l:ax):aUZ (dA l):=λw c=>by
 have e:aE (dA l) w=cM:=by
  have:w=0\/w=1\/w=2:=aa
  obtain rfl|rfl|rfl:=this<;>rfl
 rw[e];refine⟨λb d=>?_,λq=>absurd rfl q⟩;have a:(eG (dA l).aT b).eU=0:=by
  have:b=0\/b=1:=aa
  obtain rfl|rfl:=this<;>rfl
 rw[a];exact⟨λq=>(by cases q),λq=>aa⟩
def aU1(l:a7):Prop:=∀A e B,l=A++e::B->e.Kind=2->(∃c∈A,c.Kind=1/\c.aG=e.aG)/\∀x∈A,x.Kind=3->x.aG≠e.aG
def aU1.nil:aU1 []:=λA e B h=>by simp_all
def a7W{l A B:List O}{x e:O}(h:l++[x]=A++e::B):(l=A/\x=e/\B=[])\/∃B',B=B'++[x]/\l=A++e::B':=by
 obtain rfl|⟨B',y,a⟩:=aCH B
 .have:=List.append_inj' h rfl;simp at this;exact .inl ⟨this.1,this.2,rfl⟩
 .rw[aMW] at a;subst a;rw[<-H6,<-qM] at h;have:=List.append_inj' h rfl;simp at this;exact .inr ⟨B',by rw[this.2],this.1⟩
def aU1.app{l:a7}(h:aU1 l){x:iO}(a:x.Kind=2->(∃c∈l,c.Kind=1/\c.aG=x.aG)/\∀y∈l,y.Kind=3->y.aG≠x.aG):aU1 (l++[x]):=λA e B b hk=>by
 obtain⟨rfl,rfl,_⟩|⟨f,_,d⟩:=a7W b
 .exact a hk
 .exact h A e f d hk
structure JL (l:a7) (s:Int):Prop where
 call:∃c∈l,c.Kind=1/\c.aG=s
 tell:∀x∈l,x.Kind=3->x.aG≠s
structure a4J (t:Table):Prop where
 le:∀e∈t.Log,e.aG<=t.aG
 jle:∀w,0<=w/\w<=2->(aE t w).bU=true->(aE t w).aG<=t.aG
 job:∀w,0<=w/\w<=2->(aE t w).bU=true->JL t.Log (aE t w).aG
 ne:∀v w,0<=v/\v<=2->0<=w/\w<=2->v≠w->(aE t v).bU=true->(aE t w).bU=true->(aE t v).aG≠(aE t w).aG
 pt:aU1 t.Log
theorem bAI(j:aK)(x:aX):(pK j x).2.aG=j.aG/\(pK j x).2.bU=j.bU:=by grind[pK,uZ]
theorem bAJ(j:aK)(c:iK)(v:Int)(is:Bool):(sK j c v is).aG=j.aG/\(sK j c v is).bU=j.bU:=by
 unfold sK;split
 .generalize (if is then v else 0)=u;unfold aCC;have h:=bAI j ⟨c.Key,false,HB u c.dP⟩;split
  .exact h
  .exact h
 .exact⟨rfl,rfl⟩
def aQR(j:aK):(sG j).aG=j.aG/\(sG j).bU=j.bU:=by grind[sG,bAI,bAJ]
def aKR(b:aA)(k:ay)(w:Int)(j:aK):(i6 b k w j).aG=j.aG/\(i6 b k w j).bU=j.bU:=by
 unfold i6;split
 .split<;>exact⟨rfl,rfl⟩
 .split
  .simp
  .split
   .split
    .exact⟨rfl,rfl⟩
    .split<;>exact⟨rfl,rfl⟩
   .split
    .exact⟨rfl,rfl⟩
    .split
     .exact⟨rfl,rfl⟩
     .split
      .grind[bAJ]
      .exact⟨rfl,rfl⟩
def aQS(b:aA)(w:Int)(j:aK):(yE b w j).2.aG=j.aG/\(yE b w j).2.bU=j.bU:=by
 unfold yE;split
 .simp
 .simp only;split
  .simp
  .split<;>exact⟨rfl,rfl⟩
def aQT(k:ay)(w:Int)(j:aK):(pU k w j).2.1.aG=j.aG/\(pU k w j).2.1.bU=j.bU:=by
 unfold pU;split
 .split
  .exact⟨rfl,rfl⟩
  .split
   .exact⟨rfl,rfl⟩
   .split<;>exact⟨rfl,rfl⟩
 simp
def aQU(k:ay)(w:Int)(j:aK):(OY k w j).aG=j.aG/\(OY k w j).bU=j.bU:=by
 unfold OY;split
 .simp
 .split<;>exact⟨rfl,rfl⟩
theorem a7X(j:aK)(x:aX):(RP j x).aG=j.aG/\(RP j x).bU=j.bU:=by grind[RP]
theorem bMZ(j:aK):(RQ j).aG=j.aG/\(RQ j).bU=j.bU:=by grind[RQ]
def aQV(b:aA)(k:ay)(j:aK):(mO b k j).2.2.aG=j.aG/\(mO b k j).2.2.bU=j.bU:=by
 unfold mO;split
 .simp
 .split
  .grind[a7X]
  .split
   .grind[a7X]
   .split
    .grind[a7X,bMZ]
    .split
     .exact⟨rfl,rfl⟩
     grind
theorem bAK(j:aK):(OZ j).aG=j.aG/\(OZ j).bU=j.bU:=by grind[OZ]
def aQW(k:ay)(j:aK):(DX k j).2.aG=j.aG/\(DX k j).2.bU=j.bU:=by grind[DX,bAK]
def aQX(b:aA)(w:Int)(j:aK):(HC b w j).2.aG=j.aG/\(HC b w j).2.bU=j.bU:=by grind[HC,bAK]
def aQY(b:aA)(w:Int)(j:aK):(HD b w j).2.aG=j.aG/\(HD b w j).2.bU=j.bU:=by grind[HD]
def aQZ(b:aA)(w:Int)(j:aK):(pW b w j).2.aG=j.aG/\(pW b w j).2.bU=j.bU:=by grind[pW]
def YX(w:Int)(j:aK)(r:TR):Prop:=(r.j.aG=j.aG/\r.j.bU=j.bU/\(r.l=[]\/r.l=[⟨2,w,j.aG,0,[],[]⟩]))\/(r.j=cM/\r.l=[tlE w j])
def a4K(b:aA)(k:ay)(w:Int)(j:aK):YX w j (fU b k w j):=by
 unfold fU;refine dX (P:=YX w j) (λ_=>.inl ⟨(aQZ b w j).1,(aQZ b w j).2,.inl rfl⟩) λ_=>dX (P:=YX w j) (λ_=>.inl ⟨(aQR j).1,(aQR j).2,.inl rfl⟩) λ_=>
  dX (P:=YX w j) (λ_=>.inl ⟨(aKR b k w j).1,(aKR b k w j).2,.inl rfl⟩) λ_=>dX (P:=YX w j) (λ_=>.inl ⟨(aQS b w j).1,(aQS b w j).2,.inl rfl⟩) λ_=>
  dX (P:=YX w j) (λ_=>.inl ⟨(aQT k w j).1,(aQT k w j).2,?_⟩) λ_=>dX (P:=YX w j) (λ_=>.inl ⟨(aQU k w j).1,(aQU k w j).2,.inl rfl⟩) λ_=>
  dX (P:=YX w j) (λ_=>.inl ⟨(aQV b k j).1,(aQV b k j).2,.inl rfl⟩) λ_=>dX (P:=YX w j) (λ_=>.inl ⟨(aQW k j).1,(aQW k j).2,.inl rfl⟩) λ_=>
  dX (P:=YX w j) (λ_=>.inl ⟨(aQX b w j).1,(aQX b w j).2,.inl rfl⟩) λ_=>dX (P:=YX w j) (λ_=>.inl ⟨(aQY b w j).1,(aQY b w j).2,.inl rfl⟩) λ_=>
  dX (P:=YX w j) (λ_=>.inl ⟨rfl,rfl,.inl rfl⟩) λ_=>dX (P:=YX w j) (λ_=>.inr ⟨rfl,rfl⟩) λ_=>.inl ⟨rfl,rfl,.inl rfl⟩
 simp
def a1O{l:bp}{v:Int}{x:aK}(c:t.aR.length=3)(hl:l=t.aR.set w.toNat x)(a:0<=w/\w<=2)(b:0<=v/\v<=2):l.getD v.toNat cM=if v=w then x else aE t v:=by subst hl;unfold aE;grind
def a4J.step(L:TV t)(z:0<=w/\w<=2)(h:a4J t):a4J (bM t w):=by
 have M:=L.yY.1;unfold bM;split
 .rename_i C;have K:=h.job w z C;have J:=h.jle w z C;rcases a4K t.aA t.aT w (aE t w) with ⟨s1,s2,hl⟩|⟨s1,hl⟩
  ·
   have d:∀v,0<=v/\v<=2->(aE (BV t w (fU t.aA t.aT w (aE t w))) v).aG=(aE t v).aG/\(aE (BV t w (fU t.aA t.aT w (aE t w))) v).bU=(aE t v).bU:=λv a=>by grind[aE,BV]
   have y:∀x∈(fU t.aA t.aT w (aE t w)).l,x.Kind=2/\x.aG=(aE t w).aG:=λx i=>aj
   have r:∀s,JL t.Log s->JL (t.Log++(fU t.aA t.aT w (aE t w)).l) s:=λs ⟨⟨c,hc,A⟩,H⟩=>⟨⟨c,XD _ hc,A⟩,λx i hk=>by
    grind⟩
   refine⟨λe k=>?_,λv a f=>?_,λv a f=>?_,λv u a o l j g=>?_,?_⟩
   .obtain k|k:=dR.1 k
    .exact h.le e k
    .rw[(y e k).2];exact J
   .rw[(d v a).1];exact h.jle v a aj
   .rw[(d v a).1];exact r _ (h.job v a aj)
   .rw[(d v a).1,(d u o).1];exact h.ne v u a o l aj aj
   .show aU1 (t.Log++_);obtain hl|hl:=hl
    .rw[hl,wW];exact h.pt
    .rw[hl];exact h.pt.app λ_=>⟨K.call,K.tell⟩
  ·
   have d:∀v,0<=v/\v<=2->v≠w->aE (BV t w (fU t.aA t.aT w (aE t w))) v=aE t v:=λv a l=>by unfold aE BV;grind
   have E:(aE (BV t w (fU t.aA t.aT w (aE t w))) w).bU=false:=by have e:aE (BV t w (fU t.aA t.aT w (aE t w))) w=(fU t.aA t.aT w (aE t w)).j:=(a1O M rfl z z).trans (aM rfl);rw[e,s1];rfl
   have m:∀v,(aE (BV t w (fU t.aA t.aT w (aE t w))) v).bU=true->v≠w:=λv f e=>aj
   refine⟨λe k=>?_,λv a f=>?_,λv a f=>?_,λv u a o l j g=>?_,?_⟩
   .obtain k|k:=dR.1 k
    .exact h.le e k
    .rw[hl,jQ] at k;rw[k];exact J
   .have B:=m v f;rw[d v a B] at f ⊢;exact h.jle v a f
   .have B:=m v f;rw[d v a B] at f ⊢;obtain⟨⟨c,hc,A⟩,H⟩:=h.job v a f;refine⟨⟨c,XD _ hc,A⟩,λx i hk=>?_⟩;obtain i|i:=dR.1 i
    .grind
    .rw[hl,jQ] at i;rw[i];exact h.ne w v z a (λe=>B e.symm) C f
   .have G:=m v j;have F:=m u g;rw[d v a G] at j ⊢;rw[d u o F] at g ⊢;exact h.ne v u a o l j g
   .show aU1 (t.Log++_);rw[hl];exact h.pt.app λq=>by simp[tlE] at q
 .split
  .exact h
  .rename_i C N;have n:∀e∈t.Log,e.aG≠t.aG+1:=λe k q=>by have:=h.le e k;omega
   generalize (uU t w).getD 0 ⟨false,[]⟩=b;have d:∀v,0<=v/\v<=2->aE (uV t w b) v=if v=w then jZ b (t.aG+1) else aE t v:=λv a=>by grind[aE,uV]
   have p:(uV t w b).aG=t.aG+1:=rfl;refine⟨λe k=>?_,λv a f=>?_,λv a f=>?_,λv u a o l j g=>?_,?_⟩
   .rw[p];obtain k|k:=dR.1 k
    .have:=h.le e k;omega
    grind
   .rw[d v a] at f ⊢;rw[p];split
    .exact O1 _
    .rename_i e;rw[aO e] at f;have:=h.jle v a f;omega
   .rw[d v a] at f ⊢;split
    .refine⟨⟨_,aIK _ (jQ.2 rfl),rfl,rfl⟩,λx i hk=>?_⟩;obtain i|i:=dR.1 i
     .exact n x i
     .rw[jQ] at i;rw[i] at hk;cases hk
    .rename_i e;rw[aO e] at f;obtain⟨⟨c,hc,A⟩,H⟩:=h.job v a f;refine⟨⟨c,XD _ hc,A⟩,λx i hk=>?_⟩;obtain i|i:=dR.1 i
     .exact H x i hk
     .rw[jQ] at i;rw[i] at hk;cases hk
   .rw[d v a] at j ⊢;rw[d u o] at g ⊢;by_cases I:v=w
    .rw[aM I];have D:u≠w:=λe=>l (I.trans e.symm);rw[aO D] at g ⊢;have:=h.jle u o g;show t.aG+1≠_;omega
    .rw[aO I] at j ⊢;by_cases D:u=w
     .rw[aM D];have:=h.jle v a j;show _≠t.aG+1;omega
     .rw[aO D] at g ⊢;exact h.ne v u a o l j g
   .exact h.pt.app λq=>by cases q
def a4J.zero(l:ax):a4J (dA l):=by
 have c:∀w,0<=w/\w<=2->(aE (dA l) w).bU=false:=λw a=>by
  have:w=0\/w=1\/w=2:=aa
  obtain rfl|rfl|rfl:=this<;>rfl
 exact⟨λe d=>(by grind[dA]),λw a h=>aj,λw a h=>aj,λv w b _ _ h=>aj,aU1.nil⟩
def aMN:∀(l:an) (t:Table),(E7 t l).Log.length<=t.Log.length+l.length
 |[],t=>jE _
 |p::l,t=>by have a:=aMN l (VT t p);grind[aFA,E7]
def isE(a s:Int)(e:iO):Bool:=e.Kind == a && e.aG == s
def oA(l:a7)(a s:Int):Int:=if l.findIdx (isE a s)<l.length then(l.findIdx (isE a s):Int) else -1
def a4L{l:a7}{p:iO->Bool}{f:Int->Option (Step Int (Out Unit Int))}{m:(Out Unit Int)->bu}(hl:l.length<=1000000)
  (g:∀k:Nat,f (k:Int)=if h:k<l.length then(if p l[k] then some (.stop (Out.ret (k:Int))) else some (.next ((k+1:Nat):Int))) else some (.stop (Out.brk ()))) (c:∀r,m (.ret r)=some r) (b:m (.brk ())=some (-1)) :
  (loop f 0).bind m=some (if l.findIdx p<l.length then(l.findIdx p:Int) else -1):=by
 rcases TC (f:=f) (p:=p) aa g l.length 0 aa with ⟨j,h,_,a,o,n⟩|⟨s,a⟩
 .have e:l.findIdx p=j:=by rw[List.findIdx_eq h];exact⟨o,λi d=>a i aa (iT _) d⟩
  rw[show(0:Int)=((0:Nat):Int) from rfl,n,aI,c,e,aM h]
 .have e:¬l.findIdx p<l.length:=λq=>by have:=aQ9 (w:=q);rw[s _ q (iT _)] at this;cases this
  rw[show(0:Int)=((0:Nat):Int) from rfl,a,aI,b,aO e]
theorem RR{l:a7}(hl:l.length<=1000000)(a s:Int):rH l a s=some (oA l a s):=by
 unfold rH oA;refine a4L hl (λk=>?_) (λ_=>rfl) rfl;simp only[aBG,FW];by_cases h:k<l.length
 .rw[dif_pos h,cO,aS h];grind[cC,isE]
 grind
theorem RS{l:a7}(hl:l.length<=1000000)(a s:Int):rL l a s=some (oA l a s):=by
 unfold rL oA A7;rw[a4L (l:=l) (p:=isE a s) hl (λk=>?_) (λ_=>rfl) rfl]
 .rfl
 .simp only[HV,SS,zJ];by_cases h:k<l.length
  .rw[dif_pos h,cO,aS h];grind[cC,isE]
  grind
def a4M(l:a7)(a b:Int):Bool:=decide (0<=oA l 3 a) && (decide (0<=oA l 1 b) && decide (oA l 3 a<oA l 1 b))
def aY5{l:a7}(hl:l.length<=1000000)(a b:Int):U1 l a b=some (a4M l a b)/\VC l a b=some (a4M l a b):=by unfold U1 VC a4M;grind[RR,RS,AR,BA,decide]
def aU2(l:a7)(s:Int):Bool:=decide (0<=oA l 3 s) && ((l.getD (oA l 3 s).toNat ⟨0,0,0,0,[],[]⟩).Code == 0)
def sL(l:a7)(a:an)(e:iO):an:=if e.Kind=2/\e.aG∉a/\aU2 l e.aG=true then a++[e.aG] else a
def mC(l:a7):an:=l.foldl (sL l) []
theorem bH8(l:a7)(a:an)(e:iO):(sL l a e).length<=a.length+1:=by grind[sL]
theorem aEM(l:a7):∀(es:a7) (out:an),(es.foldl (sL l) out).length<=out.length+es.length
 |[],out=>jE _
 |e::es,out=>by have a:=aEM l es (sL l out e);grind[bH8]
theorem aU3{l:a7}{k:Int}(h:0<=oA l k s):(oA l k s).toNat<l.length:=by unfold oA at h ⊢;omega
def aFC{l:a7}{k:Int}(h:0<=oA l k s):idx l (oA l k s)=some (l.getD (oA l k s).toNat ⟨0,0,0,0,[],[]⟩):=by grind[aU3,iD]
def aKS{l:a7}(hl:l.length<=1000000):SN l=some (mC l)/\SU l=some (mC l):=by
 have b:∀k,((l.take k).foldl (sL l) []).length<=1000000:=λk=>by grind[aEM]
 have i:∀k (h:k<l.length),(l.take (k+1)).foldl (sL l) []=sL l ((l.take k).foldl (sL l) []) l[k]:=λk h=>by grind[N5]
 unfold mC;constructor
 .have d:∀k,k<l.length->EF l ((l.take k).foldl (sL l) [],(k:Int))=some (.next ((l.take (k+1)).foldl (sL l) [],((k+1:Nat):Int))):=λk hk=>by
   have g:=b k;rw[i k hk];generalize (l.take k).foldl (sL l) []=out at g ⊢;unfold sL;simp only[EF,NL,NJ,EE];rw[cO,aS hk];simp only[aI];by_cases a:l[k].Kind=2
   .have e:(l[k].Kind != 2)=false:=aj
    simp only[e,bQ,bN];rw[yU (by grind[maxLen]),aI];by_cases hm:l[k].aG∈out
    .rw[bY hm,aM rfl,cY,aO (λq=>q.2.1 hm)];rfl
    .rw[eQ hm,dY,RR hl,aI];by_cases c:0<=oA l 3 l[k].aG
     .rw[bY c,aM rfl,aFC c,aI];by_cases hc:((l.getD (oA l 3 l[k].aG).toNat ⟨0,0,0,0,[],[]⟩).Code == 0)=true
      .rw[aM hc,LW,cY,aM ⟨a,hm,by grind[aU2]⟩];rfl
      .have j:=aa
       rw[aO hc,cY,aO (λq=>by simp_all[aU2])];rfl
     .rw[eQ c];simp only[bQ,bN];rw[cY,aO (show ¬(l[k].Kind=2/\l[k].aG∉out/\aU2 l l[k].aG=true) from λq=>by grind[aU2])];rfl
   .have e:(l[k].Kind != 2)=true:=aj
    simp only[e,bS];rw[cY,aO (λq=>a q.1)];rfl
  have f:EF l ((l.take l.length).foldl (sL l) [],(l.length:Int))=some (.stop (l.foldl (sL l) [])):=by simp[EF]
  unfold SN;rw[show(([]:an),(0:Int))=((l.take 0).foldl (sL l) [],((0:Nat):Int)) from rfl,eY l.length (λk=>((l.take k).foldl (sL l) [],(k:Int))) (l.foldl (sL l) []) d f];rfl
 .have d:∀k,k<l.length->ES l ((l.take k).foldl (sL l) [],(k:Int))=some (.next ((l.take (k+1)).foldl (sL l) [],((k+1:Nat):Int))):=λk hk=>by
   have g:=b k;rw[i k hk];generalize (l.take k).foldl (sL l) []=out at g ⊢;unfold sL;simp only[ES,NX,NW,ER];rw[cO,aS hk];simp only[aI];by_cases a:l[k].Kind=2
   .have e:(l[k].Kind != 2)=false:=aj
    simp only[e,bQ,bN];rw[contains_eq (by grind[maxLen]),aI];by_cases hm:l[k].aG∈out
    .rw[bY hm,aM rfl,cY,aO (λq=>q.2.1 hm)];rfl
    .rw[eQ hm,dY,RS hl,aI];by_cases c:0<=oA l 3 l[k].aG
     .rw[bY c,aM rfl,aFC c,aI];by_cases hc:((l.getD (oA l 3 l[k].aG).toNat ⟨0,0,0,0,[],[]⟩).Code == 0)=true
      .rw[aM hc,LW,cY,aM ⟨a,hm,by grind[aU2]⟩];rfl
      .rw[aO hc,cY,aO (λq=>by simp_all[aU2])];rfl
     .rw[eQ c];simp only[bQ,bN];rw[cY,aO (show ¬(l[k].Kind=2/\l[k].aG∉out/\aU2 l l[k].aG=true) from λq=>by grind[aU2])];rfl
   .have e:(l[k].Kind != 2)=true:=aj
    simp only[e,bS];rw[cY,aO (λq=>a q.1)];rfl
  have f:ES l ((l.take l.length).foldl (sL l) [],(l.length:Int))=some (.stop (l.foldl (sL l) [])):=by simp[ES]
  unfold SU;rw[show(([]:an),(0:Int))=((l.take 0).foldl (sL l) [],((0:Nat):Int)) from rfl,eY l.length (λk=>((l.take k).foldl (sL l) [],(k:Int))) (l.foldl (sL l) []) d f];rfl
def a4N(A:a7)(s:Int):Prop:=∃e∈A,e.Kind=2/\e.aG=s
def a4O(A:a7)(a b:Int):Prop:=∃c e d,A=c++e::d/\e.Kind=2/\e.aG=b/\a4N c a
def aU4(l:a7):∀(n:Nat) (A:a7),A.length=n->(A.foldl (sL l) []).Nodup/\(∀s∈A.foldl (sL l) [],a4N A s)/\(A.foldl (sL l) []).Pairwise (a4O A)
 |0,A,h=>by obtain rfl:A=[]:=vB h;exact⟨List.nodup_nil,λs d=>(by cases d),List.Pairwise.nil⟩
 |n + 1,A,h=>by
  obtain⟨A,e,rfl⟩:∃v e,A=v++[e]:=by
   obtain j|⟨L,z,j⟩:=aCH A
   .rw[j] at h;cases h
   .exact⟨L,z,by rw[j,aMW]⟩
  obtain⟨k,i,i3⟩:=aU4 l n A aj;have g:∀s,a4N A s->a4N (A++[e]) s:=λs ⟨x,o,a⟩=>⟨x,XD _ o,a⟩;have f:∀a b,a4O A a b->a4O (A++[e]) a b:=λa b ⟨u,x,t,w,r⟩=>⟨u,x,t++[e],aj,r⟩;rw[List.foldl_append];show(sL l (A.foldl (sL l) []) e).Nodup/\(∀s∈sL l (A.foldl (sL l) []) e,a4N (A++[e]) s)/\(sL l (A.foldl (sL l) []) e).Pairwise (a4O (A++[e]));unfold sL;split
  .rename_i q;refine⟨?_,λs d=>?_,?_⟩
   .rw[aIL];exact⟨k,ae,λa m c hc e=>aj⟩
   .obtain d|d:=dR.1 d
    .exact g s (i s d)
    .rw[jQ.1 d];exact⟨e,ae,q.1,rfl⟩
   .rw[List.pairwise_append];refine⟨i3.imp λ{a b} h=>f a b h,List.pairwise_singleton _ _,λa m b p=>?_⟩;rw[jQ.1 p];exact⟨A,e,[],rfl,q.1,rfl,i a m⟩
  .exact⟨k,λs d=>g s (i s d),i3.imp λ{a b} h=>f a b h⟩
def bT7{p:iO->Bool}:∀{A R:a7},(∀x∈A,p x=false)->A.length<=(A++R).findIdx p
 |[],R,_=>iT _
 |y::A,R,h=>aj
def a4P{l:a7}(h:aU1 l){a b:Int}(j:a4O l a b):a4M l b a=false:=by
 obtain⟨s,e,d,rfl,i,rfl,c,f,k',rfl⟩:=j;obtain⟨C,D,rfl⟩:=List.append_of_mem f;have p:=(h C c (D++e::d) ae k').1;have o:=(h (C++c::D) e d rfl i).2;have r:((C++c::D)++e::d).findIdx (isE 1 c.aG)<C.length:=by grind[isE]
 have q:(C++c::D).length<=((C++c::D)++e::d).findIdx (isE 3 e.aG):=bT7 λx n=>by grind[isE]
 unfold a4M;cases k:decide (0<=oA ((C++c::D)++e::d) 3 e.aG)
 .rfl
 .have m:=of_decide_eq_true k;have g:¬oA ((C++c::D)++e::d) 3 e.aG<oA ((C++c::D)++e::d) 1 c.aG:=by unfold oA at m ⊢;grind
  grind
def aXW(hl:l.length<=1000000)(f:Int->Bool):dQ l (λy=>some (f y))=some (l.any f):=by
 unfold dQ;rcases a60 (s:=l) (p:=f) aa with ⟨j,h,b,e,a⟩|⟨b,a⟩
 .rw[a,aI,bY aa];congr 1;exact(List.any_eq_true.2 ⟨l[j],cQ h,e⟩).symm
 .rw[a,aI,eQ aa];congr 1;refine(aIH.2 λx c=>?_).symm;obtain⟨i,d,rfl⟩:=XB c;simp[b i d]
section
variable {b:aA} (hb:lR b)
include hb
theorem lR.fits:b.Mem.Heap.Bytes.length<=maxLen/\(eN b.Mem.aC).length<=1073741824/\b.aD.cV.length<=maxLen/\b.aQ.length<=maxLen/\(cE b.aQ).length<=1073741824/\b.pJ.length<=maxLen:=by obtain⟨i,h,g,f,_⟩:=lN.facts hb.1.1;have a:=hb.1.2.1.2.1;have c:=hb.1.2.2.1.1;have d:=hb.1.2.2.1.2.1;have e:=hb.1.2.2.2.1;grind[maxLen]
end
def bM0(p:Nat->Bool)(n:Nat):Nat:=((List.range n).filter p).length
def BW:∀{l m:an},l.Nodup->(∀x∈l,x∈m)->l.length<=m.length
 |[],_,_,_=>iT _
 |a::t,m,b,h=>by rw[aF9] at b;have f:a∈m:=h a (aF7 ..);have d:=BW (l:=t) (m:=m.erase a) b.2 (λx c=>(List.mem_erase_of_ne (λe:x=a=>b.1 aj)).2 (h x (lZ _ c)));grind
def bCW{p:Nat->Bool}(hn:l.Nodup)(d:∀x∈l,0<=x/\x<(n:Int))(f:∀i:Nat,i<n->(p i=true↔(i:Int)∈l)):bM0 p n=l.length:=by
 have e:bM0 p n=(((List.range n).filter p).map (λi:Nat=>(i:Int))).length:=by simp[bM0]
 have nd:(((List.range n).filter p).map (λi:Nat=>(i:Int))).Nodup:=by rw[List.nodup_iff_pairwise_ne];refine List.Pairwise.map (R:=λa b:Nat=>a≠b) _ (λa b h=>aa) ?_;grind[List.nodup_range]
 have a:=BW (m:=l) nd (λx c=>by
  grind)
 have b:=BW (l:=l) (m:=((List.range n).filter p).map (λi:Nat=>(i:Int))) hn (λx c=>by
  have:=d x c;refine H9.2 ⟨x.toNat,aX0.2 ⟨List.mem_range.2 aa,(f _ aa).2 aj⟩,aa⟩)
 omega
def aIE(k:lN m){h:Int}(B:0<=w/\w<=2)(j:m5 m h):(∀t,bO (rR m w h).Heap t=bO m.Heap t)/\(∀t,0<=bO m.Heap t->kL (rR m w h).Heap t=if t=h % 32 then h/32+1 else kL m.Heap t) /\
  (∀t,t≠h % 32->(t∈eN (rR m w h).aC↔t∈eN m.aC))/\eZ (rR m w h) (h % 32)≠3:=by
 obtain⟨f,D,C,F,E,n,u,r,p,o⟩:=lN.facts k;have c:=eC j.2.1;have v:0<=bO m.Heap (h % 32)/\bO m.Heap (h % 32)<=2:=by obtain⟨_,q,e⟩:=sZ c;rw[e];exact kK.1 aa
 have s:1<=h/32/\h/32<=6:=by have:=j.1;unfold lJ at this;omega
 obtain⟨_,l⟩:=HOk.bHH k.1.1 c (g:=h/32+1) aa;have hh:(rR m w h).Heap=⟨st4 m.Heap.Bytes (jG (h % 32) (bO m.Heap (h % 32))).toNat (h/32+1),m.Heap.Class⟩:=by unfold rR;simp only[apply_ite Mem.Heap,ite_self]
 have i:(w*3+bO m.Heap (h % 32)).toNat<m.aC.Own.length:=aa
 have ky:(bO m.Heap (h % 32)).toNat<m.aC.Global.length:=aa
 have hl:∀t,t∈eN (rR m w h).aC↔t∈eN m.aC\/(h/32+1<=6/\t=h % 32):=λt=>by
  unfold rR eN;by_cases q:h/32+1<=6
  .rw[aM q];split
   .rw[<-eB i];simp only[dR,K8 i,jQ,q,true_and];constructor
    .rintro(a|a|a)
     .exact .inl (.inl a)
     .exact .inl (.inr a)
     .exact .inr a
    .rintro((a|a)|a)
     .exact .inl a
     .exact .inr (.inl a)
     .exact .inr (.inr a)
   .rw[<-eB ky];simp only[dR,K8 ky,jQ,q,true_and];constructor
    .rintro((a|a)|a)
     .exact .inl (.inl a)
     .exact .inr a
     .exact .inl (.inr a)
    .rintro((a|a)|a)
     .exact .inl (.inl a)
     .exact .inr a
     .exact .inl (.inr a)
  .rw[aO q];simp only[dR,q,false_and,or_false]
 refine⟨λt=>by rw[hh];rfl,λt d=>by rw[hh];exact l t d,λt d=>by rw[hl];exact⟨λx=>x.elim id λy=>absurd y.2 d,.inl⟩,λz=>?_⟩;have b:=i5.1 z;have A:kL (rR m w h).Heap (h % 32)=h/32+1:=by rw[hh,l _ c,aM rfl]
 rw[A] at b;exact b.2.1 ((hl _).2 (.inr ⟨b.2.2,rfl⟩))
def aU5(i:lN m){h:Int}(f:0<=w/\w<=2)(g:m5 m h){t:Int}(d:t≠h % 32):eZ (rR m w h) t=eZ m t:=by
 obtain⟨a,b,c,_⟩:=aIE i f g;by_cases q:0<=bO m.Heap t
 .exact aKK (a t) (by rw[b t q,aO d]) (c t d)
 .have e:bO (rR m w h).Heap t=bO m.Heap t:=a t;unfold eZ;rw[e,aM aa,aM aa]
theorem a4Q{l:bo}{j:Nat}(h:j<l.length):RL l (j:Int)=l[j]:=by
 have:=aEG (l:=l) (k:=(j:Int)) aa;rw[aS h] at this;injection this with this
 exact this.symm
def bRK(h:Heap)(s:Int):Int:=ld h.Bytes ((jG s (bO h s)).toNat+4) 4
def a4R{h:Heap}(hc:0<=bO h s):(jG s (bO h s)).toNat+8<=384:=(bT2 hc).1
def bM1{h:Heap}(hh:HOk h)(hc:0<=bO h s):1<=kL h s/\kL h s<=7:=by obtain⟨p,i,b,c,d,ec,e,ep⟩:=rQ hc;have a:=(K7 hh.1 b).1 (hh.2 p b);simp_all[aIA,aO,kL]
structure a1P (m m':Mem) (x:Int):Prop where
 was:eZ m x≠3
 now:eZ m' x=3
 gen:1<=kL m'.Heap x/\kL m'.Heap x<=6
 rest:∀t,t≠x->(eZ m' t=3↔eZ m t=3)
 same:∀t,eZ m t=3->kL m'.Heap t=kL m.Heap t/\bRK m'.Heap t=bRK m.Heap t
def aY6(d:lN m){ls:aC}(f:∀t,t∈eN m.aC↔t∈eN ls\/t=x)(e:x∉eN ls):a1P m ⟨m.Heap,ls⟩ x:=by have c:x∈eN m.aC:=(f x).2 (.inr rfl);obtain⟨a,b⟩:=lN.pT d c;refine⟨λq=>(i5.1 q).2.1 c,i5.2 ⟨a,e,b⟩,⟨(bM1 d.1.1 a).1,b⟩,λt g=>?_,λt _=>⟨rfl,rfl⟩⟩;grind[i5]
theorem bCX(h:l≠[]):l=(TL l).1++[(TL l).2]:=by
 unfold TL;obtain rfl|⟨L,b,rfl⟩:=aCH l
 .exact absurd rfl h
 .simp
def a4S{l:bf}{k:Nat}(hk:k<l.length)(h:fE l k≠[]):∃A B,fT l=A++((TL (fE l k)).2::B)/\fT (l.set k ⟨(TL (fE l k)).1⟩)=A++B:=by grind[bCX,TL,HZ,eB,MP]
def a4T{l:bf}{k:Nat}(hk:k<l.length)(h:fE l k=[]):l.set k ⟨(TL (fE l k)).1⟩=l/\(TL (fE l k)).2 = -1:=by
 rw[h];refine⟨?_,rfl⟩;have e:(⟨(TL []).1⟩:bK)=l[k]:=by
  have:=eB hk;rw[h] at this;cases hl:l[k] with
  |mk s=>rw[hl] at this;simp only at this;subst this;rfl
 simp_all
def a1Q(d:lN m)(h:0<=w/\w<=2)(hc:0<=c/\c<=2):(K9 m w c=(m,-1))\/0<=(K9 m w c).2/\a1P m (K9 m w c).1 (K9 m w c).2:=by
 obtain⟨f,j,i,_⟩:=lN.facts d;have hk:(w*3+c).toNat<m.aC.Own.length:=aa
 unfold K9;by_cases q:fE m.aC.Own (w*3+c).toNat=[]
 .left;obtain⟨a,b⟩:=a4T hk q;rw[a,b]
 .right;obtain⟨A,B,g,k⟩:=a4S hk q;have nd:=d.1.2.2.2.2.2;have e:=d.1.2.2.2.2.1;unfold eN at nd e;rw[g] at nd e;refine⟨(e _ ae).1,aY6 d (λt=>?_) ?_⟩
  .grind[eN]
  grind[eN]
def aXX(d:lN m)(hc:0<=c/\c<=2):(C5 m c=(m,-1))\/0<=(C5 m c).2/\a1P m (C5 m c).1 (C5 m c).2:=by
 obtain⟨f,i,h,_⟩:=lN.facts d;have hk:c.toNat<m.aC.Global.length:=aa
 unfold C5;by_cases q:fE m.aC.Global c.toNat=[]
 .left;obtain⟨a,b⟩:=a4T hk q;rw[a,b]
 .right;obtain⟨A,B,g,j⟩:=a4S hk q;have nd:=d.1.2.2.2.2.2;have e:=d.1.2.2.2.2.1;unfold eN at nd e;rw[g] at nd e;refine⟨(e _ ae).1,aY6 d (λt=>?_) ?_⟩
  .grind[eN]
  grind[eN]
theorem a7Y(w:lN m)(hc:0<=c/\c<=2):(BT m c=(m,-1))\/0<=(BT m c).2/\a1P m (BT m c).1 (BT m c).2:=by
 obtain⟨L,h3,h9,h1,_⟩:=lN.facts w;have H:=w.1.1.1;unfold BT;by_cases q:pgF m.Heap=6
 .grind
 right;rw[aO q];obtain⟨v,A⟩:=a7G H q;generalize pgF m.Heap=p at v A;obtain⟨a,b,d,e⟩:=HOk.bHJ w.1.1 v aa hc;have O:0<cT c:=kK.2 hc;have P:=nZ c;have hk:c.toNat<m.aC.Global.length:=aa
 have k:gS p (cT c).toNat=(p:Int)*4::(gS p (cT c).toNat).drop 1:=by
  have:0<(gS p (cT c).toNat).length:=by grind[aMH]
  have Z:=vA this;rw[PW] at Z;have M:(gS p (cT c).toNat)[0]=(p:Int)*4:=by simp[gS]
  grind
 have o:=a33 p (cT c).toNat;rw[k,aF9] at o;have l:∀t,t∈(gS p (cT c).toNat).drop 1↔∃i,i<(cT c).toNat/\t=(p:Int)*4+(i:Nat)/\i≠0:=λt=>by
  constructor
  .intro h;obtain⟨i,I,rfl⟩:=bHK (XE h);grind
  .rintro⟨i,I,rfl,i0⟩;have g:(p:Int)*4+(i:Nat)∈gS p (cT c).toNat:=by grind[gS]
   grind
 generalize (gS p (cT c).toNat).drop 1=xs at o l;have g:∀t,t∈eN ⟨m.aC.Global.set c.toNat ⟨fE m.aC.Global c.toNat++xs⟩,m.aC.Own⟩↔t∈eN m.aC\/t∈xs:=λt=>by unfold eN;rw[<-eB hk];simp[K8,or_right_comm]
 have B:∀i,i<(cT c).toNat->¬0<=bO m.Heap ((p:Int)*4+(i:Nat)):=λi I z=>(d _ z).1 aa;have M:=e 0 aa;rw[show(p:Int)*4+((0:Nat):Int)=(p:Int)*4 by omega] at M;have f:=B 0 aa;rw[show(p:Int)*4+((0:Nat):Int)=(p:Int)*4 by omega] at f;have D:=λj=>(bAA w.1.1.1.1 v hc (cT c).toNat aa j).1;have C:=PO m.Heap.Bytes p c (cT c).toNat;refine⟨aa,λz=>f (i5.1 z).1,i5.2 ⟨aj,λz=>?_,aj⟩,aj,λt G=>?_,λt G=>?_⟩
 .grind[lN.pT]
 .rw[i5,i5];simp only at G;by_cases z:0<=bO m.Heap t
  .obtain⟨F,E⟩:=d t z;have zx:t∉xs:=λy=>by obtain⟨i,I,rfl,_⟩:=(l t).1 y;omega
   have:t∈eN (⟨m.aC.Global.set c.toNat ⟨fE m.aC.Global c.toNat++xs⟩,m.aC.Own⟩:aC)↔t∈eN m.aC:=aj
   simp only[this,b t F,E]
  .refine⟨λy=>?_,λy=>absurd y.1 z⟩;exfalso;obtain⟨W,V,y3⟩:=y;by_cases U:(t/4).toNat=p
   .obtain⟨r1,X,r3⟩:=sZ W;rw[U,aED H v,aM rfl] at X;exact V ((g t).2 (.inr ((l t).2 ⟨(t % 4).toNat,aa,aa,aa⟩)))
   grind
 .have n:=i5.1 G;obtain⟨F,E⟩:=d t n.1;refine⟨E,?_⟩;obtain⟨u,Y,x,r,Q,T,S,R⟩:=rQ n.1;have K:=a4R n.1;have N:=uR H x rfl r;have J:8+Y*(bA (cH m.Heap u)).toNat+8<=64:=by
   have s:0<=cH m.Heap u/\cH m.Heap u<=2:=kK.1 aa;generalize cH m.Heap u=c' at r s;obtain rfl|rfl|rfl:=oS s
   .grind[cT,bA]
   .grind[cT,bA]
   grind[cT,bA]
  unfold bRK;simp only;rw[b t F];exact N4 aa C λj j1 j2=>D j aa
def bH9{h:Heap}{t:Int}(hc:0<=bO h s)(m:0<=bO h t)(hn:s≠t):(jG s (bO h s)).toNat+4+(jV (bO h s)).toNat<=(jG t (bO h t)).toNat\/(jG t (bO h t)).toNat+4+(jV (bO h t)).toNat<=(jG s (bO h s)).toNat:=by
 obtain⟨p,i,w,g,y,ec,r,ep⟩:=rQ hc;obtain⟨q,j,v,f,fs,o,n,x⟩:=rQ m;rw[r,n,ec,o];have d:∀{c:Int} {i:Nat},i<(cT c).toNat->(c=0/\i<4/\(bA c).toNat=12/\(jV c).toNat=8)\/(c=1/\i<2/\(bA c).toNat=20/\(jV c).toNat=16)\/(c=2/\i<1/\(bA c).toNat=44/\(jV c).toNat=40):=λ{c i} h=>by
  rcases oS (kK.1 (show 0<cT c by omega)) with rfl|rfl|rfl
  .exact .inl ⟨rfl,h,rfl,rfl⟩
  .exact .inr (.inl ⟨rfl,h,rfl,rfl⟩)
  .exact .inr (.inr ⟨rfl,h,rfl,rfl⟩)
 by_cases e:p=q
 .subst e;have l:i≠j:=λe=>hn aa;have u:=d f;obtain⟨_,a,b,c⟩|⟨_,a,b,c⟩|⟨_,a,b,c⟩:=d g
  .rw[b,c];omega
  .rw[b,c];omega
  .omega
 .have:p<q\/q<p:=aa
  obtain⟨_,a,b,c⟩|⟨_,a,b,c⟩|⟨_,a,b,c⟩:=d g<;>obtain⟨_,k,b',c'⟩|⟨_,k,b',c'⟩|⟨_,k,b',c'⟩:=d f<;>rw[b,c,b',c']<;>omega
theorem a4U{b b':an}{a:Nat}(h:a+2<=b.length)(hl:b'.length=b.length)(c:∀j,a<=j->j<a+2->bt b' j=bt b j):ld b' a 2=ld b a 2:=by grind[ld,vA,aUC]
def aU6{h a:Heap}{t:Int}(b:h.Bytes.length=384)(hc:0<=bO h t)(c:10<=jV (bO h t))(e:bO a t=bO h t)(hl:a.Bytes.length=h.Bytes.length)(d:∀j,uY h t<=j->j<uY h t+10->bt a.Bytes j=bt h.Bytes j):aEH a t=aEH h t:=by grind[BU,uY,aEH,a4U,N4]
def Kn(m m':Mem)(z:Int):Prop:=∀x,kY m x->x % 32≠z->kY m' x/\aEH m'.Heap (x % 32)=aEH m.Heap (x % 32)
theorem Kn.refl(m:Mem)(z:Int):Kn m m z:=λ_ h _=>⟨h,rfl⟩
def yD.kn{z:Int}(h:yD m m' z)(hn:∀x,kY m x->x % 32≠z->aEH m'.Heap (x % 32)=aEH m.Heap (x % 32)):Kn m m' z:=λx d hz=>by obtain⟨a,b,c⟩:=h.2 _ d.1.2.1 hz;exact⟨⟨⟨d.1.1,a,by rw[b];exact d.1.2.2⟩,by rw[c];exact d.2⟩,hn x d hz⟩
def aQ0(i:lN m){h:Int}(k:0<=w/\w<=2)(g:m5 m h):Kn m (rR m w h) (h % 32):=by
 obtain⟨m',d,s,_,l⟩:=aQN i k g;rw[aKL i k g] at d;injection d with d
 rw[<-d] at l;refine l.kn λx f hz=>?_;have b:=eC g.2.1;have c:=i.1.1.1.1;have hh:(rR m w h).Heap=⟨st4 m.Heap.Bytes (jG (h % 32) (bO m.Heap (h % 32))).toNat (h/32+1),m.Heap.Class⟩:=by simp[rR,apply_ite]
 rw[hh];have hc:=eC f.1.2.1;have e:=a4R b;have a:=bH9 b hc (λq=>hz q.symm);have r:=(BU hc f.2).2;have p:8<=(jV (bO m.Heap (h % 32))).toNat:=by have:=sZ b;have hh:=kK.1 (show 0<cT (cH m.Heap (h % 32/4).toNat) by omega);rw[this.2.2];obtain e|e|e:=oS hh<;>rw[e]<;>decide
 refine aU6 c hc f.2 rfl (K6 ..) λj o n=>?_;unfold uY at o n;rw[MQ aa,iB,iB]
def bAL(i:lN m)(g:kY m x){o:Nat}{t:bh}(ho:o+t.length<=10):Kn m ⟨⟨kM m.Heap.Bytes (uY m.Heap (x % 32)+o) t,m.Heap.Class⟩,m.aC⟩ (x % 32):=by have d:=eC g.1.2.1;have r:=BU d g.2;have f:=i.1.1.1.1;have h:=lN.kM i d (o:=o) (t:=t) aa;refine λy e hz=>?_;have hc:=eC e.1.2.1;obtain⟨a,b,c⟩:=h.2 _ e.1.2.1 aa;have ap:=bH9 d hc (λq=>hz q.symm);have k:=(BU hc e.2).2;refine⟨⟨⟨e.1.1,a,b.trans e.1.2.2⟩,e.2⟩,aU6 f hc e.2 rfl (E6 ..) λj n l=>?_⟩;grind[uY,RN]
def kY.kM(f:lN m)(d:kY m x){o:Nat}{t:bh}(ho:o+t.length<=10):kY ⟨⟨Gv.kM m.Heap.Bytes (uY m.Heap (x % 32)+o) t,m.Heap.Class⟩,m.aC⟩ x:=by have e:=eC d.1.2.1;have r:=BU e d.2;have h:=lN.kM f e (o:=o) (t:=t) aa;obtain⟨a,b,c⟩:=h.2 _ d.1.2.1 aa;exact⟨⟨d.1.1,a,b.trans d.1.2.2⟩,d.2⟩
def bIA{b:an}{a:Nat}{t:bh}(h:a+t.length<=b.length){k:Nat}(j:Nat)(e:k=a+j)(c:j<t.length):bt (kM b a t) k=(t[j].toNat:Int):=by grind[aUJ]
theorem u8v(z:Int):((u8 z).toNat:Int)=z % 256:=by grind[u8,UInt8.toNat_ofNat_of_lt']
def a7Z{b:an}{a k:Nat}{t l r:bh}{n:Int}(o:t=l++pM n++r)(hk:k=a+l.length)(h:a+t.length<=b.length)(hn:0<=n/\n<=4294967295):ld (kM b a t) k 4=n:=by
 have e:∀j (c:j<4),bt (kM b a t) (k+j)=(((pM n)[j]'(by grind[pM])).toNat:Int):=λj c=>by
  have d:(pM n).length=4:=rfl;have hl:t.length=l.length+4+r.length:=aj
  rw[bIA h (l.length+j) aa aa];grind
 have d:(pM n).length=4:=rfl;have hl:t.length=l.length+4+r.length:=aj
 have m:=e 0 aa;have i:=e 1 aa;have g:=e 2 aa;have f:=e 3 aa;simp only[pM,List.getElem_cons_zero,List.getElem_cons_succ,u8v,aAS] at m i g f;grind[ld4,E6]
section
variable {m:Mem} (hm:lN m) {x:Int} (hx:kY m x)
include hm hx
theorem bAM{o:Nat}{t:bh}(ho:o+t.length<=10)(s:Int):eZ ⟨⟨kM m.Heap.Bytes (uY m.Heap (x % 32)+o) t,m.Heap.Class⟩,m.aC⟩ s=eZ m s:=by
 have a:=eC hx.1.2.1;have r:=BU a hx.2;have h:=(HOk.kM hm.1.1 a (o:=o) (t:=t) aa).2;by_cases q:0<=bO m.Heap s
 .exact aKK rfl (h s q) Iff.rfl
 .have c:bO m.Heap s<0:=aa
  exact(aM (show bO _ s<0 from c)).trans (aM c).symm
structure Wr1 (m m':Mem) (x:Int) (n:gL):Prop where
 ok:kY m' x
 nod:aEH m'.Heap (x % 32)=n
 kn:Kn m m' (x % 32)
 st:∀s,eZ m' s=eZ m s
theorem bM2{y:Int}(e:kN y):Wr1 m (Gv.aNI m x y) x {aEH m.Heap (x % 32) with Next:=y}:=by have c:=eC hx.1.2.1;have r:=(BU c hx.2).1;have d:=hm.1.1.1.1;have h:(pM y).length=4:=rfl;have g:=aKN e;unfold Gv.aNI;rw[aM ⟨e,hx⟩];refine⟨kY.kM hm hx aa,?_,bAL hm hx aa,bAM hm hx aa⟩;have f:uY ⟨kM m.Heap.Bytes (uY m.Heap (x % 32)+6) (pM y),m.Heap.Class⟩ (x % 32)=uY m.Heap (x % 32):=rfl;unfold aEH;simp only[f];rw[a4U aa (E6 ..) λj a b=>RN _ aa aa,N4 aa (E6 ..) λj a b=>RN _ aa aa,a7Z (l:=[]) (r:=[]) (n:=y) ae ae aa aa]
theorem bRL{n:gL}(hn:aIC n):Wr1 m (aG6 m x n) x n:=by
 have d:=eC hx.1.2.1;have r:=(BU d hx.2).1;have f:=hm.1.1.1.1;have hl:(aXU n).length=10:=by simp[aXU,YV,pM]
 have k:=aKN hn.2.2;have hk:=hn.1;have j:=hn.2.1;unfold aG6;rw[aM ⟨hn,hx⟩];refine⟨kY.kM hm hx (o:=0) aa,?_,bAL hm hx (o:=0) aa,bAM hm hx (o:=0) aa⟩;have g:uY ⟨kM m.Heap.Bytes (uY m.Heap (x % 32)) (aXU n),m.Heap.Class⟩ (x % 32)=uY m.Heap (x % 32):=rfl;have c:uY m.Heap (x % 32)+(aXU n).length<=m.Heap.Bytes.length:=aa
 have i:ld (kM m.Heap.Bytes (uY m.Heap (x % 32)) (aXU n)) (uY m.Heap (x % 32)) 2=n.Key:=by
  have e:∀{b:an} {a:Nat},a+2<=b.length->ld b a 2=bt b a*256+bt b (a+1):=λh=>by grind[ld,vA,ldF,aUC]
  rw[e (by grind[E6]),bIA c 0 (aAS _).symm aa,bIA c 1 rfl aa];grind[aXU,YV,u8v]
 unfold aEH;simp only[g];rw[i,a7Z (l:=YV n.Key) (r:=pM n.Next) (n:=n.dP) (by simp[aXU]) (by simp[YV]) c aa,a7Z (l:=YV n.Key++pM n.dP) (r:=[]) (n:=n.Next) (by simp[aXU]) (by simp[YV,pM]) c aa]
end
def bAN(e:m'.Heap=m.Heap)(h:a1P m m' x):Kn m m' (-1):=λy a _=>by have b:=(h.rest (y % 32) (λq=>h.was (q ▸ a.1.2.1))).2 a.1.2.1;grind[kY,m5]
def bAO(h:0<=(TL l).2):(TL l).2∈l:=by
 obtain rfl|⟨L,b,rfl⟩:=aCH l
 .exact absurd h (by simp[TL])
 .simp[TL]
theorem bIB(n:lN m)(hc:0<=c/\c<=2)(h:a1P m (BT m c).1 (BT m c).2):Kn m (BT m c).1 (-1)/\bO (BT m c).1.Heap (BT m c).2=c:=by
 have I:=n.1.1.1;unfold BT at h ⊢;by_cases q:pgF m.Heap=6
 .rw[aM q] at h;exact absurd h.now h.was
 rw[aO q] at h ⊢;obtain⟨u,o⟩:=a7G I q;generalize pgF m.Heap=p at u o h;obtain⟨a,b,d,e⟩:=HOk.bHJ n.1.1 u aa hc;have z:0<cT c:=kK.2 hc;have w:=(e 0 aa).1;rw[show(p:Int)*4+((0:Nat):Int)=(p:Int)*4 by omega] at w;refine⟨λy g _=>?_,w⟩;have J:=(h.rest (y % 32) (λq=>h.was (q ▸ g.1.2.1))).2 g.1.2.1;have f:=eC g.1.2.1;obtain⟨E,D⟩:=d _ f;have ec:=b _ E;refine⟨⟨⟨g.1.1,J,D.trans g.1.2.2⟩,by show 10<=jV (bO _ _);rw[ec];exact g.2⟩,?_⟩;have t:=λj=>(bAA n.1.1.1.1 u hc (cT c).toNat aa j).1;obtain⟨l,H,x,k,A,s,C,B⟩:=rQ f;have r:=BU f g.2;refine aU6 n.1.1.1.1 f g.2 ec (PO ..) λj G F=>t j ?_;unfold uY at G F;have v:8+H*(bA (cH m.Heap l)).toNat+4+10<=64:=by
  have f:0<=cH m.Heap l/\cH m.Heap l<=2:=kK.1 aa;have i:=g.2;rw[s] at i;generalize cH m.Heap l=c' at k f i;obtain rfl|rfl|rfl:=oS f
  .exact absurd i ai
  .rw[show(cT 1).toNat=2 from rfl] at k;rw[show(bA 1).toNat=20 from rfl];omega
  simp_all[cT]
 omega
structure AlT (b:aA) (s:Sub) (r:aA×Sub):Prop where
 clock:r.1.aD=b.aD
 bXE:r.1.aQ=b.aQ
 haz:r.1.pJ=b.pJ
 two:r.1.Mem=b.Mem/\(r.2.iE=true/\r.2.Code=3\/s.Pc<=2/\r.2={s with Pc:=s.Pc+1}) \/
  r.2.iE=true/\r.2.Code=0/\kY r.1.Mem r.2.Out/\a1P b.Mem r.1.Mem (r.2.Out % 32)/\Kn b.Mem r.1.Mem (-1)
def aQ1{b:aA}(c:lN b.Mem)(l:0<=w/\w<=2){s:Sub}(hk:s.Kind=1)(r:s.iE=false)(o:0<=s.Pc/\s.Pc<=3)(n:s.A=16):AlT b s (iV b w s):=by
 have e:iV b w s=aEF b w s:=by grind[iV]
 rw[e];have a:PQ s.A=1:=by rw[n];rfl
 have fin:∀p:Mem×Int,(p=(b.Mem,-1)\/0<=p.2/\a1P b.Mem p.1 p.2)->(a1P b.Mem p.1 p.2->0<=p.2->Kn b.Mem p.1 (-1)/\bO p.1.Heap p.2=1)->AlT b s (TM b s p):=λp h hk=>by
  unfold TM;obtain rfl|⟨f,a⟩:=h
  .rw[dY];split
   .exact⟨rfl,rfl,rfl,.inl ⟨rfl,.inl ⟨rfl,rfl⟩⟩⟩
   .exact⟨rfl,rfl,rfl,.inl ⟨rfl,.inr ⟨aa,rfl⟩⟩⟩
  .obtain⟨k,j⟩:=hk a f;rw[aM f];have i:=(sZ (i5.1 a.now).1).1;have u:a7H p.1 p.2=kL p.1.Heap p.2*32+p.2:=aM a.gen;have q:=a.gen;have g:a7H p.1 p.2 % 32=p.2:=aa
   have v:a7H p.1 p.2/32=kL p.1.Heap p.2:=aa
   have m:lJ (a7H p.1 p.2):=by grind[lJ]
   refine⟨rfl,rfl,rfl,.inr ⟨rfl,rfl,⟨⟨m,?_,?_⟩,?_⟩,?_,k⟩⟩
   .simp only[BS];rw[g];exact a.now
   .grind[BS]
   .simp only[BS];rw[g,j];decide
   grind[BS]
 unfold aEF;rw[a,iB];have hc:(0:Int)<=1/\(1:Int)<=2:=aa
 split
 .refine fin _ (a1Q c l hc) λt h=>⟨bAN rfl t,?_⟩;have d:=c.2.2 (w*3+1).toNat aa _ (bAO h);rw[show(((w*3+1).toNat % 3:Nat):Int)=1 by omega] at d;exact d.1
 split
 .exact fin _ (aXX c hc) λt h=>⟨bAN rfl t,(c.2.1 1 aa _ (bAO h)).1⟩
 grind[a7Y,bIB]
abbrev fQ(v:Int):Prop:=0<=v/\v<=2
abbrev oT(v:Int):Prop:=0<=v/\v<=1
def cX(m:Mem)(x:Int):gL:=aEH m.Heap (x % 32)
def ChT(m:Mem):Int->an->Prop
 |x,[]=>x=0
 |x,h::r=>x=h/\kY m h/\aIC (cX m h)/\ChT m (cX m h).Next r
def csL(l:an)(s:Int):Nat:=(l.map (· % 32)).count s
def lK(j:aK):an:=if(6<=j.Pc/\j.Pc<=8)\/j.Pc=16\/j.Pc=17 then j.gN else if 9<=j.Pc/\j.Pc<=13 then j.gN.drop (gG j.aH j.K).toNat else []
def aMO(j:aK):an:=if 9<=j.Pc/\j.Pc<=14 then j.cK else if j.Pc=15 then j.cK.drop j.K.toNat else []
def own(j:aK):an:=lK j++aMO j
def ind(b:aA)(s:Int):Nat:=if eZ b.Mem s=3/\¬bH b.aQ s then 1 else 0
def cnO(J:Int->aK)(s:Int):Nat:=csL (own (J 0)) s+csL (own (J 1)) s+csL (own (J 2)) s
def cnC(c:Int->an)(s:Int):Nat:=csL (c 0) s+csL (c 1) s
def DA(J:Int->aK)(w:Int)(j:aK):Int->aK:=λv=>if v=w then j else J v
def upC(c:Int->an)(i:Int)(l:an):Int->an:=λv=>if v=i then l else c v
theorem i7(J:Int->aK)(w:Int)(j:aK):DA J w j w=j:=aM rfl
theorem wT(J:Int->aK){v:Int}(j:aK)(h:v≠w):DA J w j v=J v:=aO h
def rT(c:Int->an)(i:Int)(l:an):upC c i l i=l:=aM rfl
def upQ(q:Int->Nat)(w:Int)(n:Nat):Int->Nat:=λv=>if v=w then n else q v
def bID(q:Int->Nat)(w:Int):upQ q w (q w)=q:=by grind[upQ]
def PT(c:Int->an){v:Int}(l:an)(h:v≠i):upC c i l v=c v:=aO h
@[simp] theorem bIE (s : Int) : csL [] s = 0 := rfl
theorem aAM(a b:an)(s:Int):csL (a++b) s=csL a s+csL b s:=by simp[csL]
def VU(x:Int)(l:an)(s:Int):csL (x::l) s=csL l s+if x % 32=s then 1 else 0:=by grind[csL]
theorem W7(h:x∈l):1<=csL l (x % 32):=List.count_pos_iff.2 (H9.2 ⟨x,h,rfl⟩)
def aEN{J:Int->aK}(a:fQ w)(j:aK)(s:Int):cnO (DA J w j) s+csL (own (J w)) s=cnO J s+csL (own j) s:=by grind[cnO,DA]
theorem a70(J:Int->aK){v:Int}(a:fQ v)(s:Int):csL (own (J v)) s<=cnO J s:=by grind[cnO]
def bM3(J:Int->aK){v:Int}(b:fQ v)(a:fQ w)(hn:v≠w)(s:Int):csL (own (J v)) s+csL (own (J w)) s<=cnO J s:=by grind[cnO]
def bIF{c:Int->an}(a:oT i)(l:an)(s:Int):cnC (upC c i l) s+csL (c i) s=cnC c s+csL l s:=by grind[cnC,upC]
def bIG(c:Int->an)(a:oT i)(s:Int):csL (c i) s<=cnC c s:=by grind[cnC]
theorem bAP(c:Int->an){j:Int}(b:oT i)(a:oT j)(hn:i≠j)(s:Int):csL (c i) s+csL (c j) s<=cnC c s:=by grind[cnC]
def bi(j:aK):Int:=jN (nP j).Key
structure TW (Ky:an) (m:Mem) (k:ay) (c:Int->an) (q:Nat) (j:aK):Prop where
 pc:0<=j.Pc/\j.Pc<=21
 nO:j.Pc<6\/20<=j.Pc->j.gN=[]
 oO:j.Pc<=8\/j.Pc=16\/j.Pc=17\/20<=j.Pc->j.cK=[]
 hc:2<=j.Pc/\j.Pc<=5->wR j
 wl:(j.aH.length:Int)<=j.At
 n6:j.Pc=6->(j.gN.length:Int)=j.K/\j.K<=gG j.aH j.aH.length
 n7:7<=j.Pc/\j.Pc<=13->(j.gN.length:Int)=gG j.aH j.aH.length/\(9<=j.Pc->(j.cK.length:Int)<=if j.Pc<=11 then j.K else j.K+1)
 l7:j.Pc=7->∀x∈(rO j.aH).take j.K.toNat,x∈j.bH
 l8:8<=j.Pc/\j.Pc<=13->∀x∈j.aH,jN x.Key∈j.bH
 k9:10<=j.Pc/\j.Pc<=13->j.K<j.aH.length
 st:j.Pc=10\/j.Pc=11->∃A B,c (bi j)=A++j.H::B/\(j.g7=A.getLastD 0/\∀a∈A,(cX m a).Key≠(nP j).Key)/\(j.Pc=10->B.length<=q)
 cu:j.Pc=11->j.Node=cX m j.H/\j.Node.Key=(nP j).Key
 fl:j.Pc=12\/j.Pc=13->(nP j).LJ=false/\∀a∈c (bi j),(cX m a).Key≠(nP j).Key
 ln:j.Pc=13->cX m (LC j)=⟨(nP j).Key,(nP j).dP,(eG k (bi j)).Head⟩
 cd:j.Code=0/\j.Pc≠16/\j.Pc≠17\/(j.Code=3\/j.Code=6\/j.Code=7)/\16<=j.Pc/\j.Pc<=19
 at_:j.Code=0->6<=j.Pc/\j.Pc<=19->j.At=j.Batch.bR.length
 cl:j.Batch.Collect=true->j.Pc=19\/j.Pc=20\/j.Pc=21
 cl2:j.Pc=20\/j.Pc=21->j.Batch.Collect=true
 ky:(∀x∈j.aH,x.Key∈Ky)/\∀x∈j.Batch.bR,x.Key∈Ky
def Rp(m:Mem):an->Prop
 |[]=>True
 |h::r=>kY m h/\aIC (cX m h)/\((cX m h).Next=0\/(cX m h).Next∈r)/\Rp m r
def Sfe(b:aA)(J:Int->aK)(e x:Int):Prop:=(∀r∈cE b.aQ,r.Handle=x->e<=r.aL)/\∀v,fQ v->x∉lK (J v)/\((J v).Pc=15->(J v).K<(J v).cK.length->(J v).Sub.A=x->(J v).Sub.Pc=1->e<=(J v).Sub.E)
def nQ(m:Mem)(l:an):an:=l.map λx=>(cX m x).Key
def m6(c:aD)(v:Int):Prop:=(dI c v).On=true/\(dI c v).hU=false
structure RdL (Ky:an) (b:aA) (J:Int->aK) (e:Int) (l:an):Prop where
 rp:Rp b.Mem l
 nd:(nQ b.Mem l).Nodup
 ky:∀x∈nQ b.Mem l,x∈Ky
 sf:∀x∈l,Sfe b J e x
def RdJ(Ky:an)(b:aA)(J:Int->aK)(v:Int)(q:Nat)(j:aK):Prop:=(j.Pc=3\/j.Pc=4)->m6 b.aD v->∃r,(RdL Ky b J (dI b.aD v).aL (j.H::r)/\r.length<=q)/\(j.Pc=4->(j.Node.Key=(cX b.Mem j.H).Key/\j.Node.dP=(cX b.Mem j.H).dP)/\(j.Node.Next=0\/j.Node.Next∈r))
def bM4(e:Int)(l:bo)(s:Sub):Prop:=s.Kind=4/\s.iE=false/\(s.Pc=0\/s.E<=e/\(s.Pc=1/\0<=s.Row\/s.Pc=2/\(0<=s.B/\s.B<=2)/\TO l s/\OX (RL l s.Row) s.E\/s.Pc=3/\TO l s/\OX (RL l s.Row) s.E))
structure SbJ (b:aA) (v:Int) (j:aK):Prop where
 al:j.Pc=6->j.Sub.Kind=1/\j.Sub.iE=false/\(0<=j.Sub.Pc/\j.Sub.Pc<=3)/\j.Sub.A=16
 rt:j.Pc=15->j.K<j.cK.length->0<=j.K/\j.Sub.Kind=2/\j.Sub.iE=false/\j.Sub.A=j.cK.getD j.K.toNat 0/\(j.Sub.Pc=0\/j.Sub.Pc=1/\0<=j.Sub.E/\j.Sub.E<=b.aD.aL)
 col:j.Pc=21->bM4 b.aD.aL (dU b.aQ v) j.Sub
structure sM (Ky:an) (b:aA) (k:ay) (c:Int->an) (q:Int->Nat) (J:Int->aK):Prop where
 hz:b.pJ=[0,0,0]
 ch:∀i,oT i->ChT b.Mem (eG k i).Head (c i)
 key:∀i,oT i->(nQ b.Mem (c i)).Nodup/\∀x∈nQ b.Mem (c i),jN x=i/\x∈Ky
 cnt:∀s,cnC c s+cnO J s=ind b s
 ok:∀v,fQ v->∀x∈own (J v),kY b.Mem x
 tw:∀v,fQ v->(J v).bU=true->TW Ky b.Mem k c (q v) (J v)
 rd:∀v,fQ v->RdJ Ky b J v (q v) (J v)
 sb:∀v,fQ v->SbJ b v (J v)
def ChT.all:∀{l:an} {x:Int},ChT m x l->∀y∈l,kY m y/\aIC (cX m y)
 |[],_,_,_,h=>by cases h
 |a::r,x,h,y,b=>by
  obtain rfl|b:=lO.1 b
  .exact⟨h.2.1,h.2.2.1⟩
  .exact h.2.2.2.all y b
def ChT.keep:∀{l:an} {x:Int},ChT m x l->(∀y∈l,kY m' y/\cX m' y=cX m y)->ChT m' x l
 |[],_,h,_=>h
 |a::r,x,h,hk=>by obtain⟨d,b⟩:=hk a ae;exact⟨h.1,d,by rw[b];exact h.2.2.1,by rw[b];exact h.2.2.2.keep λy c=>hk y (by simp[c])⟩
def ChT.split:∀{h:Int} {B:an} {x:Int},ChT m x (A++h::B)->ChT m h (h::B):=by
 induction A with
 |nil=>exact λh=>⟨rfl,h.2⟩
 |cons a A b=>exact λh=>b h.2.2.2
def ChT.rp:∀{l:an} {x:Int},ChT m x l->Rp m l
 |[],_,_=>trivial
 |[a],x,h=>⟨h.2.1,h.2.2.1,.inl h.2.2.2,trivial⟩
 |a::b::r,x,h=>⟨h.2.1,h.2.2.1,.inr (by rw[h.2.2.2.1];simp),h.2.2.2.rp⟩
def Rp.from:∀{l:an} {x:Int},Rp m l->x∈l->∃A r,l=A++x::r/\Rp m (x::r)
 |a::l,x,h,b=>by
  by_cases e:x=a
  .subst e;exact⟨[],l,rfl,h⟩
  .obtain⟨A,r,d,c⟩:=h.2.2.2.from ((lO.1 b).resolve_left e);grind
def Rp.keep:∀{l:an},Rp m l->(∀y∈l,kY m' y/\cX m' y=cX m y)->Rp m' l
 |[],_,_=>trivial
 |a::r,h,hk=>by obtain⟨d,b⟩:=hk a ae;exact⟨d,by rw[b];exact h.2.1,by rw[b];exact h.2.2.1,h.2.2.2.keep λy c=>hk y (by simp[c])⟩
def Rp.ok:∀{l:an},Rp m l->∀y∈l,kY m y/\aIC (cX m y)
 |a::r,h,y,b=>by
  obtain rfl|b:=lO.1 b
  .exact⟨h.1,h.2.1⟩
  .exact h.2.2.2.ok y b
def aMP(h:∀y∈l,(cX m' y).Key=(cX m y).Key):nQ m' l=nQ m l:=List.map_congr_left h
def kY.ne(h:kY m x):x≠0:=by have:=h.1.1.1;omega
theorem aU8(b:aA)(s:Int):ind b s<=1:=by grind[ind]
def Rp.cut{y:Int}(b:cX m' y={cX m y with Next:=(cX m (cX m y).Next).Next})(c:(cX m y).Next≠0):∀{l:an},Rp m l->(∀x∈l,kY m' x/\(x≠y->cX m' x=cX m x))->Rp m' l
 |[],_,_=>trivial
 |a::r,h,hk=>by
  have f:=h.2.2.2.cut b c λx g=>hk x (by simp[g]);obtain⟨j,n⟩:=hk a ae;by_cases e:a=y
  .subst e;have i:=h.2.2.1.resolve_left c;obtain⟨A,q,k,d⟩:=h.2.2.2.from i;rw[Rp,b];refine⟨j,⟨h.2.1.1,h.2.1.2.1,d.2.1.2.2⟩,d.2.2.1.imp id λz=>?_,f⟩;grind
  grind[Rp]
structure Oth (b b':aA) (k k':ay) (c c':Int->an) (J:Int->aK) (w:Int) (j':aK) (y z:Int):Prop where
 nod:∀x,kY b.Mem x->x % 32≠z->kY b'.Mem x/\(x≠y->cX b'.Mem x=cX b.Mem x)
 zo:z = -1\/ind b z=0\/∃x∈own (J w),x % 32=z
 yo:y=0\/y∈lK (J w)\/(∃i,oT i/\(eG k i).eU=w+1/\y∈c i)/\cX b'.Mem y={cX b.Mem y with Next:=(cX b.Mem (cX b.Mem y).Next).Next}/\(cX b.Mem y).Next≠0
 hk:∀i,oT i->(eG k i).eU≠w+1->(eG k' i).Head=(eG k i).Head/\c' i=c i
 zs:z = -1\/∀v,fQ v->v≠w->(J v).Pc=3\/(J v).Pc=4->m6 b.aD v->∀x,kY b.Mem x->Sfe b J (dI b.aD v).aL x->x % 32≠z
 lr:∀r∈cE b'.aQ,r∈cE b.aQ\/(J w).Pc=15/\(J w).K<(J w).cK.length/\(J w).Sub.A=r.Handle/\(J w).Sub.Pc=1/\(J w).Sub.E=r.aL
 no:∀x∈lK j',x∈lK (J w)\/eZ b.Mem (x % 32)≠3
 sr:j'.Pc=15->j'.K<j'.cK.length->j'.Sub.Pc=1->j'.Sub.E=b.aD.aL\/(J w).Pc=15/\(J w).K<(J w).cK.length/\(J w).Sub.A=j'.Sub.A/\(J w).Sub.Pc=1/\(J w).Sub.E=j'.Sub.E
 pin:∀v,fQ v->v≠w->m6 b'.aD v->m6 b.aD v/\(dI b'.aD v).aL=(dI b.aD v).aL
 ep:b.aD.aL<=b'.aD.aL
 rows:∀v,fQ v->v≠w->dU b'.aQ v=dU b.aQ v
section
variable {Ky:an} {b b':aA} {k k':ay} {c c':Int->an} {J:Int->aK} {q:Int->Nat} {w:Int} {j':aK} {y z:Int}
theorem Oth.sfe(o:Oth b b' k k' c c' J w j' y z)(t:fQ w)(G:e<=b.aD.aL)(p:kY b.Mem x)(h:Sfe b J e x):Sfe b' (DA J w j') e x:=by
 refine⟨λr u d=>?_,λv a=>?_⟩
 .obtain q|⟨n,l,j,i,F⟩:=o.lr r u
  .exact h.1 r q d
  .have:=(h.2 w t).2 n l (by rw[j,d]) i;omega
 .by_cases q:v=w
  .subst q;rw[i7];refine⟨λm=>(o.no x m).elim (h.2 v a).1 λs=>s p.1.2.1,λD C B A=>?_⟩;obtain s|⟨s1,s2,g,f,E⟩:=o.sr D C A
   .omega
   .have:=(h.2 v a).2 s1 s2 (by rw[g,B]) f;omega
  .rw[wT _ _ q];exact h.2 v a
variable (h:sM Ky b k c q J) (hl:∀v,fQ v->LkJ k v (J v)) (hw:fQ w)
include h hw
theorem sM.name{v:Int}(d:fQ v)(a:x∈own (J v)):1<=csL (own (J v)) (x % 32)/\cnC c (x % 32)+cnO J (x % 32)=ind b (x % 32)/\csL (own (J v)) (x % 32)<=cnO J (x % 32)/\ind b (x % 32)<=1:=⟨W7 a,h.cnt _,a70 J d _,aU8 ..⟩
theorem sM.link(d:oT i)(a:x∈c i):1<=csL (c i) (x % 32)/\cnC c (x % 32)+cnO J (x % 32)=ind b (x % 32)/\csL (c i) (x % 32)<=cnC c (x % 32)/\ind b (x % 32)<=1:=⟨W7 a,h.cnt _,bIG c d _,aU8 ..⟩
theorem TS(a:x∈lK j):x∈own j:=XD _ a
theorem Oth.own(o:Oth b b' k k' c c' J w j' y z){v:Int}(d:fQ v)(hn:v≠w)(f:x∈own (J v)):kY b'.Mem x/\cX b'.Mem x=cX b.Mem x:=by
 have a:=h.name hw d f;have two:=bM3 J d hw hn (x % 32);have hz:x % 32≠z:=λe=>by
  obtain q|q|⟨u,hu,n⟩:=o.zo
  .omega
  .grind
  .have:=h.name hw hw hu;grind
 have m:x≠y:=λe=>by
  subst e;obtain q|q|⟨⟨i,g,_,hc⟩,_⟩:=o.yo
  .exact(h.ok v d x f).ne q
  .have:=h.name hw hw (TS h hw q);omega
  .have:=h.link hw g hc;omega
 obtain⟨l,j⟩:=o.nod x (h.ok v d x f) hz;grind
theorem Oth.chz(o:Oth b b' k k' c c' J w j' y z)(f:oT i):∀x∈c i,kY b'.Mem x/\(x≠y->cX b'.Mem x=cX b.Mem x):=λx d=>by
 have a:=h.link hw f d;refine o.nod x ((h.ch i f).all x d).1 λe=>?_;obtain q|q|⟨u,hu,g⟩:=o.zo
 .omega
 .grind
 .have:=h.name hw hw hu;grind
theorem Oth.chn(o:Oth b b' k k' c c' J w j' y z)(d:oT i)(g:y∉c i):(∀x∈c i,kY b'.Mem x/\cX b'.Mem x=cX b.Mem x)/\((eG k' i).Head=(eG k i).Head->c' i=c i->ChT b'.Mem (eG k' i).Head (c' i)/\nQ b'.Mem (c' i)=nQ b.Mem (c i)):=by
 have all:∀x∈c i,kY b'.Mem x/\cX b'.Mem x=cX b.Mem x:=λx a=>by obtain⟨l,j⟩:=o.chz h hw d x a;grind
 refine⟨all,λf e=>?_⟩;rw[f,e];exact⟨(h.ch i d).keep all,aMP λx a=>aj⟩
theorem Oth.yno(o:Oth b b' k k' c c' J w j' y z)(e:oT i)(hn:(eG k i).eU≠w+1):y∉c i:=λd=>by
 have a:=h.link hw e d;obtain q|q|⟨⟨u,hu,f,hc⟩,_⟩:=o.yo
 .exact((h.ch i e).all y d).1.ne q
 .have:=h.name hw hw (TS h hw q);omega
 grind[bAP,W7]
theorem aU9{f:Nat}(t:TW Ky m k c f j)(i:JB j)(g:j.Pc=12\/j.Pc=13):LC j∈lK j/\∃r,lK j=LC j::r/\j.gN.drop ((gG j.aH j.K).toNat+1)=r:=by
 have hk:=t.k9 aa;have p:=(t.fl g).1;have n:=(t.n7 aa).1;have e:=i.k.1;have o:j.K.toNat<j.aH.length:=aa
 have s:nP j=j.aH[j.K.toNat]:=by grind[nP]
 have d:gG j.aH j.K+1<=gG j.aH j.aH.length:=by unfold gG;rw[H3,List.take_length];grind[aGA,vA]
 have l:0<=gG j.aH j.K:=by grind[gG]
 have a:(gG j.aH j.K).toNat<j.gN.length:=aa
 have u:lK j=j.gN.drop (gG j.aH j.K).toNat:=by unfold lK;grind
 grind[LC,vA]
include hl
theorem sM.aY7{q':Int->Nat}(Z:∀v,v≠w->q' v=q v)(hc:O0 b.aD)(hJ:∀v,fQ v->(J v).bU=true->JB (J v))(o:Oth b b' k k' c c' J w j' y z)(hz:b'.pJ=b.pJ)(ch':∀i,oT i->ChT b'.Mem (eG k' i).Head (c' i))(D:∀i,oT i->(nQ b'.Mem (c' i)).Nodup/\∀x∈nQ b'.Mem (c' i),jN x=i/\x∈Ky)
  (F:∀s,cnC c' s+cnO (DA J w j') s=ind b' s) (ok':∀x∈own j',kY b'.Mem x) (tw':j'.bU=true->TW Ky b'.Mem k' c' (q' w) j') (rd':RdJ Ky b' (DA J w j') w (q' w) j') (sb':SbJ b' w j'):sM Ky b' k' c' q' (DA J w j'):=by
 refine⟨hz.trans h.hz,ch',D,F,λv g x d=>?_,λv g V=>?_,λv g=>?_,λv g=>?_⟩
 .by_cases f:v=w
  .grind[i7]
  .rw[wT _ _ f] at d;exact(o.own h hw g f d).1
 .by_cases f:v=w
  .grind[i7]
  .rw[wT _ _ f] at V ⊢;rw[Z v f];have t:=h.tw v g V;have S:=hJ v g V;have held:∀i,i∈(J v).bH->oT i/\(eG k' i).Head=(eG k i).Head/\c' i=c i/\∀x∈c i,cX b'.Mem x=cX b.Mem x:=λi T=>by
    have l:=S.held.1 i T;have hlk:=((hl v g).iff i l).1 T;have hn:(eG k i).eU≠w+1:=aa
    obtain⟨n,a2⟩:=o.hk i l hn;exact⟨l,n,a2,λx d=>((o.chn h hw l (o.yno h hw l hn)).1 x d).2⟩
   have m:10<=(J v).Pc/\(J v).Pc<=13->bi (J v)∈(J v).bH:=λj=>by
    have hk:=t.k9 j;have hk0:=S.k.1;have T:(J v).K.toNat<(J v).aH.length:=aa
    have er:nP (J v)=(J v).aH[(J v).K.toNat]:=by grind[nP]
    exact t.l8 aa _ aj
   refine{t with st:=λj=>?_,cu:=λj=>?_,fl:=λj=>?_,ln:=λj=>?_}
   .obtain⟨_,_,W,K⟩:=held _ (m aa);obtain⟨A,B,G,⟨H,P⟩,x4⟩:=t.st j;grind
   .obtain⟨_,_,W,K⟩:=held _ (m aa);obtain⟨A,B,G,_⟩:=t.st (.inr j);rw[K (J v).H aj];exact t.cu j
   .obtain⟨_,_,W,K⟩:=held _ (m aa);obtain⟨G,H⟩:=t.fl j;grind
   .obtain⟨_,e1,W,K⟩:=held _ (m aa);rw[(o.own h hw g f (TS h hw (aU9 h hw t S (.inr j)).1)).2,e1];exact t.ln j
 .by_cases f:v=w
  .grind[i7]
  .rw[wT _ _ f,Z v f];intro j E;obtain⟨I,Q⟩:=o.pin v g f E;obtain⟨r,⟨⟨n,a2,a3,L⟩,a6⟩,a5⟩:=h.rd v g j I;have U:(dI b.aD v).aL<=b.aD.aL:=(aUH hc g).1.2;have d:∀x∈(J v).H::r,kY b'.Mem x/\(x≠y->cX b'.Mem x=cX b.Mem x):=λx d=>by
    refine o.nod x (n.ok x d).1 λez=>?_;obtain X|X:=o.zs
    .omega
    .exact X v g f j I x (n.ok x d).1 (L x d) ez
   have M:∀x∈(J v).H::r,Sfe b' (DA J w j') (dI b'.aD v).aL x:=λx d=>by rw[Q];exact o.sfe hw U (n.ok x d).1 (L x d)
   have O:∀x∈(J v).H::r,(cX b'.Mem x).Key=(cX b.Mem x).Key/\(cX b'.Mem x).dP=(cX b.Mem x).dP:=λx u=>by
    by_cases e:x=y
    .obtain C|C|⟨_,Y,_⟩:=o.yo
     .exact absurd (e.trans C) (n.ok x u).1.ne
     .exact absurd (e ▸ C) ((L x u).2 w hw).1
     grind
    grind
   have hkk:nQ b'.Mem ((J v).H::r)=nQ b.Mem ((J v).H::r):=aMP λx u=>(O x u).1;have N:Rp b'.Mem ((J v).H::r):=by
    by_cases R:y∈(J v).H::r
    .obtain C|C|⟨_,Y,q2⟩:=o.yo
     .exact absurd C (n.ok y R).1.ne
     .exact absurd C ((L y R).2 w hw).1
     .exact n.cut Y q2 d
    .exact n.keep λx u=>⟨(d x u).1,(d x u).2 λe=>R (e ▸ u)⟩
   refine⟨r,⟨⟨N,aj,aj,M⟩,a6⟩,λe=>?_⟩;grind
 .by_cases f:v=w
  .grind[i7]
  .rw[wT _ _ f];have s:=h.sb v g;have U:=o.ep;exact⟨s.al,λI Q=>by obtain⟨x0,G,H,P,x4⟩:=s.rt I Q;grind,λp=>by rw[o.rows v g f];obtain⟨G,H,P⟩:=s.col p;exact⟨G,H,P.imp id λa=>⟨aQ8 a.1 U,a.2⟩⟩⟩
theorem sM.make(hc:O0 b.aD)(l:∀v,fQ v->(J v).bU=true->JB (J v))(o:Oth b b' k k' c c' J w j' y z)(hz:b'.pJ=b.pJ)(ch':∀i,oT i->ChT b'.Mem (eG k' i).Head (c' i))(a:∀i,oT i->(nQ b'.Mem (c' i)).Nodup/\∀x∈nQ b'.Mem (c' i),jN x=i/\x∈Ky)
  (d:∀s,cnC c' s+cnO (DA J w j') s=ind b' s) (j:∀x∈own j',kY b'.Mem x) (e:j'.bU=true->TW Ky b'.Mem k' c' (q w) j') (g:RdJ Ky b' (DA J w j') w (q w) j') (f:SbJ b' w j'):sM Ky b' k' c' q (DA J w j'):=h.aY7 hl hw (λ_ _=>rfl) hc l o hz ch' a d j e g f
end
def a71{b:aA}(hc:O0 b.aD)(a:0<=w/\w<=2)(s:Sub):∃cl:aD,(C6 b w s).1=⟨b.Mem,cl,b.aQ,b.pJ⟩/\cl.aL=b.aD.aL/\∀v,0<=v/\v<=2->v≠w->dI cl v=dI b.aD v:=by
 unfold C6 W5;split
 .grind
 split
 .split
  .refine⟨⟨b.aD.aL,b.aD.cV.set w.toNat ⟨true,s.E,false,0⟩⟩,rfl,rfl,λv c d=>by rw[C8 hc a c,aO d]⟩
  .exact⟨_,rfl,rfl,λ_ _ _=>rfl⟩
 split
 .split
  .exact⟨_,rfl,rfl,λ_ _ _=>rfl⟩
  .exact⟨_,rfl,rfl,λ_ _ _=>rfl⟩
 grind
def a4W{c:aD}(hc:O0 c)(a:0<=w/\w<=2):(PR c w).1.aL=c.aL/\∀v,0<=v/\v<=2->v≠w->dI (PR c w).1 v=dI c v:=by
 unfold PR;split
 .exact⟨rfl,λv b d=>by rw[C8 hc a b,aO d]⟩
 .exact⟨rfl,λ_ _ _=>rfl⟩
def aY8{c c':aD}{v:Int}(h:dI c' v=dI c v)(p:m6 c' v):m6 c v/\(dI c' v).aL=(dI c v).aL:=by grind[m6]
def a72{b:aA}(hc:O0 b.aD)(s:Sub):∃cl:aD,(fP b s).1=⟨b.Mem,cl,b.aQ,b.pJ⟩/\b.aD.aL<=cl.aL/\∀v,0<=v/\v<=2->m6 cl v->m6 b.aD v/\(dI cl v).aL=(dI b.aD v).aL:=by
 unfold fP;split
 .grind
 split
 .split
  .grind[aUM,m6]
  grind
 split
 .refine⟨_,rfl,?_,?_⟩
  .unfold aNG;grind
  .intro v a p;unfold aNG at p ⊢;split
   .rename_i q;rw[aM q] at p;exact⟨p,rfl⟩
   grind
 grind
section
variable {Ky:an} {b:aA} {k:ay} {c:Int->an} {q:Int->Nat} {J:Int->aK} {w:Int} (h:sM Ky b k c q J) (hl:∀v,fQ v->LkJ k v (J v)) (hw:fQ w) (hc:O0 b.aD) (hJ:∀v,fQ v->(J v).bU=true->JB (J v))
include h hl hw hc hJ
theorem sM.bII{q':Int->Nat}(m:∀v,v≠w->q' v=q v){cl:aD}(hk:∀i,oT i->(eG k' i).Head=(eG k i).Head)(j:own j'=own (J w))(en:∀x∈lK j',x∈lK (J w))
  (sr:j'.Pc=15->j'.K<j'.cK.length->j'.Sub.Pc=1->j'.Sub.E=b.aD.aL\/(J w).Pc=15/\(J w).K<(J w).cK.length/\(J w).Sub.A=j'.Sub.A/\(J w).Sub.Pc=1/\(J w).Sub.E=j'.Sub.E)
  (pin:∀v,fQ v->v≠w->m6 cl v->m6 b.aD v/\(dI cl v).aL=(dI b.aD v).aL) (ep:b.aD.aL<=cl.aL)
  (e:j'.bU=true->TW Ky b.Mem k' c (q' w) j') (g:RdJ Ky {b with aD:=cl} (DA J w j') w (q' w) j') (f:SbJ {b with aD:=cl} w j'):sM Ky {b with aD:=cl} k' c q' (DA J w j'):=by refine h.aY7 hl hw m hc hJ (y:=0) (z:=-1) ⟨λx a _=>⟨a,λ_=>rfl⟩,.inl rfl,.inl rfl,λi d _=>⟨hk i d,rfl⟩,.inl rfl,λr l=>.inl l,λx a=>.inl (en x a),sr,pin,ep,λ_ _ _=>rfl⟩ rfl (λi d=>by rw[hk i d];exact h.ch i d) h.key (λs=>?_) (λx a=>h.ok w hw x (j ▸ a)) e g f;have:=aEN (J:=J) hw j' s;rw[j] at this;have n:=h.cnt s;grind[ind]
theorem sM.quiet{cl:aD}(hk:∀i,oT i->(eG k' i).Head=(eG k i).Head)(f:own j'=own (J w))(en:∀x∈lK j',x∈lK (J w))
  (sr:j'.Pc=15->j'.K<j'.cK.length->j'.Sub.Pc=1->j'.Sub.E=b.aD.aL\/(J w).Pc=15/\(J w).K<(J w).cK.length/\(J w).Sub.A=j'.Sub.A/\(J w).Sub.Pc=1/\(J w).Sub.E=j'.Sub.E)
  (pin:∀v,fQ v->v≠w->m6 cl v->m6 b.aD v/\(dI cl v).aL=(dI b.aD v).aL) (ep:b.aD.aL<=cl.aL)
  (a:j'.bU=true->TW Ky b.Mem k' c (q w) j') (e:RdJ Ky {b with aD:=cl} (DA J w j') w (q w) j') (d:SbJ {b with aD:=cl} w j'):sM Ky {b with aD:=cl} k' c q (DA J w j'):=h.bII hl hw hc hJ (λ_ _=>rfl) hk f en sr pin ep a e d
theorem sM.a1R{q':Int->Nat}(u:∀v,v≠w->q' v=q v)(hk:∀i,oT i->(eG k' i).Head=(eG k i).Head)(y:own j'=own (J w))(en:∀x∈lK j',x∈lK (J w))(d:j'.Pc≠15\/j'.Sub.Pc≠1)(f:j'.bU=true->TW Ky b.Mem k' c (q' w) j')(j:RdJ Ky b J w (q' w) j')(g:SbJ b w j'):sM Ky b k' c q' (DA J w j'):=
 h.bII hl hw hc hJ u (cl:=b.aD) hk y en (λp _ q=>d.elim (λa=>absurd p a) λa=>absurd q a) (λ_ _ _ p=>⟨p,rfl⟩) (O1 _) f (λp q=>by
  obtain⟨r,⟨a,t⟩,e⟩:=j p q;exact⟨r,⟨⟨a.rp,a.nd,a.ky,λx l=>⟨(a.sf x l).1,λv n=>by
   by_cases z:v=w
   .subst z;rw[i7];exact⟨λm=>((a.sf x l).2 v n).1 (en x m),λs _ _ o=>(d.elim (λa=>absurd s a) λa=>absurd o a)⟩
   .rw[wT _ _ z];exact(a.sf x l).2 v n⟩⟩,t⟩,e⟩) g
theorem sM.still(hk:∀i,oT i->(eG k' i).Head=(eG k i).Head)(g:own j'=own (J w))(en:∀x∈lK j',x∈lK (J w))(f:j'.Pc≠15\/j'.Sub.Pc≠1)(a:j'.bU=true->TW Ky b.Mem k' c (q w) j')(e:RdJ Ky b J w (q w) j')(d:SbJ b w j'):sM Ky b k' c q (DA J w j'):=h.a1R hl hw hc hJ (λ_ _=>rfl) hk g en f a e d
end
def RdJ.no{b:aA}{J:Int->aK}{v:Int}{q:Nat}(h:j.Pc≠3/\j.Pc≠4):RdJ Ky b J v q j:=λp=>absurd p aa
def SbJ.no{b:aA}{v:Int}(h:j.Pc≠6/\j.Pc≠15/\j.Pc≠21):SbJ b v j:=⟨λp=>absurd p h.1,λp=>absurd p h.2.1,λp=>absurd p h.2.2⟩
def LD(h:j.Pc<6\/18<=j.Pc):own j=[]/\lK j=[]:=by unfold own lK aMO;grind
theorem wU(h:(6<=j.Pc/\j.Pc<=8)\/j.Pc=16\/j.Pc=17):own j=j.gN/\lK j=j.gN:=by unfold own lK aMO;grind
theorem aEO(l:az)(x:aX):(yC l x).length<=l.length+1:=by
 have e:(yC l x).length=(l.filter λy=>!(y.Key == x.Key)).length+1:=by unfold yC;have:=cS List.length (aX3 (p:=λy=>!decide (x.Key<y.Key)) (l:=l.filter λy=>!(y.Key == x.Key)));grind
 grind
theorem a4X{l:az}{x y:aX}(h:y∈yC l x):y=x\/y∈l:=((aUQ _ _ _).1 (show y∈a1I _ x from h)).imp id λh=>(aX0.1 h).1
def bAQ(a:JB j)(hc:wR j):cZ j∈j.Batch.bR:=by have:=a.at_;grind[wR,cZ]
theorem a73{c:Int->an}{e:Nat}(t:TW Ky m k c e j)(a:JB j)(J:1<=j.Pc/\j.Pc<=5)(f:wR j)(v:Int)(is:Bool):TW Ky m k c e (sK j (cZ j) v is)/\(sK j (cZ j) v is).Pc=1:=by
 have K:=bAQ a f;have L:=a.bat.2.1;have w:=a.at_;unfold wR at f;obtain⟨H,G,F,E,x,D,C,B,A,s,r,q,p,o,n,l,i,h,g⟩:=t;have z:=x;unfold sK;split
 .generalize (if is then v else 0)=u;unfold aCC pK;have d:=aEO j.aH ⟨(cZ j).Key,false,HB u (cZ j).dP⟩;have b:∀y∈yC j.aH ⟨(cZ j).Key,false,HB u (cZ j).dP⟩,y.Key∈Ky:=λy I=>by grind[a4X]
  rw[aO (show ¬6<(yC j.aH ⟨(cZ j).Key,false,HB u (cZ j).dP⟩).length by omega),aM rfl];unfold aAK;refine⟨?_,rfl⟩;constructor<;>grind
 .unfold aAK;refine⟨?_,rfl⟩;constructor<;>grind
section
variable {Ky:an} {b:aA} {k:ay} {c:Int->an} {q:Int->Nat} {J:Int->aK} {w:Int} (h:sM Ky b k c q J) (hl:∀v,fQ v->LkJ k v (J v)) (hw:fQ w) (hc:O0 b.aD) (hJ:∀v,fQ v->(J v).bU=true->JB (J v)) (hB:(J w).bU=true)
include h hl hw hc hJ hB
theorem bRN(a:(J w).Pc=8):sM Ky b k c q (DA J w (OY k w (J w))):=by
 obtain⟨C,B,A,z,y,x,u,t,s,r,p,n,m,l,i,g,f,e,d⟩:=h.tw w hw hB;have o:=wU (j:=J w) aa;have D:gG (J w).aH 0=0:=by simp[gG]
 unfold OY;split
 .refine h.still hl hw hc hJ (λ_ _=>rfl) ?_ ?_ (.inl ae) (λ_=>?_) (.no ae) (.no ae)
  .simp_all[own,lK,aMO]
  .grind[lK]
  .constructor<;>grind
 .split
  .refine h.still hl hw hc hJ (λ_ _=>rfl) ?_ ?_ (.inl (by simp[uZ])) (λ_=>?_) (.no (by simp[uZ])) (.no (by simp[uZ]))
   .simp_all[own,lK,aMO,uZ]
   .grind[lK,uZ]
   .constructor<;>grind[uZ]
  .refine h.still hl hw hc hJ (λ_ _=>rfl) ?_ ?_ (.inl (by simp[a])) (λ_=>?_) (.no (by simp[a])) (.no (by simp[a]))
   .simp_all[own,lK,aMO]
   .grind[lK]
   .constructor<;>grind
theorem bM5(N:(J w).Pc=1):sM Ky b k c q (DA J w (sG (J w))):=by
 have t:=h.tw w hw hB;have s:=hJ w hw hB;have o:=LD (j:=J w) aa;have fin:∀{j':aK},TW Ky b.Mem k c (q w) j'->j'.Pc=1\/j'.Pc=2->sM Ky b k c q (DA J w j'):=λ{j'} M Q=>by have R:=LD (j:=j') aa;exact h.still hl hw hc hJ (λ_ _=>rfl) aj aj (.inl aa) (λ_=>M) (.no aa) (.no aa)
 unfold sG;split
 .rename_i u;split
  .have T:=bAQ s u;have U:=s.bat.2.1;have x:=s.at_;unfold wR at u;obtain⟨L,I,H,G,z,F,E,D,C,r,p,n,m,l,i,g,f,d,a⟩:=t;have O:=z;unfold pK;have B:=aEO (J w).aH ⟨(cZ (J w)).Key,(cZ (J w)).Kind == 3,(cZ (J w)).dP⟩;have A:∀y∈yC (J w).aH ⟨(cZ (J w)).Key,(cZ (J w)).Kind == 3,(cZ (J w)).dP⟩,y.Key∈Ky:=λy S=>by grind[a4X]
   rw[aO (show ¬6<(yC (J w).aH ⟨(cZ (J w)).Key,(cZ (J w)).Kind == 3,(cZ (J w)).dP⟩).length by omega),aM rfl];refine fin ?_ (.inl N);constructor<;>grind
  .split
   .grind[a73]
   .refine fin ?_ (.inr rfl);obtain⟨L,I,H,G,z,F,E,D,C,r,p,n,m,l,i,g,f,d,a⟩:=t;constructor<;>grind[wR]
 .rename_i u;have x:=s.at_;have e:own {J w with Pc:=6,K:=0,Sub:=C7 1 16}=[]:=by rw[(wU ae).1];exact t.nO aa
  refine h.still hl hw hc hJ (λ_ _=>rfl) (by rw[o.1,e]) (by grind[wU]) (.inl ae) (λ_=>?_) (.no ae) ⟨λ_=>by simp[C7],ae,ae⟩;obtain⟨L,I,H,G,z,F,E,D,C,r,p,n,m,l,i,g,f,d,a⟩:=t;have P:0<=gG (J w).aH (J w).aH.length:=by grind[gG]
  unfold wR at u;constructor<;>grind
end
def a1S(h:kY m x):aCB m.Heap x=cX m x:=aM ⟨h.1.1,eC h.1.2.1,h.2⟩
def qF(L q:Nat)(j:aK):Nat:=if j.Pc=2\/j.Pc=9 then L-1 else if j.Pc=4\/j.Pc=10 then q-1 else q
def bM6{l:az}{x:aX}(h:x∈l)(hk:0<=x.Key/\x.Key<=99):jN x.Key∈rO l:=by
 have:jN x.Key=0/\(l.any λx=>x.Key % 2 == 0)=true\/jN x.Key=1/\(l.any λx=>x.Key % 2 == 1)=true:=by unfold jN;grind
 grind[rO]
section
variable {Ky:an} {b:aA} {k:ay} {c:Int->an} {q:Int->Nat} {J:Int->aK} {w:Int} (h:sM Ky b k c q J)
include h
theorem sM.free(g:oT i)(d:x∈c i)(e:Int):Sfe b J e x:=by
 have p:=((h.ch i g).all x d).1.1.1;have a:=W7 d;have A:=h.cnt (x % 32);have z:=bIG c g (x % 32);refine⟨λr o j=>?_,λv f=>⟨λm=>?_,λn l u t=>?_⟩⟩
 .have:ind b (x % 32)=0:=aO λq=>q.2 ⟨r,o,j ▸ p,by rw[j]⟩;omega
 .have:=W7 (TS h f m);grind[a70,aU8]
 .obtain⟨hk,_,_,y,_⟩:=(h.sb v f).rt n l;have s:x∈own (J v):=aIK _ (by
   simp_all[aMO,vA])
  have:=W7 s;grind[a70,aU8]
variable (hl:∀v,fQ v->LkJ k v (J v)) (hw:fQ w) (hc:O0 b.aD) (hJ:∀v,fQ v->(J v).bU=true->JB (J v)) (hB:(J w).bU=true)
include hl hw hc hJ hB
theorem bIJ(Q:2<=(J w).Pc/\(J w).Pc<=5)(e:j'=uZ j' j'.Code)(x:j'.Code=6\/j'.Code=7)(y:j'.gN=(J w).gN/\j'.cK=(J w).cK/\j'.aH=(J w).aH/\j'.Batch=(J w).Batch/\j'.At=(J w).At):sM Ky b k c (upQ q w n) (DA J w j'):=by
 have t:=h.tw w hw hB;have u:j'.Pc=16:=by rw[e];rfl
 have o:=LD (j:=J w) aa;obtain⟨I,H,G,F,E,D,C,B,A,s,r,p,m,l,i,g,f,d,a⟩:=t;have P:=wU (j:=j') aa;refine h.a1R hl hw hc hJ (q':=upQ q w n) (λv z=>aO z) (λ_ _=>rfl) aj aj (.inl aa) (λ_=>?_) (.no aa) (.no aa);obtain⟨O,N,M,L,K⟩:=y;constructor<;>grind
theorem bM7(G:2<=(J w).Pc/\(J w).Pc<=5):sM Ky b k c (upQ q w (qF Ky.length (q w) (J w))) (DA J w (i6 b k w (J w))):=by
 have t:=h.tw w hw hB;have M:=hJ w hw hB;have o:=LD (j:=J w) aa;have N:=t.hc G;generalize L:qF Ky.length (q w) (J w)=n;have ab:∀(j':aK),j'.gN=(J w).gN/\j'.cK=(J w).cK/\j'.aH=(J w).aH/\j'.Batch=(J w).Batch/\j'.At=(J w).At->∀x,x=6\/x=7->sM Ky b k c (upQ q w n) (DA J w (uZ j' x)):=λj' s x l=>bIJ h hl hw hc hJ hB (j':=uZ j' x) G rfl l s;have go:∀{j':aK},TW Ky b.Mem k c n j'->j'.Pc<=5->RdJ Ky b J w n j'->sM Ky b k c (upQ q w n) (DA J w j'):=λ{j'} t' Z B=>by have o':=LD (j:=j') aa;exact h.a1R hl hw hc hJ (q':=upQ q w n) (λv hv=>aO hv) (λ_ _=>rfl) aj aj (.inl aa) (λ_=>by simp_all[upQ]) (by simp_all[upQ]) (.no aa)
 have tw:∀{j':aK},2<=j'.Pc/\j'.Pc<=5->j'.gN=(J w).gN/\j'.cK=(J w).cK/\j'.aH=(J w).aH/\j'.Batch=(J w).Batch/\j'.At=(J w).At/\j'.Code=(J w).Code->TW Ky b.Mem k c n j':=λ{j'} Z ⟨s1,s2,s3,s4,s5,s6⟩=>by obtain⟨t1,t2,t3,t4,t5,t6,t7,t8,t9,X,W,V,U,T,S,R,Q,P,O⟩:=t;unfold wR at N;constructor<;>grind[wR]
 have i:=M.bkt;unfold i6;by_cases I:(J w).Pc=2
 .rw[aM I];split
  .grind
  .have f:=h.ch _ i;by_cases q:(eG k (J w).bZ).Head=0
   .rw[aM q];exact go (tw ae ⟨rfl,rfl,rfl,rfl,rfl,rfl⟩) ae (.no ae)
   .rw[aO q];refine go (tw ae ⟨rfl,rfl,rfl,rfl,rfl,rfl⟩) ae λ_ d=>?_;obtain⟨E,D⟩:=h.key _ i;have fr:=λx (l:x∈c (J w).bZ)=>h.free i l (dI b.aD w).aL
    match u:c (J w).bZ,f with
    |[],f=>exact absurd f q
    |x::r,f=>
     rw[u] at E D fr;have e:(eG k (J w).bZ).Head=x:=f.1;simp only[e];refine⟨r,⟨⟨f.rp,E,λy F=>(D y F).2,fr⟩,?_⟩,λz=>absurd z ae⟩;have:=BW E λy F=>(D y F).2;unfold nQ at this;rw[List.length_map,H8] at this;rw[<-L];unfold qF;grind
 rw[aO I];by_cases C:(J w).Pc=3
 .rw[aM C];refine go (tw ae ⟨rfl,rfl,rfl,rfl,rfl,rfl⟩) ae λ_ d=>?_;obtain⟨r,⟨a,K⟩,_⟩:=h.rd w hw (.inl C) d;refine⟨r,⟨a,by simp_all[qF]⟩,λ_=>?_⟩;simp only;rw[a1S a.rp.1];exact⟨⟨rfl,rfl⟩,a.rp.2.2.1⟩
 rw[aO C];by_cases m:(J w).Pc=4
 .rw[aM m];split
  .grind
  .rename_i p;have d:m6 b.aD w:=Classical.byContradiction p;obtain⟨r,⟨a,K⟩,a5⟩:=h.rd w hw (.inr m) d;obtain⟨_,a6⟩:=a5 m;by_cases q:(J w).Node.Key=(cZ (J w)).Key\/RO (J w).Node=0
   .rw[aM q];exact go (tw ae ⟨rfl,rfl,rfl,rfl,rfl,rfl⟩) ae (.no ae)
   .rw[aO q];refine go (tw ae ⟨rfl,rfl,rfl,rfl,rfl,rfl⟩) ae λ_ _=>?_;have hs:RO (J w).Node=(J w).Node.Next:=by simp_all[RO]
    rw[hs] at q ⊢;have hm:=a6.resolve_left λz=>q (.inr z);obtain⟨A,B,e1,e2⟩:=a.rp.2.2.2.from hm;have g:((J w).Node.Next::B).Sublist ((J w).H::r):=aj
    refine⟨B,⟨⟨e2,a.nd.sublist (g.map _),λx l=>a.ky x ((g.map _).subset l),λx l=>a.sf x (g.subset l)⟩,?_⟩,λz=>absurd z ae⟩;rw[e1,H7,H8] at K;rw[<-L];unfold qF;grind
 rw[aO m];split
 .grind
 split
 .grind
 have Y:TW Ky b.Mem k c n {J w with Reads:=(uS (J w).Reads (J w).bZ (J w).eW).1}:=tw G ⟨rfl,rfl,rfl,rfl,rfl,rfl⟩;obtain⟨a1,H⟩:=a73 Y (M.spt _ _ i) aj N (J w).Node.dP (J w).Found;exact go a1 (aQ8 (Int.le_of_eq H) aa) (.no ⟨λz=>absurd (H.symm.trans z) aa,λz=>absurd (H.symm.trans z) aa⟩)
theorem bM8(U:k.length=2)(g:(J w).Pc=7):sM Ky b (pU k w (J w)).1 c q (DA J w (pU k w (J w)).2.1):=by
 have t:=h.tw w hw hB;have p:=hJ w hw hB;have o:=wU (j:=J w) aa;have hk:=p.k;have f:=p.wr.2.1;have all:∀x∈(J w).aH,jN x.Key∈rO (J w).aH:=λx d=>bM6 d (f x d).1;obtain⟨R,Q,P,O,N,M,L,n,K,F,E,D,C,B,A,z,y,u,s⟩:=t;have fin:∀{k':ay} {j':aK},(∀i,oT i->(eG k' i).Head=(eG k i).Head)->TW Ky b.Mem k' c (q w) j'->j'.gN=(J w).gN->j'.Pc=7\/j'.Pc=8\/j'.Pc=16->sM Ky b k' c q (DA J w j'):=λ{k' j'} e H en S=>by have T:=wU (j:=j') aa;exact h.still hl hw hc hJ e aj aj (.inl aa) (λ_=>H) (.no aa) (.no aa)
 unfold pU;by_cases c1:(J w).K<(rO (J w).aH).length
 .rw[aM c1];have m:(J w).K.toNat<(rO (J w).aH).length:=aa
  have I:gK (J w)=(rO (J w).aH)[(J w).K.toNat]:=by grind[gK]
  have G:0<=gK (J w)/\gK (J w)<=1:=by have:=YS (cQ m);omega
  split
  .exact fin (λ_ _=>rfl) (by unfold uZ;constructor<;>grind) rfl (.inr (.inr rfl))
  split
  .exact fin (λ_ _=>rfl) (by unfold uZ;constructor<;>grind) rfl (.inr (.inr rfl))
  have r:∀i,oT i->(eG (k.set (gK (J w)).toNat {eG k (gK (J w)) with eU:=w+1}) i).Head=(eG k i).Head:=λi m=>by grind[tC]
  have l:∀x∈(rO (J w).aH).take ((J w).K+1).toNat,x∈(MR (J w)).bH:=λx d=>by rw[show((J w).K+1).toNat=(J w).K.toNat+1 by omega,N5 m,dR,jQ,<-I] at d;have a:=n g;unfold MR;grind
  split
  .rename_i V;refine fin r ?_ rfl (.inr (.inl rfl));rw[aM1 aa] at l;have hh:∀x∈(J w).aH,jN x.Key∈(MR (J w)).bH:=λx d=>l _ (all x d);unfold MR at hh ⊢;constructor<;>grind
  .refine fin r ?_ rfl (.inl g);unfold MR at l ⊢;constructor<;>grind
 .rw[aO c1];refine fin (λ_ _=>rfl) ?_ rfl (.inr (.inl rfl));have a:=n g;rw[aM1 aa] at a;constructor<;>grind
theorem bCY(u:k.length=2)(B:(J w).Pc=14\/(J w).Pc=16):sM Ky b (DX k (J w)).1 c q (DA J w (DX k (J w)).2):=by
 have t:=h.tw w hw hB;have m:=hJ w hw hB;have hk:=m.k;have tw:∀{k':ay} {p:Int} {j':aK},(p=(J w).Pc\/p=17/\(J w).Pc=16\/p=15/\(J w).Pc=14)->j'.Pc=p->j'.gN=(J w).gN/\j'.cK=(J w).cK/\j'.aH=(J w).aH/\j'.Batch=(J w).Batch/\j'.At=(J w).At/\j'.Code=(J w).Code->TW Ky b.Mem k' c (q w) j':=λ{k' p j'} o ep ⟨s1,s2,l,g,j,A⟩=>by
  have q:j'.Pc=14\/j'.Pc=15\/j'.Pc=16\/j'.Pc=17:=aa
  have f:j'.Code=0/\j'.Pc≠16/\j'.Pc≠17\/(j'.Code=3\/j'.Code=6\/j'.Code=7)/\16<=j'.Pc/\j'.Pc<=19:=by have:=t.cd;omega
  refine⟨aa,λx=>aa,λx=>by rw[s2];exact t.oO aa,λx=>aa,by rw[l,j];exact t.wl,λx=>aa,λx=>aa,λx=>aa,λx=>aa,λx=>aa,λx=>aa,λx=>aa,λx=>aa,λx=>aa,f,λx _=>by rw[j,g];exact t.at_ aa aa,λx=>?_,λx=>aa,by rw[l,g];exact t.ky⟩;have:=t.cl (by rw[<-g];exact x);omega
 unfold DX;by_cases c1:0<(J w).bH.length
 .rw[aM c1];have z:zO (J w)=(J w).bH[0]:=by unfold zO;simp[DY,iS c1]
  have d:=m.held.1 _ (show zO (J w)∈(J w).bH by rw[z];exact cQ c1);refine h.still hl hw hc hJ (λi r=>?_) rfl (λ_ x=>x) (.inl ?_) (λ_=>tw (.inl rfl) rfl ⟨rfl,rfl,rfl,rfl,rfl,rfl⟩) (.no (by simp only;omega)) (.no (by simp only;omega))
  .rw[tC u d r];split
   .rename_i e;subst e;split<;>rfl
   .rfl
  .simp only;omega
 .rw[aO c1];split
  .rename_i e;exact h.still hl hw hc hJ (λ_ _=>rfl) (by grind[wU]) (by simp_all[wU]) (.inl ae) (λ_=>tw (.inr (.inl ⟨rfl,e⟩)) rfl ⟨rfl,rfl,rfl,rfl,rfl,rfl⟩) (.no ae) (.no ae)
  .rename_i e;have a:(J w).Pc=14:=aa
   have n:own (J w)=(J w).cK/\lK (J w)=[]:=by grind[own,lK,aMO]
   have fin:∀s:Sub,TW Ky b.Mem k c (q w) {J w with Pc:=15,K:=0,Sub:=s}:=λs=>tw (.inr (.inr ⟨rfl,a⟩)) rfl ⟨rfl,rfl,rfl,rfl,rfl,rfl⟩;unfold OZ;by_cases q:(0:Int)<(J w).cK.length
   .rw[aM q];exact h.still hl hw hc hJ (λ_ _=>rfl) (by grind[own,lK,aMO]) (by simp[lK]) (.inr (by simp[C7])) (λ_=>fin _) (.no ae) ⟨λp=>absurd p ae,λ_ _=>⟨O1 _,rfl,rfl,rfl,.inl rfl⟩,λp=>absurd p ae⟩
   .rw[aO q];exact h.quiet hl hw hc hJ (cl:=b.aD) (λ_ _=>rfl) (by grind[own,lK,aMO]) (by simp[lK]) (λ_ y=>absurd y q) (λ_ _ _ p=>⟨p,rfl⟩) (O1 _) (λ_=>fin _) (.no ae) ⟨λp=>absurd p ae,λ_ y=>absurd y q,λp=>absurd p ae⟩
theorem aFD{cl:aD}(e:(J w).Pc<6\/18<=(J w).Pc)(d:(j'.Pc<6\/18<=j'.Pc)/\j'.Pc≠3/\j'.Pc≠4)(pin:∀v,fQ v->v≠w->m6 cl v->m6 b.aD v/\(dI cl v).aL=(dI b.aD v).aL)(ep:b.aD.aL<=cl.aL)
  (a:j'.bU=true->TW Ky b.Mem k c (q w) j') (col:j'.Pc=21->bM4 cl.aL (dU b.aQ w) j'.Sub):sM Ky {b with aD:=cl} k c q (DA J w j'):=by have o:=LD e;have f:=LD d.1;exact h.quiet hl hw hc hJ (λ_ _=>rfl) aj aj (λp=>aa) pin ep a (.no aa) ⟨λp=>aa,λp=>aa,col⟩
theorem bIK(E:(J w).Pc=18):sM Ky {b with aD:=(PR b.aD w).1} k c q (DA J w {J w with Pc:=19}):=by obtain⟨F,s⟩:=a4W hc hw;refine aFD h hl hw hc hJ hB aa ae (λv o r p=>aY8 (s v o r) p) aa (λ_=>?_) ae;obtain⟨D,C,B,A,z,y,x,u,t,n,m,l,j,i,g,f,e,d,a⟩:=h.tw w hw hB;constructor<;>grind
theorem bM9(a:(J w).Pc=19):sM Ky b k c q (DA J w cM):=aFD h hl hw hc hJ hB (cl:=b.aD) aa (by simp[cM]) (λ_ _ _ p=>⟨p,rfl⟩) (O1 _) (λq=>by cases q) (by simp[cM])
theorem bIL(G:(J w).Pc=0)(t:j'={J w with Sub:=(C6 b w (J w).Sub).2}\/j'={J w with Pc:=1,Sub:=(C6 b w (J w).Sub).2}):sM Ky (C6 b w (J w).Sub).1 k c q (DA J w j'):=by obtain⟨cl,e,H,u⟩:=a71 hc hw (J w).Sub;rw[e];refine aFD h hl hw hc hJ hB aa aj (λv r s p=>aY8 (u v r s) p) aa (λ_=>?_) aj;obtain⟨F,E,D,C,B,A,z,y,x,o,n,m,l,j,i,g,f,d,a⟩:=h.tw w hw hB;obtain rfl|rfl:=t<;>constructor<;>grind
theorem bIM(G:(J w).Pc=20)(s:j'={J w with Sub:=(fP b (J w).Sub).2}\/j'={J w with Pc:=21,Sub:=C7 4 0}):sM Ky (fP b (J w).Sub).1 k c q (DA J w j'):=by obtain⟨cl,e,u,t⟩:=a72 hc (J w).Sub;rw[e];refine aFD h hl hw hc hJ hB aa aj (λv r H p=>t v r p) u (λ_=>?_) (by grind[bM4,C7]);obtain⟨F,E,D,C,B,A,z,y,x,o,n,m,l,j,i,g,f,d,a⟩:=h.tw w hw hB;obtain rfl|rfl:=s<;>constructor<;>grind
omit hB in
theorem a4Y(hn:J w=cM){x:Batch}(e:∀q∈x.bR,q.Key∈Ky)(s:Int):sM Ky b k c q (DA J w (jZ x s)):=by
 have o:own (J w)=[]/\lK (J w)=[]:=LD (by rw[hn];exact .inl ai);have a:(jZ x s).Pc=0\/(jZ x s).Pc=20:=by grind[jZ]
 have d:=LD (j:=jZ x s) aa;refine h.still hl hw hc hJ (λ_ _=>rfl) aj aj (.inl aa) (λ_=>?_) (.no aa) (.no aa);unfold jZ at a ⊢;constructor<;>grind
end
def aFE{h g:Int}(a:m5 m h)(b:m5 m g)(e:h % 32=g % 32):h=g:=by have d:=a.2.2;have c:=b.2.2;grind
def aVA{l:bn}(hl:sI l)(c:fQ w):∃A B,cE l=A++(dU l w++B)/\∀r,cE (l.set w.toNat ⟨r⟩)=A++(r++B):=by
 have d:=hl.1;have b:w.toNat<l.length:=aa
 have a:l[w.toNat].Rows=dU l w:=by have:=TN hl c;grind[iD]
 exact⟨_,_,by grind[OW],λr=>RY b _⟩
def aIF{l:bn}(c:l.length=3){v:Int}(a:fQ w)(b:fQ v)(hn:v≠w)(x:b7):dU (l.set w.toNat x) v=dU l v:=by unfold dU;grind
def bRO{b:aA}(c:eZ b.Mem s=3)(a:¬bH b.aQ s):ind b s=1:=aM ⟨c,a⟩
theorem aAN{b:aA}(h:eZ b.Mem s≠3\/bH b.aQ s):ind b s=0:=aO λq=>h.elim (λa=>a q.1) q.2
def aVB{b b':aA}(c:eZ b'.Mem s=3↔eZ b.Mem s=3)(a:bH b'.aQ s↔bH b.aQ s):ind b' s=ind b s:=by grind[ind]
section
variable {Ky:an} {b:aA} {k:ay} {c:Int->an} {q:Int->Nat} {J:Int->aK} {w:Int} (h:sM Ky b k c q J) (hl:∀v,fQ v->LkJ k v (J v)) (hw:fQ w) (hb:lR b) (hJ:∀v,fQ v->(J v).bU=true->JB (J v)) (hB:(J w).bU=true)
include h hl hw hb hJ hB
theorem bIN(a:(J w).Pc=6):sM Ky (yE b w (J w)).1 k c q (DA J w (yE b w (J w)).2):=by
 have t:=h.tw w hw hB;have I:=hJ w hw hB;have hc:=hb.1.2.1;have o:=wU (j:=J w) aa;obtain⟨U,T,S,R⟩:=(h.sb w hw).al a;have hk:=I.k;have m:=t.n6 a;have pl:=YW (J w).aH (J w).aH.length;have Q:=I.wr.1;have tw:∀{j':aK},(j'.Pc=6/\(j'.gN.length:Int)=j'.K/\j'.K<=gG (J w).aH (J w).aH.length/\j'.Code=(J w).Code\/j'.Pc=7/\j'.K=0/\(j'.gN.length:Int)=gG (J w).aH (J w).aH.length/\j'.Code=(J w).Code\/j'.Pc=16/\j'.Code=3)->j'.cK=(J w).cK/\j'.aH=(J w).aH/\j'.Batch=(J w).Batch/\j'.At=(J w).At->TW Ky b.Mem k c (q w) j':=λ{j'} q ⟨O,N,M,L⟩=>by
  have c6:(J w).Code=0:=by have:=t.cd;omega
  refine⟨aa,λx=>aa,λx=>by rw[O];exact t.oO aa,λx=>aa,by rw[N,L];exact t.wl,λx=>aj,λx=>⟨aj,λy=>aa⟩,λx=>?_,λx=>aa,λx=>aa,λx=>aa,λx=>aa,λx=>aa,λx=>aa,aa,λx _=>by rw[L,M];exact t.at_ c6 aa,λx=>?_,λx=>aa,by rw[N,M];exact t.ky⟩
  .simp_all
  .have:=t.cl aj;omega
 unfold yE;by_cases c1:gG (J w).aH (J w).aH.length<=(J w).K
 .rw[aM c1];refine h.still hl hw hc hJ (λ_ _=>rfl) ?_ ?_ (.inl ae) (λ_=>tw (.inr (.inl ⟨rfl,rfl,by simp only;omega,rfl⟩)) ⟨rfl,rfl,rfl,rfl⟩) (.no ae) (.no ae)
  .rw[o.1,(wU ae).1]
  .rw[o.2,(wU ae).2];exact λ_ x=>x
 rw[aO c1];obtain⟨X,A,G,W⟩:=aQ1 hb.1.1 hw U T S R;have H:∀{j':aK},(iV b w (J w).Sub).1.Mem=b.Mem->j'.gN=(J w).gN->j'.Pc=6\/j'.Pc=16->TW Ky b.Mem k c (q w) j'->SbJ b w j'->sM Ky (iV b w (J w).Sub).1 k c q (DA J w j'):=λ{j'} em en p' D V=>by
  have eb:(iV b w (J w).Sub).1=b:=by
   cases hh:(iV b w (J w).Sub).1 with
   |mk C F a3 a4=>
    simp_all
  rw[eb];have B:=wU (j:=j') aa;exact h.still hl hw hc hJ (λ_ _=>rfl) aj aj (.inl aa) (λ_=>D) (.no aa) V
 obtain⟨em,⟨d,e⟩|⟨e1,O⟩⟩|⟨d,e,wk,g,kn⟩:=W
 .rw[aO aj,aM (.inl aa),e];exact H em rfl (.inr rfl) (tw (.inr (.inr ⟨rfl,rfl⟩)) ⟨rfl,rfl,rfl,rfl⟩) (.no (by simp[uZ]))
 .rw[aM aj];exact H em rfl (.inl a) (tw (.inl ⟨a,m.1,m.2,rfl⟩) ⟨rfl,rfl,rfl,rfl⟩) ⟨λ_=>aj,by simp[a],by simp[a]⟩
 .rw[aO aj,aO (by
   rintro(q|q|q)
   .exact q e
   .exact q wk.1.1
   .omega)]
  generalize hx:(iV b w (J w).Sub).2.Out=x at wk g;generalize E:(iV b w (J w).Sub).1=b' at X A G kn wk g;show sM Ky b' k c q (DA J w {J w with gN:=(J w).gN++[x],K:=(J w).K+1,Sub:=C7 1 16});have P:=(sZ (eC wk.1.2.1)).1;have D:TW Ky b.Mem k c (q w) {J w with gN:=(J w).gN++[x],K:=(J w).K+1,Sub:=C7 1 16}:=tw (.inl ⟨a,ah,aj,rfl⟩) ⟨rfl,rfl,rfl,rfl⟩;have B:=wU (j:={J w with gN:=(J w).gN++[x],K:=(J w).K+1,Sub:=C7 1 16}) (.inl aj);have oth:Oth b b' k k c c J w {J w with gN:=(J w).gN++[x],K:=(J w).K+1,Sub:=C7 1 16} 0 (-1):=by
   refine⟨λy f hz=>?_,.inl rfl,.inl rfl,λ_ _ _=>⟨rfl,rfl⟩,.inl rfl,λr E=>.inl aj,λy f=>?_,λz=>absurd z (by simp[a]),λv hv hn p=>aj,aj,λ_ _ _=>by rw[A]⟩
   .obtain⟨C,F⟩:=kn y f hz;exact⟨C,λ_=>F⟩
   .rw[B.2] at f;obtain f|f:=dR.1 f
    .grind
    .exact .inr (by rw[jQ.1 f];exact g.was)
  have n:=λi (l:oT i)=>(oth.chn h hw l (λq=>((h.ch i l).all 0 q).1.ne rfl)).2 rfl rfl;refine h.make hl hw hc hJ oth G (λi l=>(n i l).1) (λi l=>by rw[(n i l).2];exact h.key i l) (λs=>?_) (λy f=>?_) (λ_=>?_) (.no (by simp[a])) ⟨λ_=>by simp[C7],by simp[a],by simp[a]⟩
  .have u:=aEN (J:=J) hw {J w with gN:=(J w).gN++[x],K:=(J w).K+1,Sub:=C7 1 16} s;rw[o.1,B.1,aAM,VU,bIE] at u;have u2:=h.cnt s;by_cases q:x % 32=s
   .rw[aM q] at u;have C:ind b s=0:=aAN (.inl (by rw[<-q];exact g.was));have F:ind b' s=1:=bRO (by rw[<-q];exact g.now) (by
     rw[A,<-q];rintro⟨r,E,hh,Z⟩;exact g.was (by rw[<-Z];exact(hb.2 r E).1.2.1))
    omega
   .rw[aO q] at u;have C:ind b' s=ind b s:=aVB (g.rest s λe=>q e.symm) (by rw[A]);omega
  .rw[B.1] at f;obtain f|f:=dR.1 f
   .have Y:y∈own (J w):=aj
    have w0:=h.ok w hw y Y;exact(kn y w0 aa).1
   grind
  .exact{D with st:=λq=>absurd q (by simp[a]),cu:=λq=>absurd q (by simp[a]),fl:=λq=>absurd q (by simp[a]),ln:=λq=>absurd q (by simp[a])}
end
def bOZ{z:an}(h:z=[0,0,0]){v:Int}(a:fQ v):bAC z v=0:=by subst h;rcases(by omega:v=0\/v=1\/v=2) with rfl|rfl|rfl<;>rfl
section
variable {Ky:an} {b:aA} {k:ay} {c:Int->an} {q:Int->Nat} {J:Int->aK} {w:Int} (h:sM Ky b k c q J) (hl:∀v,fQ v->LkJ k v (J v)) (hw:fQ w) (hb:lR b) (hJ:∀v,fQ v->(J v).bU=true->JB (J v)) (hB:(J w).bU=true)
include h hl hw hb hJ hB
theorem bCZ(d:(J w).Pc=15):sM Ky (HC b w (J w)).1 k c q (DA J w (HC b w (J w)).2):=by
 have t:=h.tw w hw hB;have U:=hJ w hw hB;have hc:=hb.1.2.1;have hk:=U.k;have S:∀{j':aK},j'.Pc=15->own j'=j'.cK.drop j'.K.toNat/\lK j'=[]:=λ{j'} q=>by simp[own,lK,aMO,q]
 have tw:∀{j':aK},j'.Pc=15\/j'.Pc=18->j'.aH=(J w).aH/\j'.Batch=(J w).Batch/\j'.At=(J w).At/\j'.Code=(J w).Code->TW Ky b.Mem k c (q w) j':=λ{j'} q ⟨G,F,E,e6⟩=>by have cd:=t.cd;refine⟨aa,λx=>aa,λx=>aa,λx=>aa,by rw[G,E];exact t.wl,λx=>aa,λx=>aa,λx=>aa,λx=>aa,λx=>aa,λx=>aa,λx=>aa,λx=>aa,λx=>aa,aa,λx _=>by rw[E,F];exact t.at_ aa aa,λx=>?_,λx=>aa,by rw[G,F];exact t.ky⟩;have:=t.cl aj;omega
 unfold HC;by_cases c1:((J w).cK.length:Int)<=(J w).K
 .rw[aM c1];have o2:own {J w with Pc:=18}=[]/\lK {J w with Pc:=18}=[]:=LD (.inr ae);exact h.still hl hw hc hJ (λ_ _=>rfl) (by simp_all) aj (.inl ae) (λ_=>tw (.inr rfl) ⟨rfl,rfl,rfl,rfl⟩) (.no ae) (.no ae)
 rw[aO c1];obtain⟨s0,N,j,M,L⟩:=(h.sb w hw).rt d aa;have X:iV b w (J w).Sub=wQ b w (J w).Sub:=by grind[iV]
 rw[X];have V:(J w).K.toNat<(J w).cK.length:=aa
 have eA:(J w).Sub.A=(J w).cK[(J w).K.toNat]:=aj
 have Y:own (J w)=(J w).Sub.A::(J w).cK.drop ((J w).K.toNat+1):=by simp_all
 have o:(J w).Sub.A∈own (J w):=aj
 have n:=h.name hw hw o;have D:=h.ok w hw _ o;have H:ind b ((J w).Sub.A % 32)=1:=aa
 have W:¬bH b.aQ ((J w).Sub.A % 32):=λq=>by grind[aAN]
 unfold wQ;obtain R|⟨Q,e0,Z⟩:=L
 .rw[aM R,aO (by simp[j])];refine h.quiet hl hw hc hJ (cl:=b.aD) (λ_ _=>rfl) rfl (λ_ x=>x) (λ_ _ _=>.inl rfl) (λ_ _ _ p=>⟨p,rfl⟩) (O1 _) (λ_=>tw (.inl d) ⟨rfl,rfl,rfl,rfl⟩) (.no (by simp[d])) ⟨λp=>absurd p (by simp[d]),λ_ _=>⟨s0,N,j,M,.inr ⟨rfl,hc.1.1,O1 _⟩⟩,λp=>absurd p (by simp[d])⟩
 .rw[iB,aM Q,aM ⟨e0,Z⟩,aM ⟨D.1,W⟩,aM ak];have C:=hb.1.2.2.1;obtain⟨A,B,f1,f2⟩:=aVA C hw;have g:∀r,r∈cE (b.aQ.set w.toNat ⟨dU b.aQ w++[⟨(J w).Sub.A,(J w).Sub.E⟩]⟩)↔r∈cE b.aQ\/r=⟨(J w).Sub.A,(J w).Sub.E⟩:=λr=>aj
  have fin:∀{j':aK},j'.Pc=15->j'.K=(J w).K+1->j'.cK=(J w).cK->j'.aH=(J w).aH/\j'.Batch=(J w).Batch/\j'.At=(J w).At/\j'.Code=(J w).Code->(j'.K<j'.cK.length->j'.Sub.Pc=0)->SbJ {b with aQ:=b.aQ.set w.toNat ⟨dU b.aQ w++[⟨(J w).Sub.A,(J w).Sub.E⟩]⟩} w j' ->
    sM Ky {b with aQ:=b.aQ.set w.toNat ⟨dU b.aQ w++[⟨(J w).Sub.A,(J w).Sub.E⟩]⟩} k c q (DA J w j'):=λ{j'} l q2 q3 P q5 O=>by
   have o':=S l;have f:own j'=(J w).cK.drop ((J w).K.toNat+1):=by(simp_all;omega)
   refine h.make hl hw hc hJ (y:=0) (z:=-1) ⟨λx m _=>⟨m,λ_=>rfl⟩,.inl rfl,.inl rfl,λi V _=>⟨rfl,rfl⟩,.inl rfl,λr e=>?_,aj,λ_ x z=>aa,λ_ _ _ p=>⟨p,rfl⟩,O1 _,λv T n=>aIF C.1 hw T n _⟩ rfl h.ch h.key (λs=>?_) (λx m=>h.ok w hw x aj) (λ_=>tw (.inl l) P) (.no aa) O
   .grind
   .have u:=aEN (J:=J) hw j' s;rw[Y,f,VU] at u;have u2:=h.cnt s;by_cases q:(J w).Sub.A % 32=s
    .rw[aM q] at u;have a2:ind {b with aQ:=b.aQ.set w.toNat ⟨dU b.aQ w++[⟨(J w).Sub.A,(J w).Sub.E⟩]⟩} s=0:=aAN (.inr ⟨⟨(J w).Sub.A,(J w).Sub.E⟩,(g _).2 (.inr rfl),D.1.1,q⟩);grind
    .rw[aO q] at u;have a2:ind {b with aQ:=b.aQ.set w.toNat ⟨dU b.aQ w++[⟨(J w).Sub.A,(J w).Sub.E⟩]⟩} s=ind b s:=aVB Iff.rfl ⟨λ⟨r,e,K,I⟩=>by
      rcases(g r).1 e with a|rfl
      .exact⟨r,a,K,I⟩
      grind,λ⟨r,e,x⟩=>⟨r,(g r).2 (.inl e),x⟩⟩
     omega
  unfold OZ;by_cases q:(J w).K+1<(J w).cK.length
  .rw[aM q];exact fin d rfl rfl ⟨rfl,rfl,rfl,rfl⟩ (λ_=>rfl) ⟨λp=>absurd p (by simp[d]),λ_ _=>⟨aj,rfl,rfl,rfl,.inl rfl⟩,λp=>absurd p (by simp[d])⟩
  .rw[aO q];exact fin d rfl rfl ⟨rfl,rfl,rfl,rfl⟩ (λx=>absurd x q) ⟨λp=>absurd p (by simp[d]),λ_ x=>absurd x q,λp=>absurd p (by simp[d])⟩
theorem bNA(f:(J w).Pc=17):sM Ky (HD b w (J w)).1 k c q (DA J w (HD b w (J w)).2):=by
 have t:=h.tw w hw hB;have R:=hJ w hw hB;have hc:=hb.1.2.1;have o:=wU (j:=J w) (.inr (.inr f));have tw:∀{m':Mem} {j':aK},j'.Pc=17\/j'.Pc=18->j'.cK=(J w).cK/\j'.aH=(J w).aH/\j'.Batch=(J w).Batch/\j'.At=(J w).At/\j'.Code=(J w).Code->TW Ky m' k c (q w) j':=λ{m' j'} q ⟨O,F,N,M,T⟩=>by have cd:=t.cd;refine⟨aa,λx=>aa,λx=>by rw[O];exact t.oO aa,λx=>aa,by rw[F,M];exact t.wl,λx=>aa,λx=>aa,λx=>aa,λx=>aa,λx=>aa,λx=>aa,λx=>aa,λx=>aa,λx=>aa,aa,λx _=>aa,λx=>?_,λx=>aa,by rw[F,N];exact t.ky⟩;have:=t.cl aj;omega
 unfold HD;by_cases c1:(J w).gN.length=0
 .rw[aM c1];have U:=vB c1;have P:own {J w with Pc:=18}=[]/\lK {J w with Pc:=18}=[]:=LD (.inr ae);exact h.still hl hw hc hJ (λ_ _=>rfl) aj aj (.inl ae) (λ_=>tw (.inr rfl) ⟨rfl,rfl,rfl,rfl,rfl⟩) (.no ae) (.no ae)
 rw[aO c1]
 match E:(J w).gN,c1 with
 |x::r,_=>
 have A:x∈own (J w):=aj
 have l:=h.ok w hw x A;have D:=h.name hw hw A;have H:ind b (x % 32)=1:=aa
 have L:¬bH b.aQ (x % 32):=λq=>by grind[aAN]
 show sM Ky (if bH b.aQ (x % 32) then b else {b with Mem:=a39 b.Mem w x}) k c q (DA J w {J w with gN:=r});rw[aO L];unfold a39;rw[aM l.1];have kn:=aQ0 hb.1.1 hw l.1;have C:own {J w with gN:=r}=r/\lK {J w with gN:=r}=r:=wU (j:={J w with gN:=r}) (.inr (.inr f));have oth:Oth b {b with Mem:=rR b.Mem w x} k k c c J w {J w with gN:=r} 0 (x % 32):=⟨λy a hz=>⟨(kn y a hz).1,λ_=>(kn y a hz).2⟩,.inr (.inr ⟨x,A,rfl⟩),.inl rfl,λ_ _ _=>⟨rfl,rfl⟩,.inr λv Q D G B y a n e=>by
   have:=aFE a.1 l.1 e;subst this;exact(n.2 w hw).1 aj,λr K=>.inl K,λy a=>.inl aj,λz=>absurd z (by simp[f]),λ_ _ _ p=>⟨p,rfl⟩,O1 _,λ_ _ _=>rfl⟩
 have g:=λi (d:oT i)=>(oth.chn h hw d (λq=>((h.ch i d).all 0 q).1.ne rfl)).2 rfl rfl;have I:∀s,s≠x % 32->eZ (rR b.Mem w x) s=eZ b.Mem s:=λs n=>aU5 hb.1.1 hw l.1 n;have S:=(aIE hb.1.1 hw l.1).2.2.2;refine h.make hl hw hc hJ oth rfl (λi d=>(g i d).1) (λi d=>by rw[(g i d).2];exact h.key i d) (λs=>?_) (λy a=>?_) (λ_=>tw (.inl f) ⟨rfl,rfl,rfl,rfl,rfl⟩) (.no (by simp[f])) (.no (by simp[f]))
 .have u:=aEN (J:=J) hw {J w with gN:=r} s;rw[o.1,C.1,E,VU] at u;have u2:=h.cnt s;by_cases q:x % 32=s
  .rw[aM q] at u;grind[aAN]
  .rw[aO q] at u;have V:ind {b with Mem:=rR b.Mem w x} s=ind b s:=aVB aj Iff.rfl;omega
 .rw[C.1] at a;have m:y∈own (J w):=aj
  refine(kn y (h.ok w hw y m) λe=>?_).1;have u:=D.1;have:2<=csL (own (J w)) (x % 32):=by rw[o.1,E,VU,aM rfl];grind[W7]
  omega
theorem aVC(hE:∀v,fQ v->(J v).Pc=3\/(J v).Pc=4->m6 b.aD v->b.aD.aL<=(dI b.aD v).aL+1)(hp:(J w).Pc=21)(hj':(dD b w (J w).Sub).2.iE=true/\j'={J w with Pc:=19,Sub:=(dD b w (J w).Sub).2}\/(dD b w (J w).Sub).2.iE=false/\j'={J w with Sub:=(dD b w (J w).Sub).2}) :
  sM Ky (dD b w (J w).Sub).1 k c q (DA J w j')/\((dD b w (J w).Sub).2.iE=true->(dD b w (J w).Sub).2.Code=0):=by
 have t:=h.tw w hw hB;have hc:=hb.1.2.1;have W:=hb.1.2.2.1;obtain⟨V,U,s3⟩:=(h.sb w hw).col hp;have p':j'.Pc=19\/j'.Pc=21:=aj
 have tw:∀{m':Mem},TW Ky m' k c (q w) j':=λ{m'}=>by
  obtain⟨e1,e2,e3,e4,e5,e6⟩:j'.gN=(J w).gN/\j'.cK=(J w).cK/\j'.aH=(J w).aH/\j'.Batch=(J w).Batch/\j'.At=(J w).At/\j'.Code=(J w).Code:=aj
  have cd:=t.cd;have at0:=t.at_;have M:=t.cl2 (.inr hp);have N:=(hJ w hw hB).bat;have O:=(hJ w hw hB).at_;have hcm:=N.1 M;rw[hcm] at O;simp only[List.length_nil] at O;refine⟨aa,λx=>by rw[e1];exact t.nO aa,λx=>by rw[e2];exact t.oO aa,λx=>aa,by rw[e3,e5];exact t.wl,λx=>aa,λx=>aa,λx=>aa,λx=>aa,λx=>aa,λx=>aa,λx=>aa,λx=>aa,λx=>aa,aa,λx _=>aj,λx=>aa,λx=>aj,by rw[e3,e4];exact t.ky⟩
 have o:=LD (j:=J w) (.inr aa);have o':=LD (j:=j') (.inr aa);have still:(dD b w (J w).Sub).1=b->(j'.Pc=21->bM4 b.aD.aL (dU b.aQ w) j'.Sub)->sM Ky (dD b w (J w).Sub).1 k c q (DA J w j'):=λe q=>by rw[e];exact h.still hl hw hc hJ (λ_ _=>rfl) aj aj (.inl aa) (λ_=>tw) (.no aa) ⟨λp=>aa,λp=>aa,q⟩
 have a:j'.Sub=(dD b w (J w).Sub).2:=aj
 have nd:j'.Pc=21->(dD b w (J w).Sub).2.iE=false:=λq=>aj
 have n:∀{i:Int},0<=i/\i<(dU b.aQ w).length->RL (dU b.aQ w) i∈cE b.aQ:=λd=>VR W hw (aKM d);obtain p0|⟨el,⟨p1,r0⟩|⟨p2,Q,f,K⟩|⟨p3,f,K⟩⟩:=s3
 .have e:dD b w (J w).Sub=(b,{(J w).Sub with Pc:=1,E:=b.aD.aL,Row:=0}):=by simp_all[dD]
  refine⟨still (by rw[e]) λq=>?_,λq=>aj⟩;rw[a,e];exact⟨V,U,.inr ⟨O1 _,.inl ⟨rfl,O1 _⟩⟩⟩
 .by_cases q:uT (dU b.aQ w) (J w).Sub.E (J w).Sub.Row.toNat<(dU b.aQ w).length
  .have e:dD b w (J w).Sub=(b,{(J w).Sub with Pc:=2,Row:=(uT (dU b.aQ w) (J w).Sub.E (J w).Sub.Row.toNat:Int),B:=0,H:=(RL (dU b.aQ w) (uT (dU b.aQ w) (J w).Sub.E (J w).Sub.Row.toNat:Int)).Handle}):=by simp_all[dD]
   obtain⟨g1,g2⟩:=a7J q;refine⟨still (by rw[e]) λ_=>?_,λz=>aj⟩;rw[a,e];refine⟨V,U,.inr ⟨el,.inr (.inl ⟨rfl,⟨O1 _,ae⟩,⟨ae,aj,rfl⟩,?_⟩)⟩⟩;grind[a4Q]
  simp_all[dD,BS,aO]
 .have hH:(J w).Sub.H≠0:=by have:=(hb.2 _ (n ⟨f.1,f.2.1⟩)).1.1;rw[f.2.2] at this;grind[lJ]
  have e:dD b w (J w).Sub=(b,{(J w).Sub with Pc:=if(J w).Sub.B=2 then 3 else 2,B:=(J w).Sub.B+1}):=by unfold dD;rw[iB,iB,aM p2,aM ⟨Q,f⟩,aO (by rw[bOZ h.hz Q];omega)]
  refine⟨still (by rw[e]) λ_=>?_,λz=>aj⟩;rw[a,e];refine⟨V,U,.inr ⟨el,.inr ?_⟩⟩;by_cases z:(J w).Sub.B=2
  .exact .inr ⟨aM z,f,K⟩
  .exact .inl ⟨aO z,aj,f,K⟩
 .have e:dD b w (J w).Sub=({b with Mem:=rR b.Mem w (J w).Sub.H,aQ:=b.aQ.set w.toNat ⟨(dU b.aQ w).eraseIdx (J w).Sub.Row.toNat⟩},{(J w).Sub with Pc:=1,Out:=aZ ((J w).Sub.Out+1)}):=by simp_all[dD]
  refine⟨?_,λz=>aj⟩;have d:0<=(J w).Sub.Row/\(J w).Sub.Row<(dU b.aQ w).length:=⟨f.1,f.2.1⟩;have g:=n d;generalize X:RL (dU b.aQ w) (J w).Sub.Row=r at g K;have eH:r.Handle=(J w).Sub.H:=by rw[<-X];exact f.2.2
  have S:=(hb.2 r g).1;rw[<-eH] at e;have P:bH b.aQ (r.Handle % 32):=⟨r,g,S.1,rfl⟩;have hil:(J w).Sub.Row.toNat<(dU b.aQ w).length:=aa
  have er:(dU b.aQ w)[(J w).Sub.Row.toNat]=r:=by grind[a4Q]
  obtain⟨A,B,f1,f2⟩:=aVA W hw;have C:=aUG hil;rw[er] at C;have l:(cE b.aQ).Perm (r::cE (b.aQ.set w.toNat ⟨(dU b.aQ w).eraseIdx (J w).Sub.Row.toNat⟩)):=aj
  have Z:=(l.map pC).nodup_iff.1 W.2.2.2;rw[LM,aF9] at Z;have D:∀s,s≠r.Handle % 32->(bH (b.aQ.set w.toNat ⟨(dU b.aQ w).eraseIdx (J w).Sub.Row.toNat⟩) s↔bH b.aQ s):=λs T=>⟨λ⟨x,I,y⟩=>⟨x,l.mem_iff.2 (lZ _ I),y⟩,λ⟨x,I,y⟩=>⟨x,(lO.1 (l.mem_iff.1 I)).resolve_left λq=>T aj,y⟩⟩;have kn:=aQ0 hb.1.1 hw S;have fst:∀s,s≠r.Handle % 32->eZ (rR b.Mem w r.Handle) s=eZ b.Mem s:=λs T=>aU5 hb.1.1 hw S T;have fz:=(aIE hb.1.1 hw S).2.2.2;have hrip:r.aL<=(J w).Sub.E-2:=by have:=K.2;rw[cC (by have:=K.1;omega) (by have:=hc.1.2;omega)] at this;exact this
  rw[e];show sM Ky {b with Mem:=rR b.Mem w r.Handle,aQ:=b.aQ.set w.toNat ⟨(dU b.aQ w).eraseIdx (J w).Sub.Row.toNat⟩} k c q (DA J w j');generalize m:({b with Mem:=rR b.Mem w r.Handle,aQ:=b.aQ.set w.toNat ⟨(dU b.aQ w).eraseIdx (J w).Sub.Row.toNat⟩}:aA)=b';have m1:b'.Mem=rR b.Mem w r.Handle:=by rw[<-m]
  have m2:b'.aQ=b.aQ.set w.toNat ⟨(dU b.aQ w).eraseIdx (J w).Sub.Row.toNat⟩:=by rw[<-m]
  have m3:b'.aD=b.aD:=by rw[<-m]
  have m4:b'.pJ=b.pJ:=by rw[<-m]
  have oth:Oth b b' k k c c J w j' 0 (r.Handle % 32):=⟨λy G hz=>by rw[m1];exact⟨(kn y G hz).1,λ_=>(kn y G hz).2⟩,.inr (.inl (aAN (.inr P))),.inl rfl,λ_ _ _=>⟨rfl,rfl⟩,.inr λv F hn Y L y G T ez=>by
    have:=aFE G.1 S ez;have:=T.1 r g this.symm;have:=hE v F Y L;omega,λx I=>.inl (by rw[m2] at I;exact l.mem_iff.2 (lZ _ I)),by rw[o'.2];simp,λz=>aa,λ_ _ _ p=>by rw[m3] at p ⊢;exact⟨p,rfl⟩,by rw[m3];exact O1 _,λv F hn=>by rw[m2];exact aIF W.1 hw F hn _⟩
  have R:=λi (d:oT i)=>(oth.chn h hw d (λq=>((h.ch i d).all 0 q).1.ne rfl)).2 rfl rfl;refine h.make hl hw hc hJ oth m4 (λi d=>(R i d).1) (λi d=>by rw[(R i d).2];exact h.key i d) (λs=>?_) (λy G=>by rw[o'.1] at G;cases G) (λ_=>tw) (.no aa) ⟨λp=>aa,λp=>aa,λq=>?_⟩
  .have u:=aEN (J:=J) hw j' s;rw[o.1,o'.1] at u;have u2:=h.cnt s;by_cases q:s=r.Handle % 32
   .have a1:ind b s=0:=aAN (.inr (q ▸ P));have a2:ind b' s=0:=aAN (.inl (by rw[m1,q];exact fz));omega
   .have a2:ind b' s=ind b s:=aVB (by rw[m1,fst s q]) (by rw[m2];exact D s q);omega
  .rw[a,e,m3];exact⟨V,U,.inr ⟨el,.inl ⟨rfl,f.1⟩⟩⟩
end
def bNB{l:az}{K:Int}(b:0<=K)(h:K<l.length):gG l (K+1)=gG l K+if(l.getD K.toNat ⟨0,false,0⟩).LJ then 0 else 1:=by
 have a:K.toNat<l.length:=aa
 unfold gG;rw[show(K+1).toNat=K.toNat+1 by omega,N5 a,List.filter_append,H7,DY,iS a,aIO];grind
theorem bIO{l:az}{K:Int}(h:l.length<=K):gG l K=gG l l.length:=by grind[gG]
def aVD{n:gL}(h:aIC n):RO n=n.Next:=by
 unfold RO;obtain e|e:=h.2.2
 .rw[e];split<;>rfl
 .rw[aM e]
def aKT(h:9<=j.Pc/\j.Pc<=13):own j=j.gN.drop (gG j.aH j.K).toNat++j.cK/\lK j=j.gN.drop (gG j.aH j.K).toNat:=by grind[own,lK,aMO]
def ChT.last:∀{h:Int} {B:an} {x:Int},ChT m x (A++h::B)->(∀a,A.getLast?=some a->(cX m a).Next=h)/\(A=[]->x=h):=by
 induction A with
 |nil=>exact λh=>⟨λa e=>by simp at e,λ_=>h.1⟩
 |cons a A b=>
  intro h B x hc;refine⟨λz e=>?_,λe=>by cases e⟩;obtain⟨d,c⟩:=b hc.2.2.2;grind
def ChT.cut{p:Int}(c:cX m' p={cX m p with Next:=(cX m (cX m p).Next).Next})(ok:kY m' p):∀{A:an} {h:Int} {B:an} {x:Int},ChT m x (A++p::h::B)->(∀y∈A++B,kY m' y/\cX m' y=cX m y)->ChT m' x (A++p::B)
 |[],h,B,x,hc,hk=>by
  obtain⟨g,f,b,e,b1,i,b3⟩:=hc;refine⟨g,ok,?_,?_⟩
  .rw[c];exact⟨b.1,b.2.1,by rw[e];exact i.2.2⟩
  .rw[c,e];exact b3.keep λy d=>hk y (by simp[d])
 |a::A,h,B,x,hc,hk=>by obtain⟨f,b⟩:=hk a ae;exact⟨hc.1,f,by rw[b];exact hc.2.2.1,by rw[b];exact hc.2.2.2.cut c ok λy d=>hk y aj⟩
def lkp(m:Mem)(l:an)(k:Int):bu:=(l.find? λx=>(cX m x).Key == k).map λx=>(cX m x).dP
def wv(x:aX):bu:=if x.LJ then none else some x.dP
structure ChW (m m':Mem) (c c':Int->an) (j j':aK):Prop where
 keep:∀i,oT i->(j.Pc=11\/j.Pc=13->i≠bi j)->c' i=c i/\∀x∈c i,cX m' x=cX m x
 oth:9<=j.Pc/\j.Pc<=13->∀k,k≠(nP j).Key->lkp m' (c' (bi j)) k=lkp m (c (bi j)) k
 key:9<=j.Pc/\j.Pc<=13->j'.K=j.K+1->lkp m' (c' (bi j)) (nP j).Key=wv (nP j)
def ChW.same{c:Int->an}(h:9<=j.Pc/\j.Pc<=13->j'.K=j.K+1->lkp m (c (bi j)) (nP j).Key=wv (nP j)):ChW m m c c j j':=⟨λ_ _ _=>⟨rfl,λ_ _=>rfl⟩,λ_ _ _=>rfl,h⟩
def aVE{k:Int}(h:∀a∈l,(cX m a).Key≠k):lkp m l k=none:=by grind[lkp]
def a1T{B:an}{p k:Int}(h:(cX m p).Key≠k):lkp m (A++p::B) k=lkp m (A++B) k:=by grind[lkp]
def aEP(h:∀a∈l,(cX m' a).Key=(cX m a).Key/\(cX m' a).dP=(cX m a).dP)(k:Int):lkp m' l k=lkp m l k:=by
 induction l with
 |nil=>rfl
 |cons a l b=>
  grind[lkp]
def aQ3{x:aX}(h:(RP j x).K=j.K+1):x.LJ=true:=by grind[RP]
section
variable {Ky:an} {b:aA} {k:ay} {c:Int->an} {q:Int->Nat} {J:Int->aK} {w:Int} (h:sM Ky b k c q J) (hl:∀v,fQ v->LkJ k v (J v)) (hw:fQ w) (hb:lR b) (hJ:∀v,fQ v->(J v).bU=true->JB (J v)) (hB:(J w).bU=true)
include h hl hw hb hJ hB
set_option maxHeartbeats 1000000 in
theorem bIP(hk2:k.length=2/\∀x∈k,BkV x)(hp:9<=(J w).Pc/\(J w).Pc<=13):∃c',sM Ky (mO b k (J w)).1 (mO b k (J w)).2.1 c' (upQ q w (qF Ky.length (q w) (J w))) (DA J w (mO b k (J w)).2.2)/\ChW b.Mem (mO b k (J w)).1.Mem c c' (J w) (mO b k (J w)).2.2:=by
 have t:=h.tw w hw hB;have hj:=hJ w hw hB;have hc:=hb.1.2.1;have hk:=hj.k;have o:=aKT hp;have hn7:=t.n7 aa;generalize hn:qF Ky.length (q w) (J w)=n;have eqw:upQ q w n w=n:=aM rfl;have X:∀v,v≠w->upQ q w n v=q v:=λv hv=>aO hv;generalize upQ q w n=qn at eqw X ⊢;subst eqw;have hcd:(J w).Code=0:=by have:=t.cd;omega
 have tw:∀{m':Mem} {k':ay} {c':Int->an} {j':aK},9<=j'.Pc/\j'.Pc<=14->j'.gN=(J w).gN/\j'.aH=(J w).aH/\j'.Batch=(J w).Batch/\j'.At=(J w).At/\j'.Code=(J w).Code/\j'.bH=(J w).bH->(j'.Pc<=13->(j'.cK.length:Int)<=if j'.Pc<=11 then j'.K else j'.K+1)->(10<=j'.Pc/\j'.Pc<=13->j'.K<j'.aH.length) ->
   (j'.Pc=10\/j'.Pc=11->∃A B,c' (bi j')=A++j'.H::B/\(j'.g7=A.getLastD 0/\∀a∈A,(cX m' a).Key≠(nP j').Key)/\(j'.Pc=10->B.length<=qn w))->(j'.Pc=11->j'.Node=cX m' j'.H/\j'.Node.Key=(nP j').Key)->(j'.Pc=12\/j'.Pc=13->(nP j').LJ=false/\∀a∈c' (bi j'),(cX m' a).Key≠(nP j').Key)->(j'.Pc=13->cX m' (LC j')=⟨(nP j').Key,(nP j').dP,(eG k' (bi j')).Head⟩)->TW Ky m' k' c' (qn w) j':=
  λ{m' k' c' j'} q ⟨E,O,e4,e5,e6,e7⟩ q1 q2 q3 q4 q5 q6=>by
  refine⟨aa,λx=>aa,λx=>aa,λx=>aa,by rw[O,e5];exact t.wl,λx=>aa,λx=>⟨aj,λ_=>q1 x.2⟩,λx=>aa,λx=>by rw[O,e7];exact t.l8 aa,q2,q3,q4,q5,q6,aa,λx _=>by rw[e5,e4];exact t.at_ hcd aa,λx=>?_,λx=>aa,by rw[O,e4];exact t.ky⟩;have:=t.cl aj;omega
 have still:∀{j':aK},own j'=own (J w)->lK j'=lK (J w)\/lK j'=[]->9<=j'.Pc/\j'.Pc<=14->TW Ky b.Mem k c (qn w) j'->sM Ky b k c qn (DA J w j'):=λ{j'} E V q t'=>
  h.a1R hl hw hc hJ X (λ_ _=>rfl) E aj (.inl aa) (λ_=>t') (.no aa) (.no aa)
 unfold mO;by_cases c1:((J w).aH.length:Int)<=(J w).K
 .rw[aM c1];have hd:(J w).gN.drop (gG (J w).aH (J w).K).toNat=[]:=aII (by grind[bIO]);have G:own {J w with Pc:=14}=(J w).cK/\lK {J w with Pc:=14}=[]:=by simp[own,lK,aMO]
  exact⟨c,still aj (.inr G.2) ae (tw ae ⟨rfl,rfl,rfl,rfl,rfl,rfl⟩ ae ae ae ae ae ae),.same λ_ z=>aj⟩
 rw[aO c1];have hi:(J w).K.toNat<(J w).aH.length:=aa
 have er:nP (J w)=(J w).aH[(J w).K.toNat]:=by grind[nP]
 have hxm:nP (J w)∈(J w).aH:=aj
 have f:=hj.wr.2.1 _ hxm;have F:oT (jN (nP (J w)).Key):=by grind[jN]
 have hheld:=t.l8 aa _ hxm;have hlk:(eG k (jN (nP (J w)).Key)).eU=w+1:=((hl w hw).iff _ F).1 hheld;have g:=h.ch _ F;have D:=h.key _ F;have Z:=hn7.2 aa;have Y:gG (J w).aH ((J w).K+1)=gG (J w).aH (J w).K+if(nP (J w)).LJ then 0 else 1:=bNB hk.1 aa;have p0:0<=gG (J w).aH (J w).K:=by grind[gG]
 generalize Q:jN (nP (J w)).Key=i at F hheld hlk g D;have C:bi (J w)=i:=Q;have M:∀{b':aA} {k':ay} {c':Int->an} {j1:aK},j1.gN=(J w).gN/\j1.aH=(J w).aH/\j1.Batch=(J w).Batch/\j1.At=(J w).At/\j1.Code=(J w).Code/\j1.bH=(J w).bH/\j1.K=(J w).K->(j1.cK.length:Int)<=(J w).K+1->(∀a∈c' i,(cX b'.Mem a).Key≠(nP (J w)).Key)->TW Ky b'.Mem k' c' (qn w) (RP j1 (nP (J w)))/\lK (RP j1 (nP (J w)))=lK (J w)/\own (RP j1 (nP (J w)))=lK (J w)++j1.cK/\(9<=(RP j1 (nP (J w))).Pc/\(RP j1 (nP (J w))).Pc<=14):=
  λ{b' k' c' j1} ⟨E,O,e4,e5,e6,e7,e8⟩ q1 q2=>by
  have ew:∀{j2:aK},j2.aH=j1.aH->j2.K=j1.K->nP j2=nP (J w):=λa a'=>by grind[nP]
  unfold RP;cases hd:(nP (J w)).LJ
  .rw[dY];have G:=aKT (j:={j1 with Pc:=12}) ae;simp only at G;refine⟨tw ae ⟨E,O,e4,e5,e6,e7⟩ (λ_=>ah) (λ_=>by simp only;rw[e8,O];omega) ae ae (λ_=>by
    have V:nP {j1 with Pc:=12}=nP (J w):=ew rfl rfl;have e9:bi {j1 with Pc:=12}=i:=by unfold bi;rw[V];exact Q
    rw[V,e9];exact⟨hd,q2⟩) ae,?_,?_,ae⟩
   .rw[G.2,o.2,E,O,e8]
   .rw[G.1,o.2,E,O,e8]
  .rw[aM rfl];have G:=aKT (j:={j1 with Pc:=9,K:=j1.K+1}) ae;simp only at G;rw[hd,aM rfl,Int.add_zero] at Y;refine⟨tw ae ⟨E,O,e4,e5,e6,e7⟩ (λ_=>ah) ae ae ae ae ae,?_,?_,ae⟩
   .rw[G.2,o.2,E,O,e8,Y]
   .rw[G.1,o.2,E,O,e8,Y]
 have Y8:own (J w)=lK (J w)++(J w).cK:=by rw[o.1,o.2]
 by_cases p9:(J w).Pc=9
 .rw[aM p9];rw[aM aa] at Z;refine⟨c,?_,.same λ_ z=>?_⟩
  rotate_left
  .by_cases q:(eG k i).Head=0
   .simp only[aM q] at z;rw[show wv (nP (J w))=none from aM (aQ3 z),C]
    match c i,g with
    |[],_=>rfl
    |x::r,g=>exact absurd (g.1.symm.trans q) g.2.1.ne
   .simp only[aO q] at z;omega
  by_cases q:(eG k i).Head=0
  .rw[aM q];have hnil:c i=[]:=by
    match hci:c i,g with
    |[],_=>rfl
    |x::r,g=>exact absurd (g.1.symm.trans q) g.2.1.ne
   obtain⟨a1,a2,a3,S⟩:=M (b':=b) (k':=k) (c':=c) (j1:={J w with Pc:=10,H:=(eG k i).Head,g7:=0}) ⟨rfl,rfl,rfl,rfl,rfl,rfl,rfl⟩ (by simp only;omega) (by rw[hnil];simp);exact still (by rw[a3,Y8]) (.inl a2) S a1
  .rw[aO q];have G:=aKT (j:={J w with Pc:=10,H:=(eG k i).Head,g7:=0}) ae;refine still (by rw[G.1,o.1]) (.inl (by rw[G.2,o.2])) ae (tw ae ⟨rfl,rfl,rfl,rfl,rfl,rfl⟩ ah (λ_=>by simp only;omega) (λ_=>?_) ae ae ae)
   match hci:c i,g with
   |[],g=>exact absurd g q
   |x::r,g=>
    refine⟨[],r,?_,⟨rfl,ae⟩,λ_=>?_⟩
    rotate_left
    .have:=BW D.1 λy T=>(D.2 y T).2;unfold nQ at this;rw[hci,List.length_map,H8] at this;rw[<-hn];unfold qF;rw[aM (.inr p9)];omega
    show c (jN (nP (J w)).Key)=_;rw[Q,hci,PY];simp only;rw[g.1]
 rw[aO p9];by_cases P:(J w).Pc=10
 .rw[aM P];rw[aM aa] at Z;obtain⟨A,B,E,⟨V,O⟩,e4⟩:=t.st (.inl P);rw[C] at E;rw[E] at g;have hH:=g.split;have hok:=hH.2.1;rw[a1S hok];refine⟨c,?_,.same λ_ z=>?_⟩
  rotate_left
  .by_cases q:(cX b.Mem (J w).H).Key=(nP (J w)).Key
   .simp only[aM q] at z;omega
   .simp only[aO q,aVD hH.2.2.1] at z;by_cases q2:(cX b.Mem (J w).H).Next=0
    .simp only[aM q2] at z;rw[show wv (nP (J w))=none from aM (aQ3 z),C,E];refine aVE λa l=>?_
     match B,hH.2.2.2,l with
     |[],_,l=>
      obtain l|l:=dR.1 l
      .exact O a l
      .rw[jQ.1 l];exact q
     |x::r,R,_=>exact absurd (R.1.symm.trans q2) R.2.1.ne
    .simp only[aO q2] at z;omega
  by_cases q:(cX b.Mem (J w).H).Key=(nP (J w)).Key
  .rw[aM q];have G:=aKT (j:={J w with Pc:=11,Node:=cX b.Mem (J w).H}) ae;exact still (by rw[G.1,o.1]) (.inl (by rw[G.2,o.2])) ae (tw ae ⟨rfl,rfl,rfl,rfl,rfl,rfl⟩ ah (λ_=>by simp only;omega) (λ_=>⟨A,B,(show c (jN (nP (J w)).Key)=_ by rw[Q];exact E),⟨V,O⟩,λz=>absurd z ae⟩) (λ_=>⟨rfl,q⟩) ae ae)
  .rw[aO q,aVD hH.2.2.1];by_cases q2:(cX b.Mem (J w).H).Next=0
   .rw[aM q2];have hBn:B=[]:=by
     match B,hH.2.2.2 with
     |[],_=>rfl
     |x::r,R=>exact absurd (R.1.symm.trans q2) R.2.1.ne
    obtain⟨a1,a2,a3,S⟩:=M (b':=b) (k':=k) (c':=c) (j1:={J w with Node:=cX b.Mem (J w).H}) ⟨rfl,rfl,rfl,rfl,rfl,rfl,rfl⟩ (by simp only;omega) (by
     rw[E,hBn];intro a l;obtain l|l:=dR.1 l
     .exact O a l
     .rw[jQ.1 l];exact q)
    exact still (by rw[a3,Y8]) (.inl a2) S a1
   .rw[aO q2];have G:=aKT (j:={J w with H:=(cX b.Mem (J w).H).Next,g7:=(J w).H,Node:=cX b.Mem (J w).H}) hp;refine still (by rw[G.1,o.1]) (.inl (by rw[G.2,o.2])) (by simp only;omega) (tw (by simp only;omega) ⟨rfl,rfl,rfl,rfl,rfl,rfl⟩ (λ_=>by simp only;rw[aM aa];exact Z) (λ_=>by simp only;omega) (λ_=>?_) (by simp[P]) (by simp[P]) (by simp[P]))
    match B,hH.2.2.2,E with
    |[],R,_=>exact absurd R q2
    |x::r,R,E=>
     refine⟨A++[(J w).H],r,?_,⟨ae,λa l=>?_⟩,λ_=>?_⟩
     rotate_left 2
     .have:=e4 P;rw[H8] at this;rw[<-hn];unfold qF;rw[iB,aM (.inr P)];omega
     .show c (jN (nP (J w)).Key)=_;rw[Q,E];simp only;rw[R.1];simp
     .obtain l|l:=dR.1 l
      .exact O a l
      .rw[jQ.1 l];exact q
 rw[aO P];have N:∀(x:Int) (i':Int),oT i'->(eG (k.set i.toNat {eG k i with Head:=x}) i').Head=if i'=i then x else(eG k i').Head:=λx i' d=>by rw[tC hk2.1 F d];split<;>rfl
 have hno:∀{i':Int},oT i'->(eG k i').eU≠w+1->i'≠i:=λ_ q e=>q (e ▸ hlk);have ind0:∀{b':aA},(∀s,eZ b'.Mem s=eZ b.Mem s)->b'.aQ=b.aQ->∀s,ind b' s=ind b s:=λE V s=>aVB (by rw[E]) (by rw[V]);by_cases U:(J w).Pc=11
 .rw[aM U];rw[aM aa] at Z;obtain⟨A,B,E,⟨V,O⟩,_⟩:=t.st (.inr U);rw[C] at E;rw[E] at g D;have hH:=g.split;have hok:=hH.2.1;obtain⟨n1,n2⟩:=t.cu U;rw[n1,aVD hH.2.2.1];have hnd:=D.1;unfold nQ at hnd;rw[vC,LM,aIL,aF9] at hnd;have hAB:∀a∈A++B,(cX b.Mem a).Key≠(nP (J w)).Key:=λa l q=>by
   obtain l|l:=dR.1 l
   .exact O a l q
   .rw[<-n2,n1] at q;exact hnd.2.1.1 (H9.2 ⟨a,l,q⟩)
  have hold:RQ (J w)={J w with cK:=(J w).cK++[(J w).H]}:=by unfold RQ;rw[aM ⟨hok.1.1,by have:=hj.wr.1;omega⟩]
  rw[hold];have hcl:csL (c i)=λs=>csL (A++B) s+if(J w).H % 32=s then 1 else 0:=by funext s;rw[E,aAM,VU,aAM];omega
  have cntx:∀{j':aK},own j'=lK (J w)++((J w).cK++[(J w).H])->∀s,cnC (upC c i (A++B)) s+cnO (DA J w j') s=ind b s:=λ{j'} e s=>by have u1:=bIF (c:=c) F (A++B) s;have u2:=aEN (J:=J) hw j' s;rw[e,Y8,aAM,aAM,aAM,VU,bIE] at u2;rw[hcl] at u1;have:=h.cnt s;simp only at u1;omega
  have okx:∀{j':aK} {b':aA},own j'=lK (J w)++((J w).cK++[(J w).H])->(∀x,kY b.Mem x->kY b'.Mem x)->∀x∈own j',kY b'.Mem x:=λ{j' b'} e q x f=>by
   rw[e] at f;refine q x ?_;obtain f|f:=dR.1 f
   .exact h.ok w hw x (TS h hw f)
   .obtain f|f:=dR.1 f
    .exact h.ok w hw x (by rw[Y8];exact aIK _ f)
    .rw[jQ.1 f];exact hok
  by_cases q:(J w).g7=0
  .rw[aM q];have hA:A=[]:=by
    obtain rfl|⟨L,z,rfl⟩:=aCH A
    .rfl
    .rw[aMW] at E V g;rw[q] at V;simp at V;exact absurd V.symm ((g.all z ae).1.ne)
   subst hA;simp only[PY] at *;obtain⟨a1,a2,a3,S⟩:=M (b':=b) (k':=k.set i.toNat {eG k i with Head:=(cX b.Mem (J w).H).Next}) (c':=upC c i B) (j1:={J w with cK:=(J w).cK++[(J w).H]}) ⟨rfl,rfl,rfl,rfl,rfl,rfl,rfl⟩ ah (by rw[rT];exact hAB);refine⟨upC c i B,h.aY7 hl hw X hc hJ (y:=0) (z:=-1) ⟨λx f _=>⟨f,λ_=>rfl⟩,.inl rfl,.inl rfl,λi' d R=>⟨by rw[N _ _ d,aO (hno d R)],PT _ _ (hno d R)⟩,.inl rfl,λr hr=>.inl hr,λx f=>.inl (by rw[a2] at f;exact f),λz=>absurd S.2 (by rw[show(RP _ _).Pc=15 from z];decide),λ_ _ _ p=>⟨p,rfl⟩,O1 _,λ_ _ _=>rfl⟩ rfl (λi' d=>?_) (λi' d=>?_) (cntx a3) (okx a3 λ_ x=>x) (λ_=>a1) (.no ⟨λz=>absurd S.1 (by rw[show(RP _ _).Pc=3 from z];decide),λz=>absurd S.1 (by rw[show(RP _ _).Pc=4 from z];decide)⟩) (.no ⟨λz=>absurd S.1 (by rw[show(RP _ _).Pc=6 from z];decide),λz=>absurd S.2 (by rw[show(RP _ _).Pc=15 from z];decide),λz=>absurd S.2 (by rw[show(RP _ _).Pc=21 from z];decide)⟩),⟨λi' d z=>⟨PT _ _ (by rw[<-C];exact z (.inl U)),λ_ _=>rfl⟩,λ_ k' z=>?_,λ_ z=>?_⟩⟩
   rotate_left 2
   .rw[C,rT,E];exact(a1T (A:=[]) (by rw[<-n1,n2];exact λe=>z e.symm)).symm
   .rw[C,rT,show wv (nP (J w))=none from aM (aQ3 z)];exact aVE hAB
   .rw[N _ _ d];by_cases z:i'=i
    .rw[aM z,z,rT];exact hH.2.2.2
    .rw[aO z,PT _ _ z];exact h.ch i' d
   .by_cases z:i'=i
    .rw[z,rT];exact⟨hnd.2.1.2,λx f=>D.2 x (by unfold nQ at f ⊢;rw[LM];exact lZ _ f)⟩
    .rw[PT _ _ z];exact h.key i' d
  .rw[aO q];obtain⟨A',rfl⟩:∃A',A=A'++[(J w).g7]:=by
    obtain rfl|⟨L,z,rfl⟩:=aCH A
    .exact absurd V q
    .rw[aMW] at V ⊢;exact⟨L,by rw[V];simp⟩
   rw[qM,List.singleton_append] at E g;have hpm:(J w).g7∈c i:=by rw[E];simp
   have hpo:=g.all (J w).g7 ae;have hnx:(cX b.Mem (J w).g7).Next=(J w).H:=by have:=(ChT.last (A:=A'++[(J w).g7]) (h:=(J w).H) (B:=B) (by rw[qM,List.singleton_append];exact g)).1 (J w).g7 ae;exact this
   obtain⟨g1,g2,g3,g4⟩:=bM2 hb.1.1 hpo.1 hH.2.2.1.2.2;generalize hm':Gv.aNI b.Mem (J w).g7 (cX b.Mem (J w).H).Next=m' at g1 g2 g3 g4;have g2':cX m' (J w).g7={cX b.Mem (J w).g7 with Next:=(cX b.Mem (cX b.Mem (J w).g7).Next).Next}:=by rw[hnx];exact g2
   have gk:∀x,kY b.Mem x->kY m' x/\(x≠(J w).g7->cX m' x=cX b.Mem x):=λx f=>by
    by_cases z:x % 32=(J w).g7 % 32
    .have:=aFE f.1 hpo.1.1 z;subst this;exact⟨g1,λz=>absurd rfl z⟩
    .exact⟨(g3 x f z).1,λ_=>(g3 x f z).2⟩
   have W:∀x,kY b.Mem x->(cX m' x).Key=(cX b.Mem x).Key:=λx f=>by
    by_cases z:x=(J w).g7
    .rw[z,g2']
    .rw[(gk x f).2 z]
   have I:∀a∈A'++[(J w).g7]++B,kY b.Mem a:=λa l=>(g.all a (by simp only[dR,lO,jQ,a8I,or_false] at l ⊢;grind)).1;obtain⟨a1,a2,a3,S⟩:=M (b':={b with Mem:=m'}) (k':=k) (c':=upC c i (A'++[(J w).g7]++B)) (j1:={J w with cK:=(J w).cK++[(J w).H]}) ⟨rfl,rfl,rfl,rfl,rfl,rfl,rfl⟩ ah (by
    rw[rT];exact λa l=>by rw[W a (I a l)];exact hAB a l)
   have oth:Oth b {b with Mem:=m'} k k c (upC c i (A'++[(J w).g7]++B)) J w (RP {J w with cK:=(J w).cK++[(J w).H]} (nP (J w))) (J w).g7 (-1):=
    ⟨λx f _=>gk x f,.inl rfl,.inr (.inr ⟨⟨i,F,hlk,hpm⟩,g2',by rw[hnx];exact hok.ne⟩),λi' d R=>⟨rfl,PT _ _ (hno d R)⟩,.inl rfl,λr hr=>.inl hr,λx f=>.inl (by rw[a2] at f;exact f),λz=>absurd S.2 (by rw[show(RP _ _).Pc=15 from z];decide),λ_ _ _ p=>⟨p,rfl⟩,O1 _,λ_ _ _=>rfl⟩
   have hnd2:=D.1;have hnoP:∀i',oT i'->i'≠i->(J w).g7∉c i':=λi' d z T=>by have u1:=bAP c d F z ((J w).g7 % 32);have u2:=W7 T;have u3:=W7 hpm;have u4:=h.cnt ((J w).g7 % 32);have u5:=aU8 b ((J w).g7 % 32);omega
   have gval:∀a,kY b.Mem a->(cX m' a).dP=(cX b.Mem a).dP:=λa l=>by
    by_cases z:a=(J w).g7
    .rw[z,g2']
    .rw[(gk a l).2 z]
   refine⟨_,h.aY7 hl hw X hc hJ oth rfl (λi' d=>?_) (λi' d=>?_) (λs=>by rw[cntx a3 s];exact(ind0 (b':={b with Mem:=m'}) g4 rfl s).symm) (okx a3 λx f=>(gk x f).1) (λ_=>a1) (.no ⟨λz=>absurd S.1 (by rw[show(RP _ _).Pc=3 from z];decide),λz=>absurd S.1 (by rw[show(RP _ _).Pc=4 from z];decide)⟩) (.no ⟨λz=>absurd S.1 (by rw[show(RP _ _).Pc=6 from z];decide),λz=>absurd S.2 (by rw[show(RP _ _).Pc=15 from z];decide),λz=>absurd S.2 (by rw[show(RP _ _).Pc=21 from z];decide)⟩),⟨λi' d z=>⟨PT _ _ (by rw[<-C];exact z (.inl U)),λx f=>(gk x ((h.ch i' d).all x f).1).2 λe=>hnoP i' d (by rw[<-C];exact z (.inl U)) (e ▸ f)⟩,λ_ k' z=>?_,λ_ z=>?_⟩⟩
   rotate_left 2
   .rw[C,rT,E];show lkp m' _ k'=_;rw[aEP (m:=b.Mem) (λa l=>⟨W a (I a l),gval a (I a l)⟩),show A'++(J w).g7::(J w).H::B=(A'++[(J w).g7])++(J w).H::B by simp];exact(a1T (by rw[<-n1,n2];exact λe=>z e.symm)).symm
   .rw[C,rT,show wv (nP (J w))=none from aM (aQ3 z)];exact aVE λa l=>by show(cX m' a).Key≠_;rw[W a (I a l)];exact hAB a l
   .by_cases z:i'=i
    .rw[z,rT,qM,List.singleton_append];have hdis:∀y∈A'++B,y≠(J w).g7:=λy T e=>by
      have hn:=hnd2;unfold nQ at hn;rw[qM,vC,vC,LM,LM,aIL] at hn;obtain T|T:=dR.1 T
      .exact hn.2.2 _ (H9.2 ⟨y,T,rfl⟩) _ (by rw[e];simp) rfl
      .exact(aF9.1 hn.2.1).1 (by rw[<-e];exact lZ _ (H9.2 ⟨y,T,rfl⟩))
     exact g.cut g2' g1 λy T=>by obtain⟨x1,x2⟩:=gk y (I y (by simp only[dR,jQ] at T ⊢;grind));exact⟨x1,x2 (hdis y T)⟩
    .have T:=hnoP i' d z;exact((oth.chn h hw d T).2 rfl (PT _ _ z)).1
   .by_cases z:i'=i
    .rw[z,rT];have ek:nQ m' (A'++[(J w).g7]++B)=nQ b.Mem (A'++[(J w).g7]++B):=aMP λa l=>W a (I a l);show(nQ m' _).Nodup/\∀x∈nQ m' _,_;rw[ek];have hsub:(nQ b.Mem (A'++[(J w).g7]++B)).Sublist (nQ b.Mem (A'++[(J w).g7]++(J w).H::B)):=by unfold nQ;exact List.Sublist.map _ (List.Sublist.append_left (List.sublist_cons_self ..) _)
     exact⟨hnd2.sublist hsub,λx f=>D.2 x (hsub.subset f)⟩
    .have T:=hnoP i' d z;rw[((oth.chn h hw d T).2 rfl (PT _ _ z)).2];exact h.key i' d
 rw[aO U];have hp2:(J w).Pc=12\/(J w).Pc=13:=aa
 obtain⟨fd,fk⟩:=t.fl hp2;rw[C] at fk;obtain⟨nm,r,en,enr⟩:=aU9 h hw t hj hp2;have hnw:=h.ok w hw _ (TS h hw nm);have hname:=h.name hw hw (TS h hw nm);have hnc:∀i',oT i'->LC (J w)∉c i':=λi' d hm=>by have u1:=h.link hw d hm;omega
 have hlen:¬((J w).gN.length:Int)<=gG (J w).aH (J w).K:=λz=>by have:(J w).gN.drop (gG (J w).aH (J w).K).toNat=[]:=aII aa;rw[o.2,this] at nm;cases nm
 rw[aO hlen];have hbv:=hk2.2 _ (a1J hk2.1 F);by_cases p12:(J w).Pc=12
 .rw[aM p12];rw[iB] at Z;obtain⟨g1,g2,g3,g4⟩:=bRL hb.1.1 hnw (n:=⟨(nP (J w)).Key,(nP (J w)).dP,(eG k i).Head⟩) ⟨f.1,f.2,hbv.1⟩;show ∃c',sM Ky {b with Mem:=aG6 b.Mem (LC (J w)) ⟨(nP (J w)).Key,(nP (J w)).dP,(eG k i).Head⟩} k c' qn (DA J w {J w with Pc:=13})/\ChW b.Mem (aG6 b.Mem (LC (J w)) ⟨(nP (J w)).Key,(nP (J w)).dP,(eG k i).Head⟩) c c' (J w) {J w with Pc:=13};generalize aG6 b.Mem (LC (J w)) ⟨(nP (J w)).Key,(nP (J w)).dP,(eG k i).Head⟩=m' at g1 g2 g3 g4;have gk:∀x,kY b.Mem x->kY m' x/\(x≠LC (J w)->cX m' x=cX b.Mem x):=λx f=>by
   by_cases z:x % 32=LC (J w) % 32
   .have:=aFE f.1 hnw.1 z;subst this;exact⟨g1,λz=>absurd rfl z⟩
   .exact⟨(g3 x f z).1,λ_=>(g3 x f z).2⟩
  have G:own {J w with Pc:=13}=own (J w)/\lK {J w with Pc:=13}=lK (J w):=by rw[o.1,o.2];exact aKT (j:={J w with Pc:=13}) ae
  have oth:Oth b {b with Mem:=m'} k k c c J w {J w with Pc:=13} (LC (J w)) (-1):=
   ⟨λx f _=>gk x f,.inl rfl,.inr (.inl nm),λ_ _ _=>⟨rfl,rfl⟩,.inl rfl,λr hr=>.inl hr,λx f=>.inl (by rw[G.2] at f;exact f),λz=>absurd z ae,λ_ _ _ p=>⟨p,rfl⟩,O1 _,λ_ _ _=>rfl⟩
  have chs:=λi' (d:oT i')=>oth.chn h hw d (hnc i' d);refine⟨c,h.aY7 hl hw X hc hJ oth rfl (λi' d=>((chs i' d).2 rfl rfl).1) (λi' d=>by rw[((chs i' d).2 rfl rfl).2];exact h.key i' d) (λs=>?_) (λx f=>(gk x (h.ok w hw x (by rw[G.1] at f;exact f))).1) (λ_=>tw ae ⟨rfl,rfl,rfl,rfl,rfl,rfl⟩ (λ_=>ah) (λ_=>by simp only;omega) ae ae (λ_=>⟨fd,λa l=>?_⟩) (λ_=>?_)) (.no ae) (.no ae),⟨λi' d _=>⟨rfl,λx f=>(gk x ((h.ch i' d).all x f).1).2 λe=>hnc i' d (e ▸ f)⟩,λ_ k' _=>?_,λ_ z=>by have:(J w).K=(J w).K+1:=z;omega⟩⟩
  rotate_left 3
  .rw[C];exact aEP (λa l=>by rw[(gk a ((h.ch i F).all a l).1).2 λe=>hnc i F (e ▸ l)];exact⟨rfl,rfl⟩) k'
  .have u:=aEN (J:=J) hw {J w with Pc:=13} s;rw[G.1] at u;have u2:=h.cnt s;rw[ind0 (b':={b with Mem:=m'}) g4 rfl s];omega
  .have ha':a∈c i:=by rw[show bi {J w with Pc:=13}=i from Q] at l;exact l
   show(cX m' a).Key≠_;rw[((chs i F).1 a ha').2];exact fk a ha'
  .show cX m' (LC (J w))=⟨_,_,(eG k (jN (nP (J w)).Key)).Head⟩;rw[Q];exact g2
 .rw[aO p12];have p13:(J w).Pc=13:=aa
  rw[iB] at Z;have ln:=t.ln p13;rw[C] at ln;rw[fd] at Y;simp only[bQ,bN] at Y;show ∃c',sM Ky b (k.set i.toNat {eG k i with Head:=LC (J w)}) c' qn (DA J w {J w with Pc:=9,K:=(J w).K+1})/\ChW b.Mem b.Mem c c' (J w) {J w with Pc:=9,K:=(J w).K+1};have G:=aKT (j:={J w with Pc:=9,K:=(J w).K+1}) ae;have er':(J w).gN.drop (gG (J w).aH ((J w).K+1)).toNat=r:=by rw[<-enr,Y];congr 1
  simp only[er'] at G;have e0:lK (J w)=LC (J w)::r:=en;have oth:Oth b b k (k.set i.toNat {eG k i with Head:=LC (J w)}) c (upC c i (LC (J w)::c i)) J w {J w with Pc:=9,K:=(J w).K+1} 0 (-1):=
   ⟨λx f _=>⟨f,λ_=>rfl⟩,.inl rfl,.inl rfl,λi' d R=>⟨by rw[N _ _ d,aO (hno d R)],PT _ _ (hno d R)⟩,.inl rfl,λr hr=>.inl hr,λx f=>.inl (by rw[G.2] at f;rw[e0];exact lZ _ f),λz=>absurd z ae,λ_ _ _ p=>⟨p,rfl⟩,O1 _,λ_ _ _=>rfl⟩
  refine⟨upC c i (LC (J w)::c i),h.aY7 hl hw X hc hJ oth rfl (λi' d=>?_) (λi' d=>?_) (λs=>?_) (λx f=>h.ok w hw x ?_) (λ_=>tw ae ⟨rfl,rfl,rfl,rfl,rfl,rfl⟩ (λ_=>ah) ae ae ae ae ae) (.no ae) (.no ae),⟨λi' d z=>⟨PT _ _ (by rw[<-C];exact z (.inr p13)),λ_ _=>rfl⟩,λ_ k' z=>?_,λ_ _=>?_⟩⟩
  rotate_left 4
  .rw[C,rT];exact a1T (A:=[]) (by rw[ln];exact λe=>z e.symm)
  .rw[C,rT];unfold lkp;rw[List.find?_cons,ln];simp[wv,fd,ln]
  .rw[N _ _ d];by_cases z:i'=i
   .rw[aM z,z,rT];exact⟨rfl,hnw,by rw[ln];exact⟨f.1,f.2,hbv.1⟩,by rw[ln];exact g⟩
   .rw[aO z,PT _ _ z];exact h.ch i' d
  .by_cases z:i'=i
   .rw[z,rT];have ek:nQ b.Mem (LC (J w)::c i)=(nP (J w)).Key::nQ b.Mem (c i):=by show(cX b.Mem (LC (J w))).Key::_=_;rw[ln];rfl
    rw[ek];refine⟨aF9.2 ⟨λhm=>?_,D.1⟩,λx f=>?_⟩
    .obtain⟨a,l,e⟩:=H9.1 hm;exact fk a l e
    .obtain rfl|f:=lO.1 f
     .exact⟨Q,t.ky.1 _ hxm⟩
     .exact D.2 x f
   .rw[PT _ _ z];exact h.key i' d
  .have u1:=bIF (c:=c) F (LC (J w)::c i) s;have u2:=aEN (J:=J) hw {J w with Pc:=9,K:=(J w).K+1} s;rw[G.1,Y8,e0,aAM,aAM,VU] at u2;rw[VU] at u1;have:=h.cnt s;omega
  .rw[Y8,e0];rw[G.1] at f;simp only[dR,lO] at f ⊢;exact f.imp .inr id
end
def sjT(j:aK):Job:=⟨j.bU,⟨if j.Pc=0 then 5 else if j.Pc=20\/j.Pc=21 then 4 else 3,0,0,0⟩,0,if j.Pc=21 then 1 else 0,j.Sub,0,0,0,0⟩
def EpT(c:aD)(J:Int->aK):Prop:=Ep c λv=>sjT (J v)
def a41(J:Int->aK)(w:Int)(j:aK):(λv=>sjT (DA J w j v))=upJ (λv=>sjT (J v)) w (sjT j):=by grind[DA,upJ]
def bAR(h:j=cM\/j.Pc≠0/\j.Pc≠20/\(j.Pc=21->j.Sub.Kind=4)):Calm (sjT j):=by
 obtain rfl|⟨c,b,a⟩:=h
 .exact⟨λq=>(by cases q.1),λq=>(by cases q.1),λq=>absurd q ai,λq=>absurd q ai⟩
 .unfold Calm rS Adv sjT;grind
def aVF(a:j.bU=true)(h:j.Pc=0):rS (sjT j):=⟨a,by simp[sjT,h],by simp[sjT,h]⟩
def bIQ(a:j.bU=true)(h:j.Pc=20):Adv (sjT j):=⟨a,by simp[sjT,h],by simp[sjT,h]⟩
def aKU(h:j=cM\/j.Pc≠0):¬rS (sjT j):=λq=>by
 obtain rfl|h:=h
 .cases q.1
 .have:=q.2.1;unfold sjT at this;grind
theorem bRP(j:aK)(c:iK)(v:Int)(is:Bool):(sK j c v is).Pc=j.Pc\/(sK j c v is).Pc=16\/(sK j c v is).Pc=1:=by grind[sK,aCC,aAK,pK,uZ]
theorem bIR{b:aA}(h:1<=j.Pc/\j.Pc<=19):(fU b k w j).j=cM\/1<=(fU b k w j).j.Pc/\(fU b k w j).j.Pc<=19:=by
 have keep:∀{j':aK},(j'.Pc=j.Pc\/1<=j'.Pc/\j'.Pc<=19)->j'=cM\/1<=j'.Pc/\j'.Pc<=19:=λq=>.inr aa;unfold fU;rw[iB];refine dX (P:=λr=>r.j=cM\/1<=r.j.Pc/\r.j.Pc<=19) (λp=>keep (by grind[sG,pK,uZ,sK,aCC,aAK])) λ_=>dX (P:=λr=>r.j=cM\/1<=r.j.Pc/\r.j.Pc<=19) (λp=>keep (by grind[i6,pK,uZ,sK,aCC,aAK])) λ_=>
  dX (P:=λr=>r.j=cM\/1<=r.j.Pc/\r.j.Pc<=19) (λp=>keep (by grind[yE,uZ])) λ_=>dX (P:=λr=>r.j=cM\/1<=r.j.Pc/\r.j.Pc<=19) (λp=>keep (by grind[pU,MR,uZ])) λ_=>
  dX (P:=λr=>r.j=cM\/1<=r.j.Pc/\r.j.Pc<=19) (λp=>keep (by grind[OY,uZ])) λ_=>dX (P:=λr=>r.j=cM\/1<=r.j.Pc/\r.j.Pc<=19) (λp=>keep (by grind[mO,RP,uZ])) λ_=>
  dX (P:=λr=>r.j=cM\/1<=r.j.Pc/\r.j.Pc<=19) (λp=>keep (by grind[DX,OZ])) λ_=>dX (P:=λr=>r.j=cM\/1<=r.j.Pc/\r.j.Pc<=19) (λp=>keep (by grind[HC,OZ])) λ_=>
  dX (P:=λr=>r.j=cM\/1<=r.j.Pc/\r.j.Pc<=19) (λp=>keep (by grind[HD])) λ_=>dX (P:=λr=>r.j=cM\/1<=r.j.Pc/\r.j.Pc<=19) (λp=>.inr ae) λ_=>dX (P:=λr=>r.j=cM\/1<=r.j.Pc/\r.j.Pc<=19) (λp=>.inl rfl) λ_=>.inr (by simp[uZ])
section
variable {b:aA} {k:ay} {J:Int->aK} {w:Int} (hw:fQ w) (hc:O0 b.aD) (h:EpT b.aD J) (hB:(J w).bU=true)
include hw hc h hB
theorem a42{cl:aD}(e:cl=b.aD)(a:(J w).Pc≠0)(c:j'=cM\/j'.Pc≠0/\j'.Pc≠20/\(j'.Pc=21->j'.Sub.Kind=4)):EpT cl (DA J w j'):=by unfold EpT;rw[a41,e];exact h.still hw (aKU (.inr a)) (bAR c)
theorem aVG:((J w).Pc=0->(J w).Sub.Kind=5/\(J w).Sub.iE=false/\((J w).Sub.Pc=0\/(J w).Sub.Pc=1/\(0<=(J w).Sub.E/\(J w).Sub.E<=b.aD.aL)\/(J w).Sub.Pc=2/\(dI b.aD w).aL=(J w).Sub.E)) /\
  ((J w).Pc=20->(J w).Sub.Kind=3/\(J w).Sub.iE=false/\((J w).Sub.Pc=0\/(J w).Sub.E<=b.aD.aL/\((J w).Sub.Pc=1/\(0<=(J w).Sub.B/\(J w).Sub.B<=2)\/(J w).Sub.Pc=2/\(J w).Sub.B=3))):=by obtain⟨_,_,a,p⟩:=h.1 w hw hB;exact⟨λq=>p (aVF hB q),λq=>a (bIQ hB q)⟩
theorem bT8(f:(J w).Pc=6\/(J w).Pc=15/\(J w).K<(J w).cK.length->(J w).Sub.Kind=1\/(J w).Sub.Kind=2)(m:(J w).Pc=21->(J w).Sub.Kind=4)(o:0<=(J w).Pc/\(J w).Pc<=21):EpT (fU b k w (J w)).b.aD (DA J w (fU b k w (J w)).j):=by
 obtain⟨s0,i⟩:=aVG hw hc h hB;by_cases g:(J w).Pc=0
 .obtain⟨t,d,_⟩:=s0 g;have q:iV b w (J w).Sub=C6 b w (J w).Sub:=by grind[iV]
  have e:fU b k w (J w)=⟨(C6 b w (J w).Sub).1,k,if(C6 b w (J w).Sub).2.iE then {J w with Pc:=1,Sub:=(C6 b w (J w).Sub).2} else {J w with Sub:=(C6 b w (J w).Sub).2},[]⟩:=by unfold fU;rw[aM (.inl g)];grind[pW]
  rw[e];unfold EpT;rw[a41];have:=h.pin hw (b:=b) rfl hc rfl (aVF hB g) (fin:=sjT {J w with Pc:=1,Sub:=(C6 b w (J w).Sub).2}) (bAR (.inr ae));rw[show(sjT (J w)).Sub=(J w).Sub from rfl] at this;cases l:(C6 b w (J w).Sub).2.iE
  .rw[l,dY] at this;rw[dY];exact this
  grind
 by_cases a:(J w).Pc=20
 .obtain⟨u,d,_⟩:=i a;have q:iV b w (J w).Sub=fP b (J w).Sub:=by grind[iV]
  have e:fU b k w (J w)=⟨(fP b (J w).Sub).1,k,if(fP b (J w).Sub).2.iE then {J w with Pc:=21,Sub:=C7 4 0} else {J w with Sub:=(fP b (J w).Sub).2},[]⟩:=by unfold fU;rw[aM (.inr (.inl a))];grind[pW]
  rw[e];unfold EpT;rw[a41];have:=h.advance hw (b:=b) rfl hc rfl (bIQ hB a) (fin:=sjT {J w with Pc:=21,Sub:=C7 4 0}) (bAR (.inr (by simp[C7])));rw[show(sjT (J w)).Sub=(J w).Sub from rfl] at this;cases l:(fP b (J w).Sub).2.iE
  .rw[l,dY] at this;rw[dY];exact this
  grind
 by_cases n:(J w).Pc=21
 .have j:=TP (b:=b) (w:=w) (s:=(J w).Sub) aa;have e:fU b k w (J w)=⟨(pW b w (J w)).1,k,(pW b w (J w)).2,[]⟩:=by simp_all[fU]
  grind[a42,bCO,pW]
 by_cases c:(J w).Pc=18
 .have e:fU b k w (J w)=⟨{b with aD:=(PR b.aD w).1},k,{J w with Pc:=19},[]⟩:=by unfold fU;simp[c]
  rw[e];unfold EpT;rw[a41];exact h.bT4 hw hc (aKU (.inr g)) (bAR (.inr ae))
 have j:(fU b k w (J w)).b.aD=b.aD:=by
  unfold fU;rw[iB];refine dX (P:=λr=>r.b.aD=b.aD) (λp=>rfl) λ_=>dX (P:=λr=>r.b.aD=b.aD) (λp=>rfl) λ_=>dX (P:=λr=>r.b.aD=b.aD) (λp=>?_) λ_=>dX (P:=λr=>r.b.aD=b.aD) (λp=>rfl) λ_=>dX (P:=λr=>r.b.aD=b.aD) (λp=>rfl) λ_=>
   dX (P:=λr=>r.b.aD=b.aD) (λp=>by grind[mO]) λ_=>dX (P:=λr=>r.b.aD=b.aD) (λp=>rfl) λ_=>dX (P:=λr=>r.b.aD=b.aD) (λp=>?_) λ_=>dX (P:=λr=>r.b.aD=b.aD) (λp=>by grind[HD]) λ_=>dX (P:=λr=>r.b.aD=b.aD) (λp=>absurd p c) λ_=>dX (P:=λr=>r.b.aD=b.aD) (λp=>rfl) λ_=>rfl
  .have:=TP (b:=b) (w:=w) (s:=(J w).Sub) (by have:=f (.inl p);omega);unfold yE;grind
  .unfold HC;split
   .rfl
   .exact TP (by have:=f (.inr ⟨p,aa⟩);omega)
 grind[a42,bIR]
end
def bIS{c:aD}{J:Int->aK}(a:fQ w)(h:EpT c J)(hn:J w=cM)(x:Batch)(s:Int):EpT c (DA J w (jZ x s)):=by
 unfold EpT;rw[a41];have e:sjT (jZ x s)=⟨true,⟨if x.Collect then 4 else 5,0,0,0⟩,0,0,if x.Collect then C7 3 0 else C7 5 0,0,0,0,0⟩:=by grind[sjT,jZ]
 refine h.step a rfl (λ_ _ _=>rfl) ?_ (λ_ d b=>?_) (λ_=>.inl ?_)
 .rw[e];intro _;grind[Adv,rS,C7]
 .obtain⟨g,f⟩:=h.2 w a (aKU (.inl hn)) d b;grind
 .rw[e];cases x.Collect<;>rfl
def sM.congr{b:aA}{c:Int->an}{q:Int->Nat}{J J':Int->aK}(h:sM Ky b k c q J)(e:∀v,fQ v->J' v=J v):sM Ky b k c q J':=by have m:=e 0 (by simp[fQ]);have l:=e 1 (by simp[fQ]);have j:=e 2 (by simp[fQ]);refine⟨h.hz,h.ch,h.key,λs=>by unfold cnO;rw[m,l,j];exact h.cnt s,λv d=>by rw[e v d];exact h.ok v d,λv d=>by rw[e v d];exact h.tw v d,λv d=>?_,λv d=>by rw[e v d];exact h.sb v d⟩;rw[e v d];intro p q;obtain⟨r,⟨a,i⟩,z⟩:=h.rd v d p q;exact⟨r,⟨⟨a.rp,a.nd,a.ky,λx f=>⟨(a.sf x f).1,λu g=>by rw[e u g];exact(a.sf x f).2 u g⟩⟩,i⟩,z⟩
section
variable {Ky:an} {b:aA} {k:ay} {c:Int->an} {q:Int->Nat} {J:Int->aK} {w:Int} (h:sM Ky b k c q J) (hl:∀v,fQ v->LkJ k v (J v)) (hw:fQ w) (hb:lR b) (hk:k.length=2/\∀x∈k,BkV x) (hJ:∀v,fQ v->(J v).bU=true->JB (J v)) (hB:(J w).bU=true) (hep:EpT b.aD J)
include h hl hw hb hk hJ hB hep
theorem bRQ(e:(J w).Pc=0\/(J w).Pc=20\/(J w).Pc=21):sM Ky (pW b w (J w)).1 k c q (DA J w (pW b w (J w)).2):=by
 have hc:=hb.1.2.1;obtain⟨s0,f⟩:=aVG hw hc hep hB;obtain p|p|p:=e
 .obtain⟨j,d,_⟩:=s0 p;have a:iV b w (J w).Sub=C6 b w (J w).Sub:=by grind[iV]
  unfold pW;rw[a,aM p];by_cases z:(C6 b w (J w).Sub).2.iE=false
  .rw[aM z];grind[bIL]
  .rw[aO z];grind[bIL]
 .obtain⟨m,d,_⟩:=f p;have a:iV b w (J w).Sub=fP b (J w).Sub:=by grind[iV]
  unfold pW;rw[a,aO (show ¬(J w).Pc=0 by omega),aM p];by_cases z:(fP b (J w).Sub).2.iE=false
  .rw[aM z];grind[bIM]
  .rw[aO z];grind[bIM]
 .obtain⟨l,d,_⟩:=(h.sb w hw).col p;have a:iV b w (J w).Sub=dD b w (J w).Sub:=by simp_all[iV]
  have g:∀v,fQ v->(J v).Pc=3\/(J v).Pc=4->m6 b.aD v->b.aD.aL<=(dI b.aD v).aL+1:=λv i q e=>(hep.2 v i (aKU (.inr aa)) e.1 e.2).1;unfold pW;rw[a,aO (show ¬(J w).Pc=0 by omega),aO (show ¬(J w).Pc=20 by omega)];by_cases z:(dD b w (J w).Sub).2.iE=false
  .rw[aM z];exact(aVC h hl hw hb hJ hB g p (.inr ⟨z,rfl⟩)).1
  .rw[aO z];exact(aVC h hl hw hb hJ hB g p (.inl ⟨aj,rfl⟩)).1
omit hl hk hJ in
theorem bRR(K:(J w).Pc<9\/13<(J w).Pc)(o:oT i){x:Int}(m:x∈c i):cX (fU b k w (J w)).b.Mem x=cX b.Mem x:=by
 have hc:=hb.1.2.1;have E:=hb.1.2.2.1;have ok:=((h.ch i o).all x m).1;have n:=h.sb w hw;obtain⟨s0,l⟩:=aVG hw hc hep hB;have kn:∀{m':Mem} {z:Int},Kn b.Mem m' z->x % 32≠z->cX m' x=cX b.Mem x:=λa e=>(a x ok e).2;have s:∀{m':Mem},m'=b.Mem->cX m' x=cX b.Mem x:=λe=>by rw[e]
 unfold fU;have P:∀{c:Prop} [Decidable c] {y z:TR},(c->cX y.b.Mem x=cX b.Mem x)->(¬c->cX z.b.Mem x=cX b.Mem x)->_:=dX (P:=λr=>cX r.b.Mem x=cX b.Mem x);refine P (λp=>?_) λ_=>P (λ_=>rfl) λ_=>P (λ_=>rfl) λ_=>P (λp=>?_) λ_=>P (λ_=>rfl) λ_=>P (λ_=>rfl) λ_=>P (λ_=>aa) λ_=>P (λ_=>rfl) λ_=>P (λp=>?_) λ_=>P (λp=>?_) λ_=>P (λ_=>rfl) λ_=>P (λ_=>rfl) λ_=>rfl
 .show cX (iV b w (J w).Sub).1.Mem x=_;obtain p|p|p:=p
  .obtain⟨F,d,_⟩:=s0 p;obtain⟨cl,e,_⟩:=a71 hc hw (J w).Sub;simp_all[iV]
  .obtain⟨H,d,_⟩:=l p;obtain⟨cl,e,_⟩:=a72 hc (J w).Sub;grind[iV]
  .obtain⟨G,d,_⟩:=n.col p;rw[show iV b w (J w).Sub=dD b w (J w).Sub by grind[iV]];have e:(dD b w (J w).Sub).1.Mem=b.Mem\/TO (dU b.aQ w) (J w).Sub/\(dD b w (J w).Sub).1.Mem=rR b.Mem w (J w).Sub.H:=by grind[dD]
   obtain e|⟨j,e⟩:=e
   .exact s e
   .have f:=VR E hw (aKM ⟨j.1,j.2.1⟩);have lv:=(hb.2 _ f).1;have g:=aQ0 hb.1.1 hw lv;rw[j.2.2] at g;rw[e];refine kn g λz=>?_;have u:=h.link hw o m;have u2:ind b (x % 32)=0:=aO λy=>y.2 ⟨_,f,lv.1,by rw[j.2.2];exact z.symm⟩;omega
 .show cX (yE b w (J w)).1.Mem x=_;unfold yE;split
  .rfl
  .obtain⟨C,B,A,t⟩:=n.al p;rcases(aQ1 hb.1.1 hw C B A t).two with ⟨e,_⟩|⟨_,_,_,_,e⟩
   .exact s e
   .exact kn e aa
 .show cX (HC b w (J w)).1.Mem x=_;unfold HC;split
  .rfl
  .rename_i q;obtain⟨_,I,d,_⟩:=n.rt p aa;grind[iV,wQ]
 .show cX (HD b w (J w)).1.Mem x=_;unfold HD;split
  .rfl
  .rename_i q;simp only;split
   .rfl
   .simp only[a39];split
    .rename_i lv;refine kn (aQ0 hb.1.1 hw lv) λz=>?_;have D:(J w).gN.getD 0 0∈own (J w):=by grind[own,lK]
     have u1:=h.link hw o m;have u2:=h.name hw hw D;grind
    .rfl
theorem bO0:∃c',sM Ky (fU b k w (J w)).b (fU b k w (J w)).k c' (upQ q w (qF Ky.length (q w) (J w))) (DA J w (fU b k w (J w)).j)/\ChW b.Mem (fU b k w (J w)).b.Mem c c' (J w) (fU b k w (J w)).j:=by
 have hc:=hb.1.2.1;have m:=(h.tw w hw hB).pc;by_cases g:9<=(J w).Pc/\(J w).Pc<=13
 .have e:fU b k w (J w)=⟨(mO b k (J w)).1,(mO b k (J w)).2.1,(mO b k (J w)).2.2,[]⟩:=by unfold fU;grind
  grind[bIP]
 have l:=λi j x n=>bRR h hw hb hB hep aa (i:=i) j (x:=x) n;refine⟨c,?_,λi j _=>⟨rfl,l i j⟩,λz=>absurd z g,λz=>absurd z g⟩;clear l;have a:((J w).Pc≠2/\(J w).Pc≠4)->∀{b':aA} {k':ay} {j':aK},sM Ky b' k' c q (DA J w j')->sM Ky b' k' c (upQ q w (qF Ky.length (q w) (J w))) (DA J w j'):=λz {b' k' j'} s=>by rw[show qF Ky.length (q w) (J w)=q w by unfold qF;grind,bID];exact s
 unfold fU;generalize o:upQ q w (qF Ky.length (q w) (J w))=f at a ⊢;have P:∀{d:Prop} [Decidable d] {y z:TR},(d->sM Ky y.b y.k c f (DA J w y.j))->(¬d->sM Ky z.b z.k c f (DA J w z.j))->_:=dX (P:=λr=>sM Ky r.b r.k c f (DA J w r.j));exact P (λp=>a aa (bRQ h hl hw hb hk hJ hB hep p)) λ_=>P (λp=>a aa (bM5 h hl hw hc hJ hB p)) λ_=>P (λp=>o ▸ bM7 h hl hw hc hJ hB p) λ_=>P (λp=>a aa (bIN h hl hw hb hJ hB p)) λ_=>P (λp=>a aa (bM8 h hl hw hc hJ hB hk.1 p)) λ_=>
  P (λp=>a aa (bRN h hl hw hc hJ hB p)) λ_=>P (λp=>absurd p g) λ_=>P (λp=>a aa (bCY h hl hw hc hJ hB hk.1 p)) λ_=>P (λp=>a aa (bCZ h hl hw hb hJ hB p)) λ_=>P (λp=>a aa (bNA h hl hw hb hJ hB p)) λ_=>P (λp=>a aa (bIK h hl hw hc hJ hB p)) λ_=>P (λp=>a aa (bM9 h hl hw hc hJ hB p)) λ_=>aa
end
structure Sft (Ky:an) (q:Int->Nat) (t:Table):Prop where
 sv:∃c,sM Ky t.aA t.aT c q (aE t)
 lk:aUZ t
 ep:EpT t.aA.aD (aE t)
 qk:∀w,fQ w->∀b∈uU t w,∀x∈b.bR,x.Key∈Ky
def Ep.bIT{c:aD}{J J':Int->aK}(h:EpT c J)(e:∀v,fQ v->J' v=J v):EpT c J':=Ep.congr (J:=λv=>sjT (J v)) h λv a=>by rw[e v a]
def VV(c:t.aR.length=3)(a:fQ w){l:bp}{x:aK}(hl:l=t.aR.set w.toNat x){v:Int}(b:fQ v):l.getD v.toNat cM=DA (aE t) w x v:=aU0 c hl a b
def bRS(c:t.eE.length=3){v:Int}(a:fQ w)(b:fQ v)(l:bm):((t.eE.set w.toNat ⟨l⟩).getD v.toNat ⟨[]⟩).List=if v=w then l else uU t v:=by grind[uU]
def nxQ(Ky:an)(q:Int->Nat)(t:Table)(w:Int):Int->Nat:=if(aE t w).bU then upQ q w (qF Ky.length (q w) (aE t w)) else q
def Sft.step{q:Int->Nat}(g:TV t)(d:fQ w)(h:Sft Ky q t):Sft Ky (nxQ Ky q t w) (bM t w):=by
 have l:=g.yY.1;have o:∀v,fQ v->(aE t v).bU=true->JB (aE t v):=λv a f=>(g.yY.2 _ (C9 l a)).resolve_left λe=>by rw[e] at f;cases f
 obtain⟨c,k⟩:=h.sv;have b:=h.lk.step g d;have hc:=g.base.1.2.1;unfold nxQ;unfold bM at b ⊢;by_cases f:(aE t w).bU=true
 .rw[aM f] at b ⊢;rw[aM f];obtain⟨c',q,_⟩:=bO0 k h.lk d g.base g.bk o f h.ep;have e:∀v,fQ v->aE (BV t w (fU t.aA t.aT w (aE t w))) v=DA (aE t) w (fU t.aA t.aT w (aE t w)).j v:=λv a=>VV l d rfl a;have sb:=k.sb w d;refine⟨⟨c',q.congr e⟩,b,Ep.bIT (bT8 d hc h.ep f (λp=>?_) (λp=>(sb.col p).1) (k.tw w d f).pc) e,h.qk⟩;obtain p|⟨p,s⟩:=p
  .exact .inl (sb.al p).1
  .exact .inr (sb.rt p s).2.1
 .rw[aO f] at b ⊢;rw[aO f];by_cases u:(uU t w).length=0\/t.aG=1000000
  .grind
  .rw[aO u] at b ⊢;have r:0<(uU t w).length:=aa
   have A:(uU t w).getD 0 ⟨false,[]⟩=(uU t w)[0]:=aj
   have n:(uU t w).getD 0 ⟨false,[]⟩∈uU t w:=aj
   have m:aE t w=cM:=(g.yY.2 _ (C9 l d)).resolve_right λj=>f j.busy;generalize (uU t w).getD 0 ⟨false,[]⟩=x at n b;have e:∀v,fQ v->aE (uV t w x) v=DA (aE t) w (jZ x (t.aG+1)) v:=λv a=>VV l d rfl a;refine⟨⟨c,(a4Y k h.lk d hc o m (h.qk w d x n) _).congr e⟩,b,Ep.bIT (bIS d h.ep m x _) e,λv a y i z hz=>?_⟩;have ev:uU (uV t w x) v=if v=w then(uU t w).drop 1 else uU t v:=bRS g.todo.1 d a _;rw[ev] at i;split at i
   .exact h.qk w d y (XE i) z hz
   .exact h.qk v a y i z hz
def Sft.zero{l:ax}(hk:∀q∈l,∀b∈q.List,∀x∈b.bR,x.Key∈Ky):Sft Ky (λ_=>0) (dA l):=by
 have a:∀w,fQ w->aE (dA l) w=cM:=λw f=>by rcases(by omega:w=0\/w=1\/w=2) with rfl|rfl|rfl<;>rfl
 have p:∀i,oT i->eG (dA l).aT i=⟨0,0,0⟩:=λi h=>by rcases(by omega:i=0\/i=1) with rfl|rfl<;>rfl
 have o:own cM=[]:=(LD (.inl ai)).1;have z:=a 0 (by simp[fQ]);have y:=a 1 (by simp[fQ]);have u:=a 2 (by simp[fQ]);refine⟨⟨λ_=>[],rfl,λi h=>by rw[p i h];rfl,λi _=>by simp[nQ],λs=>?_,λv c x m=>?_,λv c g=>?_,λv c=>by rw[a v c];exact .no ai,λv c=>by rw[a v c];exact .no ai⟩,aUZ.zero l,?_,λw f b r x m=>?_⟩
 .have:ind (dA l).aA s=0:=aAN (.inl λq=>by
   have hc:=eC q;obtain⟨t,n,_⟩:=sZ hc;have j:=kK.1 (show 0<cT (cH bAE (s/4).toNat) from Int.lt_of_le_of_lt aa n);rcases(by omega:(s/4).toNat=0\/(s/4).toNat=1\/(s/4).toNat=2\/(s/4).toNat=3\/(s/4).toNat=4\/(s/4).toNat=5) with e|e|e|e|e|e<;>rw[e] at j<;>exact absurd j.1 ai)
  simp_all[cnC,cnO]
 .grind
 .rw[a v c] at g;cases g
 .refine⟨λw f g=>?_,λw f _ k=>?_⟩
  .have d:(sjT (aE (dA l) w)).bU=true:=g;rw[a w f] at d;cases d
  .rcases(by omega:w=0\/w=1\/w=2) with rfl|rfl|rfl<;>cases k
 grind[uU,dA]
def aAO(e:Int)(s:Sub):Int:=if s.Pc=0 then 3 else if s.Pc=1 then(if s.E=e then 2 else 5) else if s.E=e then 1 else 4
def W8(s:Sub):Int:=if s.Pc=0 then 5 else if s.Pc=1 then 4-s.B else 1
def aAP(s:Sub):Int:=if s.Pc=0 then 8 else if s.Pc=1 then 7 else if s.Pc=2 then 6-s.B else 3
def cN(e:Int)(q:Nat)(j:aK):Int:=
 if j.bU=false then 0
 else if j.Pc=0 then aAO e j.Sub+j.Batch.bR.length*42+15
 else if j.Pc=1 then(j.Batch.bR.length-j.At)*19+j.Batch.bR.length*23+15
 else if j.Pc=2 then(j.Batch.bR.length-j.At)*19-1+j.Batch.bR.length*23+15
 else if j.Pc=3 then(j.Batch.bR.length-j.At-1)*19+2*q+3+j.Batch.bR.length*23+15
 else if j.Pc=4 then(j.Batch.bR.length-j.At-1)*19+2*q+2+j.Batch.bR.length*23+15
 else if j.Pc=5 then(j.Batch.bR.length-j.At-1)*19+1+j.Batch.bR.length*23+15
 else if j.Pc=6 then(if j.K<gG j.aH j.aH.length then 4*(gG j.aH j.aH.length-j.K)-j.Sub.Pc else 0)+j.aH.length*19+14
 else if j.Pc=7 then(if j.K<(rO j.aH).length then 13-j.K else 11)+j.aH.length*19
 else if j.Pc=8 then(if j.K<j.Reads.length then(j.Reads.length:Int)-j.K else 0)+6+j.bH.length+j.aH.length*19
 else if j.Pc=9 then(if j.K<j.aH.length then((j.aH.length:Int)-j.K)*19 else 0)+5+7*j.cK.length+j.bH.length
 else if j.Pc=10 then(j.aH.length-j.K)*19-3+q+7*j.cK.length+j.bH.length
 else if j.Pc=11 then(j.aH.length-j.K)*19-4+7*j.cK.length+j.bH.length
 else if j.Pc=12 then(j.aH.length-j.K)*19-12+7*j.cK.length+j.bH.length
 else if j.Pc=13 then(j.aH.length-j.K)*19-13+7*j.cK.length+j.bH.length
 else if j.Pc=14 then 4+7*j.cK.length+j.bH.length
 else if j.Pc=15 then(if j.K<j.cK.length then 3+7*(j.cK.length-j.K)-j.Sub.Pc else 3)
 else if j.Pc=16 then 4+j.gN.length+j.bH.length
 else if j.Pc=17 then 3+j.gN.length
 else if j.Pc=18 then 2
 else if j.Pc=19 then 1
 else if j.Pc=20 then W8 j.Sub+8
 else aAP j.Sub
section
variable {e:Int} {q:Nat} {j:aK} (hB:j.bU=true)
include hB
theorem jc0(a:j.Pc=0):cN e q j=aAO e j.Sub+j.Batch.bR.length*42+15:=by simp_all[cN]
theorem jc1(a:j.Pc=1):cN e q j=(j.Batch.bR.length-j.At)*19+j.Batch.bR.length*23+15:=by simp_all[cN]
theorem jc2(a:j.Pc=2):cN e q j=(j.Batch.bR.length-j.At)*19-1+j.Batch.bR.length*23+15:=by simp_all[cN]
theorem jc3(a:j.Pc=3):cN e q j=(j.Batch.bR.length-j.At-1)*19+2*q+3+j.Batch.bR.length*23+15:=by simp_all[cN]
theorem jc4(a:j.Pc=4):cN e q j=(j.Batch.bR.length-j.At-1)*19+2*q+2+j.Batch.bR.length*23+15:=by simp_all[cN]
theorem jc5(a:j.Pc=5):cN e q j=(j.Batch.bR.length-j.At-1)*19+1+j.Batch.bR.length*23+15:=by simp_all[cN]
theorem jc6(a:j.Pc=6):cN e q j=(if j.K<gG j.aH j.aH.length then 4*(gG j.aH j.aH.length-j.K)-j.Sub.Pc else 0)+j.aH.length*19+14:=by simp_all[cN]
theorem jc7(a:j.Pc=7):cN e q j=(if j.K<(rO j.aH).length then 13-j.K else 11)+j.aH.length*19:=by simp_all[cN]
theorem jc8(a:j.Pc=8):cN e q j=(if j.K<j.Reads.length then(j.Reads.length:Int)-j.K else 0)+6+j.bH.length+j.aH.length*19:=by simp_all[cN]
theorem jc9(a:j.Pc=9):cN e q j=(if j.K<j.aH.length then((j.aH.length:Int)-j.K)*19 else 0)+5+7*j.cK.length+j.bH.length:=by simp_all[cN]
theorem bND(a:j.Pc=10):cN e q j=(j.aH.length-j.K)*19-3+q+7*j.cK.length+j.bH.length:=by simp_all[cN]
theorem bRT(a:j.Pc=11):cN e q j=(j.aH.length-j.K)*19-4+7*j.cK.length+j.bH.length:=by simp_all[cN]
theorem bRU(a:j.Pc=12):cN e q j=(j.aH.length-j.K)*19-12+7*j.cK.length+j.bH.length:=by simp_all[cN]
theorem bRV(a:j.Pc=13):cN e q j=(j.aH.length-j.K)*19-13+7*j.cK.length+j.bH.length:=by simp_all[cN]
theorem bNE(a:j.Pc=14):cN e q j=4+7*j.cK.length+j.bH.length:=by simp_all[cN]
theorem a74(a:j.Pc=15):cN e q j=(if j.K<j.cK.length then 3+7*(j.cK.length-j.K)-j.Sub.Pc else 3):=by simp_all[cN]
theorem bIU(a:j.Pc=16):cN e q j=4+j.gN.length+j.bH.length:=by simp_all[cN]
theorem bRW(a:j.Pc=17):cN e q j=3+j.gN.length:=by simp_all[cN]
theorem bNF(a:j.Pc=18):cN e q j=2:=by simp_all[cN]
theorem bNG(a:j.Pc=19):cN e q j=1:=by simp_all[cN]
theorem bIV(a:j.Pc=20):cN e q j=W8 j.Sub+8:=by simp_all[cN]
theorem a75(a:j.Pc=21):cN e q j=aAP j.Sub:=by simp_all[cN]
end
def kZ(b:aA)(w:Int):Int:=(dU b.aQ w).length
def aKV{x:Sub}{A B:aK}(h:x.iE=false):(if x.iE=false then A else B)=A:=aM h
def aY9(a:JB j):j.bH.length<=2:=by
 have:=BW (l:=j.bH) (m:=[0,1]) a.held.2 λx b=>by have:=a.held.1 x b;simp;omega
 omega
section
variable {Ky:an} {b:aA} {k:ay} {c:Int->an} {q:Int->Nat} {J:Int->aK} {w:Int} (hK:Ky.length<=8) (h:sM Ky b k c q J) (hl:∀v,fQ v->LkJ k v (J v)) (hw:fQ w) (hb:lR b) (hk:k.length=2/\∀x∈k,BkV x) (hJ:∀v,fQ v->(J v).bU=true->JB (J v)) (hB:(J w).bU=true) (hep:EpT b.aD J)
include hK h hl hw hb hk hJ hB hep
theorem a1U{x:Int}(hn:j'.gN.length<=(J w).aH.length/\j'.bH.length<=2):cN e n (uZ j' x)<=6+(J w).aH.length:=by
 cases a:j'.bU
 .unfold cN;rw[aM (show(uZ j' x).bU=false from a)];omega
 grind[bIU,uZ]
theorem a43{v:Int}{is:Bool}(i:1<=j.Pc/\j.Pc<=5)(t:TW Ky b.Mem k c n j)(d:JB j)(f:wR j):cN e n (sK j (cZ j) v is)<=(j.Batch.bR.length-j.At-1)*19+j.Batch.bR.length*23+15:=by
 obtain⟨l,g⟩:=a73 t d i f v is;have a:(sK j (cZ j) v is).At=j.At+1/\(sK j (cZ j) v is).Batch=j.Batch/\(sK j (cZ j) v is).bU=j.bU:=by
  have m:=aEO j.aH ⟨(cZ j).Key,false,HB (if is then v else 0) (cZ j).dP⟩;have:=t.wl;have:=d.bat.2.1;unfold wR at f;unfold sK;split
  .unfold aCC pK aAK;grind
  .exact⟨rfl,rfl,rfl⟩
 rw[jc1 (a.2.2.trans d.busy) g,a.1,a.2.1];omega
theorem bIW(u:(J w).Pc=0\/(J w).Pc=20\/(J w).Pc=21):cN (pW b w (J w)).1.aD.aL (q w) (pW b w (J w)).2+5*kZ (pW b w (J w)).1 w+1<=cN b.aD.aL (q w) (J w)+5*kZ b w/\((pW b w (J w)).1.aD.aL=b.aD.aL\/(J w).Pc=20/\(pW b w (J w)).2.Pc=21):=by
 have hc:=hb.1.2.1;have A:=hJ w hw hB;have r:=A.at_;obtain⟨s0,l⟩:=aVG hw hc hep hB;obtain p|p|p:=u
 .obtain⟨K,d,s⟩:=s0 p;have j:iV b w (J w).Sub=C6 b w (J w).Sub:=by simp_all[iV]
  obtain⟨cl,e,R,Q⟩:=a71 hc hw (J w).Sub;unfold pW;rw[j,aM p,jc0 hB p];have i:kZ (C6 b w (J w).Sub).1 w=kZ b w:=by rw[e];rfl
  have C:(C6 b w (J w).Sub).1.aD.aL=b.aD.aL:=aj
  simp only[i,C];refine⟨?_,.inl trivial⟩;obtain z|⟨z,n,G⟩|⟨z,n⟩:=s
  .have a:(C6 b w (J w).Sub).2={(J w).Sub with Pc:=1,E:=b.aD.aL}:=by unfold C6;grind
   rw[a,aKV (by exact d),jc0 (by exact hB) (by exact p)];grind[aAO]
  .have a:(C6 b w (J w).Sub).2={(J w).Sub with Pc:=2}:=by simp_all[W5,C6]
   rw[a,aKV (by exact d),jc0 (by exact hB) (by exact p)];grind[aAO]
  .by_cases y:b.aD.aL=(J w).Sub.E
   .have a:(C6 b w (J w).Sub).2=BS (J w).Sub 0:=by unfold C6;grind
    rw[a,aO (by simp[BS]),jc1 (by exact hB) rfl];grind[aAO]
   .have a:(C6 b w (J w).Sub).2={(J w).Sub with Pc:=0}:=by unfold C6;grind
    rw[a,aKV (by exact d),jc0 (by exact hB) (by exact p)];unfold aAO;grind
 .obtain⟨M,d,s⟩:=l p;have j:iV b w (J w).Sub=fP b (J w).Sub:=by grind[iV]
  have i:kZ (fP b (J w).Sub).1 w=kZ b w:=by obtain⟨cl,e,_⟩:=a72 hc (J w).Sub;rw[e];rfl
  unfold pW;rw[j,aO (show ¬(J w).Pc=0 by omega),aM p,bIV hB p];simp only[i];have o:∀{x:Sub} {b':aA},x.iE=true->1<=W8 (J w).Sub->cN b'.aD.aL (q w) (if x.iE=false then {J w with Sub:=x} else {J w with Pc:=21,Sub:=C7 4 0})+5*kZ b w+1<=W8 (J w).Sub+8+5*kZ b w/\(b'.aD.aL=b.aD.aL\/(J w).Pc=20/\(if x.iE=false then {J w with Sub:=x} else {J w with Pc:=21,Sub:=C7 4 0}).Pc=21):=λ{x b'} t D=>by rw[aO (by simp[t]),a75 (by exact hB) rfl];grind[aAP,C7]
  obtain z|⟨_,⟨z,n⟩|⟨z,n⟩⟩:=s
  .have a:fP b (J w).Sub=(b,{(J w).Sub with Pc:=1,E:=b.aD.aL,B:=0}):=by simp_all[fP]
   rw[a,aKV (by exact d),bIV (by exact hB) (by exact p)];grind[W8]
  .by_cases y:(LX b.aD (J w).Sub.B (J w).Sub.E).2=true
   .have a:fP b (J w).Sub=({b with aD:=(LX b.aD (J w).Sub.B (J w).Sub.E).1},{(J w).Sub with Pc:=if(J w).Sub.B=2 then 2 else 1,B:=(J w).Sub.B+1}):=by simp_all[fP]
    rw[a,aKV (by exact d),bIV (by exact hB) (by exact p)];grind[aUM,W8]
   .have a:(fP b (J w).Sub).2=BS (J w).Sub 8:=by simp_all[fP]
    rw[a];exact o rfl (by unfold W8;omega)
  .have a:(fP b (J w).Sub).2.iE=true:=by unfold fP;rw[iB,iB,aM z];rfl
   exact o a (by simp_all[W8])
 .obtain⟨L,d,s⟩:=(h.sb w hw).col p;have j:iV b w (J w).Sub=dD b w (J w).Sub:=by simp_all[iV]
  have m:(dD b w (J w).Sub).1.aD=b.aD:=by grind[TP]
  unfold pW;rw[j,aO (show ¬(J w).Pc=0 by omega),aO (show ¬(J w).Pc=20 by omega),a75 hB p];simp only[m];refine⟨?_,.inl trivial⟩;obtain z|⟨_,⟨z,I⟩|⟨z,g,f,i⟩|⟨z,f,i⟩⟩:=s
  .have e:dD b w (J w).Sub=(b,{(J w).Sub with Pc:=1,E:=b.aD.aL,Row:=0}):=by simp_all[dD]
   rw[e,aKV (by exact d),a75 (by exact hB) (by exact p)];grind[aAP]
  .by_cases y:uT (dU b.aQ w) (J w).Sub.E (J w).Sub.Row.toNat<(dU b.aQ w).length
   .have e:dD b w (J w).Sub=(b,{(J w).Sub with Pc:=2,Row:=(uT (dU b.aQ w) (J w).Sub.E (J w).Sub.Row.toNat:Int),B:=0,H:=(RL (dU b.aQ w) (uT (dU b.aQ w) (J w).Sub.E (J w).Sub.Row.toNat:Int)).Handle}):=by simp_all[dD]
    rw[e,aKV (by exact d),a75 (by exact hB) (by exact p)];grind[aAP]
   .have e:dD b w (J w).Sub=(b,BS (J w).Sub 0):=by simp_all[dD,aO]
    rw[e,aO (by simp[BS]),bNG (by exact hB) rfl];grind[aAP]
  .have N:(J w).Sub.H≠0:=by have:=(hb.2 _ (VR hb.1.2.2.1 hw (aKM ⟨f.1,f.2.1⟩))).1.1;rw[f.2.2] at this;grind[lJ]
   have e:dD b w (J w).Sub=(b,{(J w).Sub with Pc:=if(J w).Sub.B=2 then 3 else 2,B:=(J w).Sub.B+1}):=by unfold dD;rw[iB,iB,aM z,aM ⟨g,f⟩,aO (by rw[bOZ h.hz g];omega)]
   rw[e,aKV (by exact d),a75 (by exact hB) (by exact p)];unfold aAP;grind
  .have e:dD b w (J w).Sub=({b with Mem:=rR b.Mem w (J w).Sub.H,aQ:=b.aQ.set w.toNat ⟨(dU b.aQ w).eraseIdx (J w).Sub.Row.toNat⟩},{(J w).Sub with Pc:=1,Out:=aZ ((J w).Sub.Out+1)}):=by simp_all[dD]
   rw[e,aKV (by exact d),a75 (by exact hB) (by exact p)];have O:=hb.1.2.2.1.1;have F:kZ ({b with Mem:=rR b.Mem w (J w).Sub.H,aQ:=b.aQ.set w.toNat ⟨(dU b.aQ w).eraseIdx (J w).Sub.Row.toNat⟩}:aA) w=kZ b w-1:=by have D:=f.1;have P:=f.2.1;unfold kZ dU at *;grind
   simp only[F];unfold aAP;grind
end
section
variable {Ky:an} {b:aA} {k:ay} {c:Int->an} {q:Int->Nat} {J:Int->aK} {w:Int} (hK:Ky.length<=8) (h:sM Ky b k c q J) (hl:∀v,fQ v->LkJ k v (J v)) (hw:fQ w) (hb:lR b) (hk:k.length=2/\∀x∈k,BkV x) (hJ:∀v,fQ v->(J v).bU=true->JB (J v)) (hB:(J w).bU=true) (hep:EpT b.aD J)
include hK h hl hw hb hk hJ hB hep
theorem bC1(g:(J w).Pc=1):cN e n (sG (J w))+1<=cN e n (J w):=by
 have t:=h.tw w hw hB;have a:=hJ w hw hB;have i:=a.at_;have j:TW Ky b.Mem k c n (J w):={t with st:=λz=>absurd z aa};rw[jc1 hB g];unfold sG;split
 .rename_i d;split
  .have l:=a.bat.2.1;have wl:=t.wl;have f:=aEO (J w).aH ⟨(cZ (J w)).Key,(cZ (J w)).Kind == 3,(cZ (J w)).dP⟩;unfold wR at d;unfold pK;rw[aO (show ¬6<(yC (J w).aH ⟨(cZ (J w)).Key,(cZ (J w)).Kind == 3,(cZ (J w)).dP⟩).length by omega),aM rfl,jc1 (by exact hB) (by exact g)];grind
  .split
   .have:=a43 hK h hl hw hb hk hJ hB hep (e:=e) (n:=n) (v:=(T9 (J w).aH (cZ (J w)).Key).1.dP) (is:=!(T9 (J w).aH (cZ (J w)).Key).1.LJ) aa j a d;omega
   .rw[jc2 (by exact hB) rfl];grind
 .rename_i d;have wl:=t.wl;have pl:=YW (J w).aH (J w).aH.length;grind[jc6,C7]
theorem bC2(y:2<=(J w).Pc/\(J w).Pc<=5):cN e (qF Ky.length (q w) (J w)) (i6 b k w (J w))+1<=cN e (q w) (J w):=by
 have t:=h.tw w hw hB;have g:=hJ w hw hB;have o:=g.at_;have m:=t.hc y;have wl:=t.wl;have D:=aY9 g;have C:=t.nO aa;have ab:∀{j':aK} {x:Int},j'.gN=(J w).gN/\j'.bH=(J w).bH->∀n,cN e n (uZ j' x)<=6+(J w).aH.length:=λ{j' x} z n=>a1U hK h hl hw hb hk hJ hB hep aj;have p:(J w).At<(J w).Batch.bR.length:=m;unfold i6;by_cases l:(J w).Pc=2
 .rw[aM l,jc2 hB l];split
  .grind
  .have u:qF Ky.length (q w) (J w)<=7:=by simp_all[qF]
   split
   .rw[jc5 (by exact hB) rfl];grind
   .rw[jc3 (by exact hB) rfl];grind
 rw[aO l];by_cases j:(J w).Pc=3
 .rw[aM j,jc3 hB j,jc4 (by exact hB) rfl,show qF Ky.length (q w) (J w)=q w by simp_all[qF]];grind
 rw[aO j];by_cases f:(J w).Pc=4
 .rw[aM f,jc4 hB f];split
  .grind
  .rename_i i;have d:m6 b.aD w:=Classical.byContradiction i;obtain⟨r,⟨a,B⟩,A⟩:=h.rd w hw (.inr f) d;obtain⟨_,E⟩:=A f;by_cases z:(J w).Node.Key=(cZ (J w)).Key\/RO (J w).Node=0
   .rw[aM z,jc5 (by exact hB) rfl];grind
   .rw[aO z,jc3 (by exact hB) rfl];have u:qF Ky.length (q w) (J w)=q w-1:=by simp_all[qF]
    grind[RO]
 rw[aO f,jc5 hB aa];split
 .grind
 split
 .grind
 have s:TW Ky b.Mem k c (qF Ky.length (q w) (J w)) {J w with Reads:=(uS (J w).Reads (J w).bZ (J w).eW).1}:={t with st:=λz=>absurd z aj};have:=a43 hK h hl hw hb hk hJ hB hep (e:=e) (v:=(J w).Node.dP) (is:=(J w).Found) aj s (g.spt _ _ g.bkt) m;exact aQ8 (Int.add_le_add_right this 1) aj
theorem a76(a:(J w).Pc=6):cN b.aD.aL (q w) (yE b w (J w)).2+1<=cN b.aD.aL (q w) (J w):=by
 have t:=h.tw w hw hB;have f:=hJ w hw hB;have r:=aY9 f;have i:=t.n6 a;have pl:=YW (J w).aH (J w).aH.length;obtain⟨o,m,l,j⟩:=(h.sb w hw).al a;rw[jc6 hB a];unfold yE;by_cases c1:gG (J w).aH (J w).aH.length<=(J w).K
 .rw[aM c1,jc7 (by exact hB) rfl];grind
 rw[aO c1,aM (show(J w).K<_ by omega)];obtain⟨A,z,y,p⟩:=aQ1 hb.1.1 hw o m l j;have g:=f.wr.1;simp only;obtain⟨em,⟨d,e⟩|⟨B,s⟩⟩|⟨d,e,wk,u,kn⟩:=p
 .rw[aO aj,aM (.inl aa)];exact aQ8 (Int.add_le_add_right (a1U hK h hl hw hb hk hJ hB hep (e:=b.aD.aL) (n:=q w) (j':={J w with Sub:=(iV b w (J w).Sub).2}) (x:=(iV b w (J w).Sub).2.Code) ⟨aj,r⟩) 1) aa
 .rw[aM aj,jc6 (by exact hB) (by exact a),s];grind
 .rw[aO aj,aO (by
   rintro(q|q|q)
   .exact q e
   .exact q wk.1.1
   .omega),jc6 (by exact hB) (by exact a)]
  grind[C7]
theorem bC3(g:(J w).Pc=7):cN e n (pU k w (J w)).2.1+1<=cN e n (J w):=by
 have t:=h.tw w hw hB;have d:=hJ w hw hB;have i:=aY9 d;have j:=d.rd2;have o:=(t.n7 aa).1;have pl:=YW (J w).aH (J w).aH.length;have s:=a1A (J w).aH;have ab:∀x,cN e n (uZ (J w) x)<=6+(J w).aH.length:=λx=>a1U hK h hl hw hb hk hJ hB hep ⟨aa,i⟩;rw[jc7 hB g];unfold pU;by_cases c1:(J w).K<(rO (J w).aH).length
 .rw[aM c1,aM c1];have p:=d.k;split
  .grind
  split
  .grind
  have B:(MR (J w)).bH.length<=2:=by
   have z:(J w).K.toNat<(rO (J w).aH).length:=aa
   have C:gK (J w)=(rO (J w).aH)[(J w).K.toNat]:=by grind[gK]
   have r:0<=gK (J w)/\gK (J w)<=1:=by grind[YS,cQ]
   unfold MR;simp only;split
   .exact i
   .rename_i hm;have:=BW (l:=(J w).bH++[gK (J w)]) (m:=[0,1]) (aIL.2 ⟨d.held.2,ae,λa A y u=>aj⟩) λx f=>by
     obtain f|f:=dR.1 f
     .have:=d.held.1 x f;simp;omega
     grind
    omega
  split
  .grind[jc8,MR]
  .rw[jc7 (by exact hB) (by exact g)];unfold MR;grind
 .rw[aO c1,aO c1,jc8 (by exact hB) rfl];grind
theorem bIX(d:(J w).Pc=8):cN e n (OY k w (J w))+1<=cN e n (J w):=by
 have t:=h.tw w hw hB;have f:=hJ w hw hB;have i:=aY9 f;have g:=t.oO aa;have a:=(t.n7 aa).1;have pl:=YW (J w).aH (J w).aH.length;rw[jc8 hB d];unfold OY;by_cases c1:((J w).Reads.length:Int)<=(J w).K
 .rw[aM c1,jc9 (by exact hB) rfl];grind
 rw[aO c1,aM (show(J w).K<_ by omega)];grind[bIU,uZ,jc8]
theorem bIY(a:(J w).Pc=14\/(J w).Pc=16):cN e n (DX k (J w)).2+1<=cN e n (J w):=by
 unfold DX;by_cases c1:0<(J w).bH.length
 .rw[aM c1];grind[bNE,bIU]
 .rw[aO c1];obtain p|p:=a
  .rw[iB,bNE hB p];unfold OZ;by_cases z:(0:Int)<(J w).cK.length
   .rw[aM z,a74 (by exact hB) rfl];simp only[C7];omega
   simp_all[a74]
  .rw[aM p,bIU hB p,bRW (by exact hB) rfl];grind
theorem bIZ(a:(J w).Pc=15):cN e n (HC b w (J w)).2+5*kZ (HC b w (J w)).1 w+1<=cN e n (J w)+5*kZ b w:=by
 have t:=hJ w hw hB;unfold HC;rw[a74 hB a];by_cases c1:((J w).cK.length:Int)<=(J w).K
 .rw[aM c1,bNF (by exact hB) rfl,aO (show ¬(J w).K<_ by omega)];grind
 rw[aO c1,aM (show(J w).K<_ by omega)];obtain⟨s0,r,f,p,d⟩:=(h.sb w hw).rt a aa;have j:iV b w (J w).Sub=wQ b w (J w).Sub:=by grind[iV]
 rw[j];obtain s|⟨g,o,m⟩:=d
 .have l:wQ b w (J w).Sub=(b,{(J w).Sub with Pc:=1,E:=b.aD.aL}):=by simp_all[wQ]
  rw[l,aO (by simp[f]),a74 (by exact hB) (by exact a)];grind
 .have i:kZ (wQ b w (J w).Sub).1 w<=kZ b w+1/\(wQ b w (J w).Sub).2.iE=true:=by
   have u:=hb.1.2.2.1.1;unfold wQ;rw[iB,aM g,aM ⟨o,m⟩];split
   .refine⟨?_,rfl⟩;unfold kZ dU;grind
   .exact⟨aj,rfl⟩
  rw[aM i.2];unfold OZ;by_cases z:(J w).K+1<(J w).cK.length
  .rw[aM z,a74 (by exact hB) (by exact a)];simp only[C7];omega
  .rw[aO z,a74 (by exact hB) (by exact a)];grind
end
end Go.Gv
end
