import Derived.Test.YtkinioiglogchaaGreatXTF
set_option linter.unusedVariables false
set_option linter.unusedSimpArgs false
set_option linter.unusedSectionVars false
set_option linter.constructorNameAsVariable false
set_option linter.unnecessarySimpa false
noncomputable section
namespace Go.Gv
theorem aM5{L:List KV}(hl:L.length<=1000)(k:Int):DY L k=some ((kvm L k).getD 0,(kvm L k).isSome):=by
 have key:∀(r a:List KV),L=a++r->loop (xW L k) (a.length:Int)=some (match kvm r k with|some v=>.ret (v,true)|none=>.brk ()):=λr=>by
  induction r with
  |nil=>
   intro a e;refine bB ?_;simp only[xW];rw[aP (by rw[e];simp)];rfl
  |cons x r ih=>
   intro a e;have hi:a.length<L.length:=by rw[e];simp
   have ex:L[a.length]=x:=by simp[e]
   by_cases q:x.Key=k
   ·refine bB ?_;simp only[xW];rw[eV,aZ hi,aM,ex,aO (by simpa using q),aM,aV5,aO q]
   ·rw[bG (s':=((a++[x]).length:Int)) (by
     simp only[xW];rw[eV,aZ hi,aM,ex,aP (by simpa using q),dO];simp),ih (a++[x]) (by rw[e];simp),aV5,aP q]
 unfold DY;have:=key L [] rfl;rw[show(([]:List KV).length:Int)=0 from rfl] at this;rw[this];cases kvm L k<;>rfl
theorem aQE{code:List UInt8}(hl:code.length<=1048576){i:Int}(hi:0<=i/\i<=1000):∃a,TC code i=some a/\0<=a/\a<=255:=by
 unfold TC;by_cases h0:i<code.length
 ·rw[aO (by simpa using h0),gW hi.1 h0,aM];refine⟨_,rfl,aa,?_⟩;have:=(code[i.toNat]' aa).toNat_lt;omega
 ·rw[aP (by simpa using h0)];refine⟨_,rfl,?_⟩;rw[dO (x:=i*37),dO (x:=(code.length:Int)*11),dO,aQJ aa];omega
theorem aY4{n:Int}{t:Table}(h:Bz n t){c:Int->List Int}{q:Int->Nat}(sv:sK Ky7 t.aA t.aR c q (aD t)){M:IE}(hm:∀i,oG i->∀k,jJ k=i->M k=lkp t.aA.Mem (c i) k){k:Int}(hk:0<=k/\k<=99):kvm (aY3 t.aA.Mem c) k=M k:=by
 rw[(aM4 h sv).2];have miss:∀i,oG i->jJ k≠i->lkp t.aA.Mem (c i) k=none:=λi hi z=>aMQ λa ha y=>by have:=((sv.key i hi).2 _ (AU.2 ⟨a,ha,rfl⟩)).1;rw[y] at this;exact z this
 have hb:jJ k=0\/jJ k=1:=by unfold jJ;rw[aO hk];omega
 rcases hb with z|z
 ·rw[hm 0 (by simp[oG]) k z,miss 1 (by simp[oG]) aa];rfl
 ·rw[hm 1 (by simp[oG]) k z,miss 0 (by simp[oG]) aa,Option.or_none]
def cmP(C:List eJ):Prop:=C=[]\/∃v,(1<=v/\v<=256)/\C=[⟨4,7,v⟩]
def aID(v:Int):Batch:=⟨false,[⟨4,7,v⟩]⟩
def G8:Batch:=⟨true,[]⟩
def CtQ(q:aJ):Prop:=∃a b c:Int,(1<=a/\a<=256)/\(1<=b/\b<=256)/\(1<=c/\c<=256)/\q=⟨[aID a,G8,aID b,G8,aID c,G8]⟩
theorem YN{q:aJ}(h:CtQ q):(QuV q/\QuD 13 910 q)/\G7 isC q.List=3/\∀b∈q.List,cmP b.bN:=by
 obtain⟨a,b,c,ha,hb,hc,rfl⟩:=h;refine⟨⟨⟨ae,λx hx=>?_⟩,by simp[G7,bC,aID,G8],by simp[G7,isC,aID,G8],ae,λx hx=>?_⟩,by simp[G7,isC,aID,G8],λx hx=>?_⟩
 ·simp only[iX,UI,or_false] at hx;rcases hx with rfl|rfl|rfl|rfl|rfl|rfl<;>simp[aID,G8,OF,QN]<;>omega
 ·simp only[iX,UI,or_false] at hx;rcases hx with rfl|rfl|rfl|rfl|rfl|rfl<;>simp[aID,G8,KyD]
 ·simp only[iX,UI,or_false] at hx;rcases hx with rfl|rfl|rfl|rfl|rfl|rfl
  ·exact .inr ⟨a,ha,rfl⟩
  ·exact .inl rfl
  ·exact .inr ⟨b,hb,rfl⟩
  ·exact .inl rfl
  ·exact .inr ⟨c,hc,rfl⟩
  ·exact .inl rfl
theorem aY5{code:List UInt8}(hl:code.length<=1048576):∃x y z,loop (pX code) (0,[])=some [x,y,z]/\CtQ x/\CtQ y/\CtQ z:=by
 have one:∀w:Int,0<=w/\w<=2->∃q:aJ,loop (mF code w) (0,[])=some q.List/\CtQ q:=λw hw=>by
  obtain⟨a,a1,a2⟩:=aQE hl (i:=w*3+0) aa;obtain⟨b,b1,b2⟩:=aQE hl (i:=w*3+1) aa;obtain⟨c,c1,c2⟩:=aQE hl (i:=w*3+2) aa;have st:∀(k:Nat) (l:List Batch) (v:Int),k<3->l.length<=100->TC code (w*3+k)=some v->0<=v/\v<=255->mF code w ((k:Int),l)=some (.next (((k+1:Nat):Int),l++[aID (1+v),G8])):=λk l v hk hl ev hv=>by simp only[mF,F5];rw[eV,dO (x:=w*3),dO (x:=w*3+(k:Int)),ev,aM,OD,dO (x:=1+v),dO];rfl
  refine⟨⟨[aID (1+a),G8,aID (1+b),G8,aID (1+c),G8]⟩,?_,1+a,1+b,1+c,aa,aa,aa,rfl⟩;rw[show(0:Int)=((0:Nat):Int) from rfl,bG (st 0 [] a aa ae a1 a2),bG (st 1 _ b aa ae b1 b2),bG (st 2 _ c aa ae c1 c2)];refine bB ?_;simp only[mF];rw[gH];rfl
 obtain⟨x,x1,x2⟩:=one 0 aa;obtain⟨y,y1,y2⟩:=one 1 aa;obtain⟨z,z1,z2⟩:=one 2 aa;refine⟨x,y,z,?_,x2,y2,z2⟩;have st:∀(k:Nat) (l:List aJ) (q:aJ),k<3->l.length<=100->loop (mF code (k:Int)) (0,[])=some q.List->pX code ((k:Int),l)=some (.next (((k+1:Nat):Int),l++[q])):=λk l q hk hl eq=>by simp only[pX,F6,FZ];rw[eV,eq,aM];simp only[F6,FZ];rw[OD,dO];rfl
 rw[show(0:Int)=((0:Nat):Int) from rfl,bG (st 0 [] x aa ae x1),bG (st 1 _ y aa ae y1),bG (st 2 _ z aa ae z1)];refine bB ?_;simp only[pX];rw[gH];rfl
def aM6(C:List eJ):Nat:=(C.getD 0 ⟨0,0,0⟩).dC.toNat
theorem bFB{cm:Int->List eJ}:∀(p:List Int),(∀s∈p,∃v,(1<=v/\v<=256)/\cm s=[⟨4,7,v⟩])->((rpS cm p).1 7).getD 0=(((p.map λs=>aM6 (cm s)).sum:Nat):Int) % 65536/\(((rpS cm p).1 7).isSome=true↔0<(p.map λs=>aM6 (cm s)).sum):=λp=>by
 obtain⟨r,rfl⟩:∃r,p=List.reverse r:=⟨p.reverse,ae⟩;induction r with
 |nil=>intro _;simp[rpS]
 |cons s r ih=>
  intro h;rw[List.reverse_cons] at h ⊢;obtain⟨i1,i2⟩:=ih λx hx=>h x (QT _ hx);obtain⟨v,hv,e⟩:=h s ae;have ev:aM6 (cm s)=v.toNat:=by rw[e];rfl
  rw[aM0,m7,List.sum_append];have hd:∀M:IE,(GZ M (cm s)).1 7=some (vK ((M 7).getD 0) v):=λM=>by rw[e];rfl
  have hs:vK (((rpS cm r.reverse).1 7).getD 0) v=(((rpS cm r.reverse).1 7).getD 0+v) % 65536:=by unfold vK;rw[dO,aQJ aa]
  show((GZ (rpS cm r.reverse).1 (cm s)).1 7).getD 0=_/\(((GZ (rpS cm r.reverse).1 (cm s)).1 7).isSome=true↔_);rw[hd,hs,i1];simp[ev];omega
section
variable {n:Int} {e:Table} (h:Bz n e) {c:Int->List Int} (I:IvC (uF e) (cmE e) e c) (ho:aBO e.Log=pts (uF e) e.Log) {P:List eJ->Prop} {k:Int} (q:QPt P k e)
include h I ho q
theorem aSO{x:j7}(hx:x∈e.Log)(kx:x.Kind=3):0<=ID e.Log 1 x.aG/\P (cmE e x.aG):=aM3 (m:=[]) ae ⟨(h.pl.1.tell x hx kx).2.call,λy hy ky _=>q.cl y hy ky⟩
theorem aY6{s:Int}(hs:s∈aBO e.Log):P (cmE e s)/\cmE e s≠[]/\∃x∈e.Log,x.Kind=3/\x.Code=0/\x.aG=s:=by obtain⟨_,_,_,_,f,m⟩:=a13 h I ho hs;obtain⟨y,hy,ky,es,cy⟩:=aEB.1 f;have:=(aSO h I ho q hy ky).2;rw[es] at this;exact⟨this,m,y,hy,ky,cy,es⟩
end
theorem aOX{code:List UInt8}(_:fit code):M3 code=some true:=by
 unfold M3 WG;rw[aM];by_cases hcl:1048576<(code.length:Int)
 ·rw[aO (by simpa using hcl)]
 rw[aP (by simpa using hcl)];obtain⟨x,ex,_,hp⟩:=aGJ (code:=code) aa;obtain⟨a0,a1,a2,el,h0,h1,h2⟩:=aY5 (code:=code) aa;rw[ex,aM,el,aM];simp only[O7,O6];have all:∀z∈[a0,a1,a2],CtQ z:=λz hz=>by simp only[iX,UI,or_false] at hz;rcases hz with rfl|rfl|rfl<;>assumption
 have hd:YM [a0,a1,a2]:=⟨ae,λz hz=>(YN (all z hz)).1.2⟩;have ht:T8 [a0,a1,a2]:=⟨rfl,λz hz=>(YN (all z hz)).1.1⟩;obtain⟨f1,f2,f3⟩:=hd.bLK.fit;rw[aD1 (x:=⟨[a0,a1,a2],x.fY⟩) f1 f2 f3 ht,aM];simp only[];obtain⟨⟨e1,hid,hl⟩,hz,ho,c,q,sv,I,hm⟩:=bLS hd ht (x.fY.take 400) ah rfl;have qp:QPt cmP 9 (NY 3000 0 (BQ (b9 [a0,a1,a2]) (x.fY.take 400))):=by
  refine bAS ((aJE _ _).trans (aSK 3000 0 _)) (bz0 hd ht) ⟨λw hw b hb=>?_,λx hx=>(by cases hx),List.nodup_nil,λw hw b=>?_,?_⟩
  ·rcases(by unfold eN at hw;omega:w=0\/w=1\/w=2) with rfl|rfl|rfl
   ·exact(YN h0).2.2 b hb
   ·exact(YN h1).2.2 b hb
   ·exact(YN h2).2.2 b hb
  ·rcases(by unfold eN at hw;omega:w=0\/w=1\/w=2) with rfl|rfl|rfl<;>cases b
  ·have z0:lnC (b9 [a0,a1,a2]) 0=3:=(YN h0).2.1;have z1:lnC (b9 [a0,a1,a2]) 1=3:=(YN h1).2.1;have z2:lnC (b9 [a0,a1,a2]) 2=3:=(YN h2).2.1;have b0:vM (bsC (b9 [a0,a1,a2]))=0:=rfl;rw[b0];unfold vM;rw[z0,z1,z2];simp[b9,cN]
 generalize NY 3000 0 (BQ (b9 [a0,a1,a2]) (x.fY.take 400))=e at *;rw[e1,aM];have hone:∀C,cmP C->C≠[]->∃v,(1<=v/\v<=256)/\C=[⟨4,7,v⟩]:=λC a b=>a.resolve_left b;generalize hg:(λy:j7=>if y.Kind=3/\(y.Code == 0 && decide ((cmE e y.aG).length=1))=true then aM6 (cmE e y.aG) else 0)=g;have gx:∀y,g y=if y.Kind=3/\(y.Code == 0 && decide ((cmE e y.aG).length=1))=true then aM6 (cmE e y.aG) else 0:=λy=>by rw[<-hg]
 have tot:(e.Log.map g).sum=((aBO e.Log).map λs=>aM6 (cmE e s)).sum:=by
  rw[<-hg];refine bE9 qp (p:=λy=>y.Code == 0 && decide ((cmE e y.aG).length=1)) (f:=λs=>aM6 (cmE e s)) ?_ λs=>?_
  ·rw[ho];unfold pts;have:(e.Log.filter λx=>x.Kind == 2 && uF e x.aG).Sublist (e.Log.filter λx=>x.Kind == 2):=by rw[show(λx:j7=>x.Kind == 2 && uF e x.aG)=(λx:j7=>uF e x.aG && x.Kind == 2) by funext x;exact Bool.and_comm ..,<-List.filter_filter];exact List.filter_sublist
   exact I.pu.sublist (this.map _)
  ·constructor
   ·intro hs;obtain⟨p1,p2,y,hy,ky,cy,es⟩:=aY6 hz I ho qp hs;obtain⟨v,_,ev⟩:=hone _ p1 p2;exact⟨y,hy,ky,by rw[es,ev];simp[cy],es⟩
   ·rintro⟨y,hy,ky,py,rfl⟩;rw[uG,beq_iff_eq,decide_eq_true_eq] at py;refine(bE7 hz I ho hy ky).2 ⟨py.1,λz=>?_⟩;rw[z] at py;simp at py
 have gle:∀y∈e.Log,g y<=256:=λy hy=>by
  rw[gx];split
  ·rename_i z;rcases(aSO hz I ho qp hy z.1).2 with w|⟨v,hv,w⟩
   ·rw[w];simp[aM6]
   ·rw[w];simp[aM6];omega
  ·omega
 have hsum:∀k,k<=e.Log.length->((e.Log.take k).map g).sum<=256*k:=λk=>by
  induction k with
  |zero=>intro _;simp
  |succ k ih=>
   intro hk;have:=ih aa;have:=gle _ (dF (show k<e.Log.length by omega));rw[EA aa,m7,List.sum_append];simp only[AT,List.map_nil,List.sum_cons,List.sum_nil];omega
 have lp:loop pW (0,0,e)=some (Out.brk ((((e.Log.map g).sum:Nat):Int),e)):=by
  have:=iW (f:=pW) e.Log.length (λk=>(((((e.Log.take k).map g).sum : Nat) : Int),(k : Int),e)) (Out.brk ((((e.Log.map g).sum : Nat) : Int),e)) (λk hk=>by
   have b1:=hsum k aa;have b2:=hsum (k+1) aa;have hs:((e.Log.take (k+1)).map g).sum=((e.Log.take k).map g).sum+g e.Log[k]:=by rw[EA hk,m7,List.sum_append];simp
   have hm:=dF hk;rw[hs] at b2 ⊢;rw[gx] at b2 ⊢;generalize ((e.Log.take k).map g).sum=A at b1 b2 ⊢;simp only[pW,wO,pU];rw[eV,aZ hk,aM];by_cases k3:e.Log[k].Kind=3
   ·rw[aO (by simpa using k3)];obtain⟨p0,pc⟩:=aSO hz I ho qp hm k3;by_cases c0:e.Log[k].Code=0
    ·rw[aO (by simpa using c0),aM,aSA aa,aM,aP (by simpa using p0),bDX p0,aM];have ec:(e.Log.getD (ID e.Log 1 e.Log[k].aG).toNat ⟨0,0,0,0,[],[]⟩).bN=cmE e e.Log[k].aG:=rfl;rw[ec];rcases pc with w|⟨v,hv,w⟩
     ·rw[w,gH,gH,dO];simp
     ·rw[w] at b2 ⊢;have hv':(aM6 [⟨4,7,v⟩]:Int)=v:=by simp[aM6];omega
      have hc:(e.Log[k].Kind=3/\(e.Log[k].Code == 0 && decide (([⟨4,7,v⟩]:List eJ).length=1))=true):=⟨k3,by simp[c0]⟩;rw[aO hc] at b2 ⊢;rw[aO ae,show idx ([⟨4,7,v⟩]:List eJ) 0=some ⟨4,7,v⟩ from rfl,aM];simp only[];rw[dO,dO,Int.natCast_add,hv'];rfl
    ·rw[aP (by simpa using c0),aP (λz=>by simp[c0] at z),dO];simp
   ·rw[aP (by simpa using k3),gH,aP (λz=>k3 z.1),dO];simp) (by simp[pW])
  exact this
 rw[lp,aM];simp only[O5,FY,mE];have hk:=aY4 hz sv hm (k:=7) aa;obtain⟨r1,r2⟩:=bFB (cm:=cmE e) (aBO e.Log) λs hs=>by obtain⟨p1,p2,_⟩:=aY6 hz I ho qp hs;exact hone _ p1 p2
 have hM:(rpS (cmE e) (aBO e.Log)).1=MT (uF e) (cmE e) e:=by unfold MT;rw[ho]
 rw[hM,<-hk,<-tot] at r1 r2;have hlen:=(aM4 hz sv).1.len;rw[(a1V hz.v sv).1,aM,aM5 aa,aM,aO (by simp[hz.v.wV.1])];simp only[];rw[r1,aQJ aa,aO ae];have eb:(kvm (aY3 e.aA.Mem c) 7).isSome=decide (0<(((e.Log.map g).sum:Nat):Int)):=by rw[HM,r2];simp
 rw[eb,aO ae,a1R aa,aM];have hid':∀w,eN w->bsC e w=0/\lnC e w=0:=λw hw=>by obtain⟨a,b⟩:=hid w hw;unfold bsC lnC;rw[a,b];exact⟨rfl,rfl⟩
 have i0:=hid' 0 (by simp[eN]);have i1:=hid' 1 (by simp[eN]);have i2:=hid' 2 (by simp[eN]);have:=qp.cc;unfold vM at this;rw[dA aa]
def tr1(v:Int):Batch:=⟨false,[⟨4,1,v⟩,⟨4,2,65536-v⟩]⟩
def tr2(v:Int):Batch:=⟨false,[⟨4,2,v⟩,⟨4,1,65536-v⟩]⟩
def gtB:Batch:=⟨false,[⟨1,1,0⟩,⟨1,2,0⟩]⟩
def bnP(C:List eJ):Prop:=C=[]\/C=gtB.bN\/∃v,(1<=v/\v<=256)/\(C=(tr1 v).bN\/C=(tr2 v).bN)
def BnQ(q:aJ):Prop:=∃x y z:Batch,(∀b∈[x,y,z],b=gtB\/∃v,(1<=v/\v<=256)/\(b=tr1 v\/b=tr2 v))/\q=⟨[x,G8,y,G8,z,G8]⟩
theorem aFV{b:Batch}(h:b=G8\/b=gtB\/∃v,(1<=v/\v<=256)/\(b=tr1 v\/b=tr2 v)):OF b/\(bC b<=103/\isC b<=1)/\(b.bN.length<=1000/\∀y∈b.bN,KyD y.Key)/\bnP b.bN:=by
 rcases h with rfl|rfl|⟨v,hv,rfl|rfl⟩
 ·exact⟨by simp[G8,OF],by simp[G8,bC,isC],by simp[G8],.inl rfl⟩
 ·exact⟨by simp[gtB,OF,QN],by simp[gtB,bC,isC],by simp[gtB,KyD],.inr (.inl rfl)⟩
 ·exact⟨by simp[tr1,OF,QN];omega,by simp[tr1,bC,isC],by simp[tr1,KyD],.inr (.inr ⟨v,hv,.inl rfl⟩)⟩
 ·exact⟨by simp[tr2,OF,QN];omega,by simp[tr2,bC,isC],by simp[tr2,KyD],.inr (.inr ⟨v,hv,.inr rfl⟩)⟩
theorem NZ{q:aJ}(h:BnQ q):(QuV q/\QuD 13 910 q)/\(3<=G7 isC q.List/\q.List.length=6)/\∀b∈q.List,bnP b.bN:=by
 obtain⟨x,y,z,h,rfl⟩:=h;have all:∀b∈[x,G8,y,G8,z,G8],b=G8\/b=gtB\/∃v,(1<=v/\v<=256)/\(b=tr1 v\/b=tr2 v):=λb hb=>by
  simp only[iX,UI,or_false] at hb;rcases hb with rfl|rfl|rfl|rfl|rfl|rfl
  ·exact .inr (h _ ae)
  ·exact .inl rfl
  ·exact .inr (h _ ae)
  ·exact .inl rfl
  ·exact .inr (h _ ae)
  ·exact .inl rfl
 have hx:=(aFV (all x ae)).2.1;have hy:=(aFV (all y ae)).2.1;have hz:=(aFV (all z ae)).2.1;have i0:=λb=>aSH b;have c14:bC G8=14/\isC G8=1:=⟨rfl,rfl⟩;refine⟨⟨⟨ae,λb hb=>(aFV (all b hb)).1⟩,?_,?_,ae,λb hb=>(aFV (all b hb)).2.2.1⟩,⟨?_,rfl⟩,λb hb=>(aFV (all b hb)).2.2.2⟩
 ·simp only[G7];omega
 ·simp only[G7];omega
 ·have:=i0 x;have:=i0 y;have:=i0 z;simp only[G7];omega
theorem a4R{code:List UInt8}(hl:code.length<=1048576):∃x y z,loop (yA code) (0,List.replicate ((3:Int).toNat) (⟨[]⟩:aJ))=some [x,y,z]/\BnQ x/\BnQ y/\BnQ z:=by
 obtain⟨a,a0,a1,a2⟩:=aQE hl (i:=0) aa;obtain⟨b,b0,b1,b2⟩:=aQE hl (i:=1) aa;obtain⟨c,c0,c1,c2⟩:=aQE hl (i:=2) aa;have st:∀(k:Nat) (x y z:List Batch) (v:Int),k<3->x.length<=100->y.length<=100->z.length<=100->TC code (k:Int)=some v->0<=v->v<=255->yA code ((k:Int),[⟨x⟩,⟨y⟩,⟨z⟩])=some (.next (((k+1:Nat):Int),[⟨x++[tr1 (1+v),G8]⟩,⟨y++[tr2 (1+v),G8]⟩,⟨z++[gtB,G8]⟩])):=λk x y z v hk hx hy hz ev h0 h1=>by simp only[yA,M7,M6,M5];rw[eV,ev,aM,dO (x:=1+v),dO (x:=65536-(1+v)),show idx ([⟨x⟩,⟨y⟩,⟨z⟩]:List aJ) 0=some ⟨x⟩ from rfl,aM,OD];simp only[show(0:Int).toNat=0 from rfl,List.set_cons_zero];rw[show ∀p q s:aJ,idx [p,q,s] 1=some q from λ_ _ _=>rfl,aM,OD];simp only[show(1:Int).toNat=1 from rfl,List.set_cons_succ,List.set_cons_zero];rw[show ∀p q s:aJ,idx [p,q,s] 2=some s from λ_ _ _=>rfl,aM,OD];simp only[show(2:Int).toNat=2 from rfl,List.set_cons_succ,List.set_cons_zero];rw[dO];rfl
 have e0:List.replicate ((3:Int).toNat) (⟨[]⟩:aJ)=[⟨[]⟩,⟨[]⟩,⟨[]⟩]:=rfl;refine⟨_,_,_,?_,⟨tr1 (1+a),tr1 (1+b),tr1 (1+c),λx hx=>?_,rfl⟩,⟨tr2 (1+a),tr2 (1+b),tr2 (1+c),λx hx=>?_,rfl⟩,⟨gtB,gtB,gtB,λx hx=>.inl (by simpa using hx),rfl⟩⟩
 ·rw[e0,show(0:Int)=((0:Nat):Int) from rfl,bG (st 0 [] [] [] a aa ae ae ae a0 a1 a2),bG (st 1 _ _ _ b aa ae ae ae b0 b1 b2),bG (st 2 _ _ _ c aa ae ae ae c0 c1 c2)];refine bB ?_;simp only[yA];rw[gH];rfl
 ·simp only[iX,UI,or_false] at hx;rcases hx with rfl|rfl|rfl
  ·exact .inr ⟨1+a,aa,.inl rfl⟩
  ·exact .inr ⟨1+b,aa,.inl rfl⟩
  ·exact .inr ⟨1+c,aa,.inl rfl⟩
 ·simp only[iX,UI,or_false] at hx;rcases hx with rfl|rfl|rfl
  ·exact .inr ⟨1+a,aa,.inr rfl⟩
  ·exact .inr ⟨1+b,aa,.inr rfl⟩
  ·exact .inr ⟨1+c,aa,.inr rfl⟩
def OG(M:IE)(k:Int):Int:=(M k).getD 0
def Bal(M:IE):Prop:=(0<=OG M 1/\OG M 1<=65535)/\(0<=OG M 2/\OG M 2<=65535)/\(OG M 1+OG M 2) % 65536=0
theorem bAU{M:IE}(h:Bal M){C:List eJ}(hC:bnP C):Bal (GZ M C).1/\∀a b,(GZ M C).2=[a,b]->(0<=a.dC+b.dC/\a.dC+b.dC<=131070)/\(a.dC+b.dC) % 65536=0:=by
 have sm:∀x y:Int,0<=x/\x<=65535->0<=y/\y<=65535->vK x y=(x+y) % 65536:=λx y hx hy=>by unfold vK;rw[dO,aQJ aa]
 obtain⟨h1,h2,h3⟩:=h;rcases hC with rfl|rfl|⟨v,hv,rfl|rfl⟩
 ·exact⟨⟨h1,h2,h3⟩,λa b e=>by cases e⟩
 ·refine⟨⟨h1,h2,h3⟩,λa b e=>?_⟩;have e:[(⟨(M 1).isSome,OG M 1⟩:hU),⟨(M 2).isSome,OG M 2⟩]=[a,b]:=e;injection e with ea eb
  injection eb with eb
  rw[<-ea,<-eb];simp only;omega
 ·have e1:OG (GZ M (tr1 v).bN).1 1=vK (OG M 1) v:=rfl;have e2:OG (GZ M (tr1 v).bN).1 2=vK (OG M 2) (65536-v):=rfl;unfold Bal;rw[e1,e2];rw[sm _ _ h1 aa,sm _ _ h2 aa];refine⟨aa,λa b e=>?_⟩;have e:[(⟨true,vK (OG M 1) v⟩:hU),⟨true,vK (OG M 2) (65536-v)⟩]=[a,b]:=e;injection e with ea eb
  injection eb with eb
  rw[<-ea,<-eb];simp only;rw[sm _ _ h1 aa,sm _ _ h2 aa];omega
 ·have e1:OG (GZ M (tr2 v).bN).1 1=vK (OG M 1) (65536-v):=rfl;have e2:OG (GZ M (tr2 v).bN).1 2=vK (OG M 2) v:=rfl;unfold Bal;rw[e1,e2];rw[sm _ _ h1 aa,sm _ _ h2 aa];refine⟨aa,λa b e=>?_⟩;have e:[(⟨true,vK (OG M 2) v⟩:hU),⟨true,vK (OG M 1) (65536-v)⟩]=[a,b]:=e;injection e with ea eb
  injection eb with eb
  rw[<-ea,<-eb];simp only;rw[sm _ _ h1 aa,sm _ _ h2 aa];omega
theorem bI7{cm:Int->List eJ}(p:List Int)(h:∀s∈p,bnP (cm s)):Bal (rpS cm p).1/\∀x∈(rpS cm p).2,∀a b,x.2=[a,b]->(0<=a.dC+b.dC/\a.dC+b.dC<=131070)/\(a.dC+b.dC) % 65536=0:=by
 obtain⟨r,rfl⟩:∃r,p=List.reverse r:=⟨p.reverse,ae⟩;induction r with
 |nil=>exact⟨by simp[rpS,Bal,OG],λx hx=>by cases hx⟩
 |cons s r ih=>
  rw[List.reverse_cons] at h ⊢;obtain⟨i1,i2⟩:=ih λx hx=>h x (QT _ hx);obtain⟨b1,b2⟩:=bAU i1 (h s ae);rw[aM0];refine⟨b1,λx hx=>?_⟩;rcases cY.1 hx with hx|hx
  ·exact i2 x hx
  ·rw[iY.1 hx];exact b2
theorem aY7{code:List UInt8}(_:fit code):WZ code=some true:=by
 unfold WZ WG;rw[aM];by_cases hcl:1048576<(code.length:Int)
 ·rw[aO (by simpa using hcl)]
 rw[aP (by simpa using hcl)];obtain⟨x,ex,_,hp⟩:=aGJ (code:=code) aa;obtain⟨a0,a1,a2,el,h0,h1,h2⟩:=a4R (code:=code) aa;rw[ex,aM,SF];unfold M8;rw[el,aM];simp only[WY,WX];have all:∀z∈[a0,a1,a2],BnQ z:=λz hz=>by simp only[iX,UI,or_false] at hz;rcases hz with rfl|rfl|rfl<;>assumption
 have hd:YM [a0,a1,a2]:=⟨ae,λz hz=>(NZ (all z hz)).1.2⟩;have ht:T8 [a0,a1,a2]:=⟨rfl,λz hz=>(NZ (all z hz)).1.1⟩;obtain⟨f1,f2,f3⟩:=hd.bLK.fit;rw[aD1 (x:=⟨[a0,a1,a2],x.fY⟩) f1 f2 f3 ht,aM];simp only[];obtain⟨⟨e1,hid,hl⟩,hz,ho,c,q,sv,I,hm⟩:=bLS hd ht (x.fY.take 400) ah rfl;have hN:vM (GY (b9 [a0,a1,a2]))=18:=by have z0:GY (b9 [a0,a1,a2]) 0=6:=bZ Int.ofNat (NZ h0).2.1.2;have z1:GY (b9 [a0,a1,a2]) 1=6:=bZ Int.ofNat (NZ h1).2.1.2;have z2:GY (b9 [a0,a1,a2]) 2=6:=bZ Int.ofNat (NZ h2).2.1.2;unfold vM;rw[z0,z1,z2];rfl
 have qp:QPt bnP 9 (NY 3000 0 (BQ (b9 [a0,a1,a2]) (x.fY.take 400))):=by
  refine bAS ((aJE _ _).trans (aSK 3000 0 _)) (bz0 hd ht) ⟨λw hw b hb=>?_,λx hx=>(by cases hx),List.nodup_nil,λw hw b=>?_,?_⟩
  ·rcases(by unfold eN at hw;omega:w=0\/w=1\/w=2) with rfl|rfl|rfl
   ·exact(NZ h0).2.2 b hb
   ·exact(NZ h1).2.2 b hb
   ·exact(NZ h2).2.2 b hb
  ·rcases(by unfold eN at hw;omega:w=0\/w=1\/w=2) with rfl|rfl|rfl<;>cases b
  ·have z0:3<=lnC (b9 [a0,a1,a2]) 0:=(NZ h0).2.1.1;have z1:3<=lnC (b9 [a0,a1,a2]) 1:=(NZ h1).2.1.1;have z2:3<=lnC (b9 [a0,a1,a2]) 2:=(NZ h2).2.1.1;have b0:vM (bsC (b9 [a0,a1,a2]))=0:=rfl;rw[b0];unfold vM;omega
 rw[hN] at hz;generalize NY 3000 0 (BQ (b9 [a0,a1,a2]) (x.fY.take 400))=e at *;have hpc:∀s∈aBO e.Log,bnP (cmE e s):=λs hs=>(aY6 hz I ho qp hs).1;have hM:(rpS (cmE e) (aBO e.Log)).1=MT (uF e) (cmE e) e/\(rpS (cmE e) (aBO e.Log)).2=RT (uF e) (cmE e) e:=by unfold MT RT;rw[ho];exact⟨rfl,rfl⟩
 obtain⟨g1,g2⟩:=bI7 (aBO e.Log) hpc;rw[hM.1] at g1;rw[hM.2] at g2;rw[e1,aM,a4G aa λx hx=>(hz.pl.1.ev x hx).1,aM];have hlt:(UE e.Log).length<=3400:=lO (aSY _ _) hl;have lp:loop (xZ (UE e.Log)) (0,e)=some (Out.brk e):=
  iW (f:=xZ (UE e.Log)) (UE e.Log).length (λk=>((k : Int),e)) (Out.brk e) (λk hk=>by
   have hm':=ZT.1 (dF hk);have k3:(UE e.Log)[k].Kind=3:=by simpa using hm'.2
   have hres:∀a b,(UE e.Log)[k].hU=[a,b]->(0<=a.dC+b.dC/\a.dC+b.dC<=131070)/\(a.dC+b.dC) % 65536=0:=λa b er=>by
    have tj:=(hz.pl.1.tell _ hm'.1 k3).2;have te:=(aM3 (e:=e) (m:=[]) ae tj).2;unfold bIZ at te;by_cases c0:(UE e.Log)[k].Code=0
    ·rw[aO c0] at te;exact g2 _ (I.tel _ hm'.1 k3 c0 λz=>by rw[z,er] at te;cases te) a b er
    ·rw[aP c0] at te;rw[te] at er;cases er
   simp only[xZ,xY];rw[eV,aZ hk,aM];by_cases w2:(UE e.Log)[k].Who=2
   ·rw[aO (by simpa using w2),aM]
    match er:(UE e.Log)[k].hU,hres with
    |[a,b],hres=>
     obtain⟨r1,r2⟩:=hres a b rfl;rw[aO ae];simp only[aM,er];rw[show idx [a,b] 0=some a from rfl,show idx [a,b] 1=some b from rfl,aM,aM,dO (x:=a.dC+b.dC),aQJ r1.1,r2,gH,dO];rfl
    |[],_=>rw[gH,gH,dO];rfl
    |[a],_=>rw[gH,gH,dO];rfl
    |a::b::c'::r,_=>rw[aH0,gH,dO];rfl
   ·rw[aP (by simpa using w2),gH,dO];rfl) (by simp[xZ])
 rw[lp,aM];simp only[WW,M4,xX];have k1:=aY4 hz sv hm (k:=1) aa;have k2:=aY4 hz sv hm (k:=2) aa;have hlen:=(aM4 hz sv).1.len;have hid':∀w,eN w->bsC e w=0/\lnC e w=0/\VX e w=0/\GY e w=0:=λw hw=>by obtain⟨a,b⟩:=hid w hw;unfold bsC lnC VX GY;rw[a,b];exact⟨rfl,rfl,rfl,rfl⟩
 have i0:=hid' 0 (by simp[eN]);have i1:=hid' 1 (by simp[eN]);have i2:=hid' 2 (by simp[eN]);have h18:(UE e.Log).length=18:=by
  have s:=hz.pl.1.sum;unfold vM at s;have:kT e.Log=(UE e.Log).length:=by unfold kT UE;rw[List.countP_eq_length_filter]
  omega
 rw[(a1V hz.v sv).1,aM,aM5 aa,aM,aM5 aa,aM,h18,aO ak,k1,k2];obtain⟨v1,v2,v3⟩:=g1;unfold OG at v1 v2 v3;simp only[];rw[dO,aQJ aa,v3,aO ak,a1R aa,aM];have:=qp.cc;unfold vM at this;rw[dA aa]
end Go.Gv
end
