import Derived.Test.YtkinioiglogchaaGreatXQF
set_option linter.unusedSectionVars false
noncomputable section
namespace Go.Gv
variable{c i n s w x:Int}{xs z:List Int}{l:List bG}{m:Mem}{k p:Nat}{t:Table}{O:Type}{j:aI}
theorem aXO:∀(n:Nat) (l:List Int),l.Nodup->(∀x∈l,0<=x/\x<(n:Int))->l.length<=n
 |0,l,_,h=>by
  cases l with
  |nil=>simp
  |cons a t=>(simp_all;omega)
 |n + 1,l,hn,h=>by
  have ih:=aXO n (l.erase (n:Int)) (hn.erase _) (λx hx=>by
   grind)
  grind
theorem MK{l:List bW}(hk:k<l.length)(x:bW):dV (l.set k x)=dV (l.take k)++(x.Rows++dV (l.drop (k+1))):=by simp_all[List.set_eq_take_append_cons_drop,dV]
theorem J1{l:List bW}(hk:k<l.length):dV l=dV (l.take k)++(l[k].Rows++dV (l.drop (k+1))):=by grind[aOK,MK]
theorem H4(hk:k<l.length)(x:bG):fK (l.set k x)=fK (l.take k)++(x.aV++fK (l.drop (k+1))):=by simp_all[List.set_eq_take_append_cons_drop,fK]
theorem DY(hk:k<l.length):fK l=fK (l.take k)++(l[k].aV++fK (l.drop (k+1))):=by grind[aOK,H4]
def bD(l:List bW)(s:Int):Prop:=∃r∈dV l,lK r.Handle/\r.Handle % 32=s
instance (l:List bW) (s:Int):Decidable (bD l s):=by unfold bD;infer_instance
section
variable {l:List bW} (hl:z6 l)
include hl
theorem z6.small:(dV l).length<=1073741824/\l.length<=maxLen/\l.length<=1048576/\∀s∈l,s.Rows.length<=24:=by have:=hl.1;have h2:=hl.2.1;refine⟨aa,by grind[maxLen],aa,λs hs=>?_⟩;have:=YY hs;omega
theorem VM(s:Int):TQ l s=some (decide (bD l s)):=by
 have hm:=hl.small;unfold TQ;rw[aLC hm.1 hm.2.1,aM];have key:=MJ (f:=oX s (dV l)) (dV l) (λk=>(k:Int)) (λr=>¬(lK r.Handle/\r.Handle % 32=s)) (Out.brk ()) (Out.ret true)
  (λk hk hp=>by
   have hk':=hl.2.1;simp only[oX,CP];rw[eK,aW hk,sW (show k<maxLen by grind[maxLen])];grind[sI,jR])
  (λk hk hp=>by
   simp_all[oX,CP,aW,sI,jR])
  (by simp[oX])
 have key':loop (oX s (dV l)) 0=_:=key;rw[key'];by_cases q:bD l s
 ·rw[aP (λa=>by obtain⟨r,hr,e⟩:=q;grind),cV q];rfl
 ·rw[aO (λr hr e=>q ⟨r,hr,e⟩),iC q];rfl
theorem VN(s:Int):FH l s=some (decide (bD l s)):=by
 have hm:=hl.small;unfold FH;have e1:∀(r:fB),rR r s=some (decide (lK r.Handle/\r.Handle % 32=s)):=by
  intro r;unfold rR qV;rw[g8];by_cases q:lK r.Handle
  ·rw[q.mod.1];grind
  ·simp[q]
 have e2:∀x∈l,FG x s=some (x.Rows.any λr=>decide (lK r.Handle/\r.Handle % 32=s)):=by
  intro x hx;unfold FG;have:x.Rows.length<=maxLen:=by grind[maxLen]
  rw[show(λy0=>rR y0 s)=λr=>some (decide (lK r.Handle/\r.Handle % 32=s)) from funext e1,aAD this];rfl
 rw[X6 hm.2.1 (λx=>x.Rows.any λr=>decide (lK r.Handle/\r.Handle % 32=s)) _ e2];simp only[aM];congr 1;rw[I2,decide_eq_true_iff];simp only[List.any_eq_true,decide_eq_true_eq,bD,dV,aFM];grind
theorem z6.more(hk:k<l.length){r:fB}(hr:PA r)(hn:¬bD l (r.Handle % 32)):z6 (l.set k ⟨l[k].Rows++[r]⟩):=by
 have e:=MK hk (⟨l[k].Rows++[r]⟩:bW);have p:(dV (l.set k ⟨l[k].Rows++[r]⟩)).Perm (r::dV l):=by grind[J1]
 have h1:∀x∈dV (l.set k ⟨l[k].Rows++[r]⟩),PA x:=λx hx=>by
  rcases j6.1 (p.mem_iff.1 hx) with rfl|h
  ·exact hr
  ·exact hl.2.2.1 x h
 have h2:((dV (l.set k ⟨l[k].Rows++[r]⟩)).map HD).Nodup:=by refine(List.Perm.nodup_iff (p.map HD)).2 ?_;rw[I5,ZT];refine⟨λh=>hn ?_,hl.2.2.2⟩;obtain⟨x,hx,e⟩:=AU.1 h;exact⟨x,hx,(hl.2.2.1 x hx).1,e⟩
 refine⟨by simpa using hl.1,?_,h1,h2⟩;have:=aXO 24 _ h2 (λx hx=>by
  obtain⟨y,hy,rfl⟩:=AU.1 hx;have:=(h1 y hy).1.mod;grind[HD])
 grind
end
theorem a27{b:aA}(hb:mP b)(hs:UA b)(hw:0<=w/\w<=2)(s:Sub) :
  ∃x y,xZ b w s=some (x,y)/\qW s b w=some (y,x)/\∃L,x=⟨b.Mem,b.aC,L,b.qU⟩/\z6 L/\∀r∈dV L,PB b r:=by
 have hL:=hb.1.2.2.1;have hm:=hb.1.1;have hlen:w.toNat<b.aQ.length:=by have:=hL.1;omega
 have hx:idx b.aQ w=some b.aQ[w.toNat]:=gP hw.1 aa;have hg:b.Mem.aE.Global.length<=maxLen:=by rw[hm.1.2.1];simp[maxLen]
 have ho:b.Mem.aE.Own.length<=maxLen:=by rw[hm.1.2.2.1];simp[maxLen]
 have hall:(iE b.Mem.aE).length<=1073741824:=by have:=hs.1.2.2.2.2;omega
 have hrow:=hL.small.2.2.2 _ (cY hlen);have he:=hb.1.2.1.1;unfold xZ qW mZ;rw[fH,dN,VL hm.1.1.1 hall hg ho,GM hm.1.1.1 hall hg ho,jR];simp only[bP,bJ,aM,wK,GB,mY];by_cases p0:s.Pc=0
 ·simp only[p0,beq_self_eq_true,bQ];exact⟨_,_,rfl,rfl,_,rfl,hL,hb.2⟩
 ·have p0' : (s.Pc == 0) = false:=ak
  simp only[p0',bU,bS];by_cases p1:s.Pc=1
  ·simp only[p1,beq_self_eq_true,bne_self_eq_false,bU,bS,bQ];by_cases q1:0<=s.E/\s.E<=b.aC.aK
   ·simp only[cV q1,kW,bU,bS];by_cases q2:mO b.Mem s.A
    ·have hh:=q2.1;simp only[cV q2,kW,bU,bS,aO hh,hh.mod.1,VM hL,VN hL,aM];by_cases q3:bD b.aQ (s.A % 32)
     ·simp only[cV q3,bQ];exact⟨_,_,rfl,rfl,_,rfl,hL,hb.2⟩
     ·have hmore:=hL.more hlen (r:=⟨s.A,s.E⟩) ⟨hh,q1.1,ak⟩ q3;have e:IT b.aQ w s.A s.E=some (b.aQ.set w.toNat ⟨b.aQ[w.toNat].Rows++[⟨s.A,s.E⟩]⟩,true):=by unfold IT y6;rw[CV hL.small.1,pY,QH hL.small.2.2.1 (λs h=>by have:=hL.small.2.2.2 s h;omega)];simp only[cV hL,cV hw,aM,kW,bU,bS,hx];rw[MA,CV hmore.small.1,cV hmore];rfl
      simp only[iC q3,bU,bS,hx,e,aM];rw[MA];refine⟨_,_,rfl,rfl,_,rfl,hmore,λr hr=>?_⟩;rw[MK hlen] at hr;have hsp:=J1 hlen;rcases dD.1 hr with h|h
      ·exact hb.2 r ak
      ·rcases dD.1 h with h|h
       ·rcases dD.1 h with h|h
        ·exact hb.2 r ak
        ·simp at h;subst h;exact⟨q2,q1.2⟩
       ·exact hb.2 r ak
    ·simp only[iC q2,SQ,bQ];exact⟨_,_,rfl,rfl,_,rfl,hL,hb.2⟩
   ·simp only[iC q1,SQ,bQ];exact⟨_,_,rfl,rfl,_,rfl,hL,hb.2⟩
  ·have p1':(s.Pc == 1)=false:=ak
   have p1'':(s.Pc != 1)=true:=ak
   simp only[p1',p1'',bU,bS,bQ];exact⟨_,_,rfl,rfl,_,rfl,hL,hb.2⟩
def st4(b:List Int)(a:Nat)(n:Int):List Int:=(((b.set a 0).set (a+1) 0).set (a+2) 0).set (a+3) n
theorem GN(b:List Int)(a:Nat)(n:Int):(st4 b a n).length=b.length:=by simp[st4]
theorem aUL{b:List Int}(h:sU b)(a:Nat)(hn:0<=n/\n<=255):sU (st4 b a n):=by
 have key:∀{l:List Int} (i:Nat) (v:Int),sU l->0<=v/\v<=255->sU (l.set i v):=λi v hl hv x hx=>by
  rcases o8 hx with h|rfl
  ·exact hl x h
  ·exact hv
 exact key _ _ (key _ _ (key _ _ (key _ _ h aa) aa) aa) hn
theorem a8B(hn:0<=n/\n<=255):((u8 n).toNat:Int)=n:=by grind[u8,UInt8.toNat_ofNat']
theorem aUM{l:List Int}(i:Nat){v:Int}(hl:sU l)(hv:0<=v/\v<=255):sU (l.set i v):=λx hx=>by
 rcases o8 hx with h|rfl
 ·exact hl x h
 ·exact hv
def QI(b:List Int)(a:Nat)(n:Int):List Int:=(((b.set a (n/16777216)).set (a+1) (n/65536 % 256)).set (a+2) (n/256 % 256)).set (a+3) (n % 256)
theorem aDF(b:List Int)(a:Nat)(n:Int):(QI b a n).length=b.length:=by simp[QI]
theorem a28{b:List Int}(h:sU b)(a:Nat)(hn:0<=n/\n<=4294967295):sU (QI b a n):=by grind[QI,aUM]
theorem a29(b:List Int)(a:Nat)(x y z u:Int):(((b.set (a+3) u).set (a+2) z).set (a+1) y).set a x=(((b.set a x).set (a+1) y).set (a+2) z).set (a+3) u:=by refine List.ext_getElem ae λj h1 h2=>?_;grind
theorem a3A{b:List Int}{a:Nat}(h:a+4<=b.length)(hl:b.length<=100000)(hn:0<=n/\n<=4294967295):F9 b (a:Int) 4 n=some (QI b a n):=by
 have st:∀(c:List Int) (m:Int) (i:Nat),c.length=b.length->0<=m->m<=4294967295->i<4->CQ (a:Int) (c,m,(i:Int))=some (.next (c.set (a+i) (m % 256),m/256,(i:Int)-1)):=λc m i hc h0 h1 hi=>by simp only[CQ];rw[aO ae,eG (x:=(a:Int)+i),show(a:Int)+i=((a+i:Nat):Int) by omega,V2,aM,NM h0,aUC h0,eG (x:=m/256),eG (x:=(i:Int)-1),MM]
 unfold F9;rw[show bB (4-1)=((3:Nat):Int) from by grind[cO]];rw[bM (st b n 3 rfl hn.1 hn.2 aa),show((3:Nat):Int)-1=((2:Nat):Int) by rfl,
  bM (st _ _ 2 ae aa aa aa),show((2:Nat):Int)-1=((1:Nat):Int) by rfl,
  bM (st _ _ 1 ae aa aa aa),show((1:Nat):Int)-1=((0:Nat):Int) by rfl,
  bM (st _ _ 0 ae aa aa aa),bA (r:=QI b a n)]
 ·rfl
 ·simp only[CQ];rw[gJ];have e1:n/256/256=n/65536:=aa
  have e2:n/256/256/256=n/16777216:=aa
  have e3:n/16777216 % 256=n/16777216:=aa
  simp_all[QI,a29]
def oD(n:Int):List UInt8:=[u8 (n/16777216),u8 (n/65536),u8 (n/256),u8 n]
theorem UD(hn:0<=n/\n<=4294967295):mD n 4=some (oD n):=by
 have hw:yZ 4=some true:=by grind[yZ,dN]
 unfold mD;rw[hw];have e1:IntKind.u64.wrap (bB (8*4))=32:=ai
 have e2:aJB .i64 1 32=4294967296:=ai
 simp only[aM,kW,bU,bS,e1,e2];rw[aHS,VH,iC aa];simp only[vP,bU,bS];rw[VH,show bB (4-1)=((3:Nat):Int) from by grind[cO]];have st:∀(m:Int) (c:List UInt8) (i:Nat),i<c.length->i<4->0<=m->qI (m,c,(i:Int))=some (.next (m/256,c.set i (u8 m),(i:Int)-1)):=λm c i hc hi h0=>by simp only[qI];rw[aO ae,aW hc,aM,show(8:Int)=((8:Nat):Int) from rfl,a0M h0 aa,eG,MM];rfl
 rw[bM (st n _ 3 ae aa hn.1),show((3:Nat):Int)-1=((2:Nat):Int) by rfl,
  bM (st _ _ 2 ae aa aa),show((2:Nat):Int)-1=((1:Nat):Int) by rfl,
  bM (st _ _ 1 ae aa aa),show((1:Nat):Int)-1=((0:Nat):Int) by rfl,
  bM (st _ _ 0 ae aa aa),bA (r:=oD n)]
 ·rfl
 ·simp only[qI];rw[gJ];have e1:n/256/256=n/65536:=aa
  rw[e1,show n/65536/256=n/16777216 by omega];rfl
theorem aRQ(hn:0<=n):((u8 n).toNat:Int)=n % 256:=by
 have:u8 n=u8 (n % 256):=by grind[u8]
 grind[a8B]
theorem aXP{b:List Int}{a:Nat}(h:a+4<=b.length)(hl:b.length<=100000)(hn:0<=n/\n<=4294967295):m6 b (a:Int) (oD n)=some (QI b a n):=by
 have st:∀(c:List Int) (i:Nat) (v:UInt8),c.length=b.length->i<4->idx (oD n) (i:Int)=some v->lS b (a:Int) (oD n) (c,(i:Int))=some (.next (c.set (a+i) (v.toNat:Int),((i+1:Nat):Int))):=λc i v hc hi hv=>by simp only[lS];rw[bZ hc,aO (by grind[oD]),hv,aM,eG (x:=(a:Int)+i),show(a:Int)+i=((a+i:Nat):Int) by omega,V2,aM,eG,MM];rfl
 unfold m6;rw[show(0:Int)=((0:Nat):Int) from rfl,bM (st b 0 _ rfl aa rfl),bM (st _ 1 _ ae aa rfl),bM (st _ 2 _ ae aa rfl),bM (st _ 3 _ ae aa rfl),bA (r:=QI b a n)]
 ·grind[M3,M1,bZ,aDF]
 ·simp only[lS];rw[bZ ae,aP (by simp[oD])];simp only[aRQ hn.1,aRQ (show 0<=n/16777216 by omega),aRQ (show 0<=n/65536 by omega),aRQ (show 0<=n/256 by omega)];rw[show n/16777216 % 256=n/16777216 by omega];rfl
theorem a8C{b:List Int}{a:Nat}(hn:0<=n/\n<=255):QI b a n=st4 b a n:=by grind[QI,st4]
theorem KQ{b:List Int}{a:Nat}(h:a+4<=b.length)(hl:b.length<=100000)(hn:0<=n/\n<=255):F9 b (a:Int) 4 n=some (st4 b a n):=by grind[a3A,a8C]
theorem bLK(hn:0<=n/\n<=255):oD n=[0,0,0,u8 n]:=by unfold oD;rw[show n/16777216=0 by omega,show n/65536=0 by omega,show n/256=0 by omega];rfl
theorem aAE(hn:0<=n/\n<=255):mD n 4=some [0,0,0,u8 n]:=by grind[UD,bLK]
theorem X9{b:List Int}{a:Nat}(h:a+4<=b.length)(hl:b.length<=100000)(hn:0<=n/\n<=255):m6 b (a:Int) [0,0,0,u8 n]=some (st4 b a n):=by rw[<-bLK hn,aXP h hl ⟨hn.1,aa⟩,a8C hn]
theorem bF8{x y z:Int}:∀(a:Nat) (l:List Int),a+3<=l.length->cT l a [x,y,z]=((l.set a x).set (a+1) y).set (a+2) z
 |0,l,h=>by
  match l,h with
  |_::_::_::t,_=>simp[cT]
 |a + 1,l,h=>by
  match l,h with
  |u::t,h=>
   have ih:=bF8 (x:=x) (y:=y) (z:=z) a t ak;grind[cT]
def a8D(p k:Nat)(c:Int):Nat:=(i4 ((p:Int)*4+k) c).toNat
def gB(b:List Int)(p:Nat)(c:Int):Nat->List Int
 |0=>((b.set (p*64) 171).set (p*64+1) c).set (p*64+2) (cK c)
 |k+1=>st4 (gB b p c k) (a8D p k c) 1
theorem KR(b:List Int)(p:Nat)(c:Int):∀k,(gB b p c k).length=b.length
 |0=>by simp[gB]
 |k+1=>by rw[gB,GN,KR b p c k]
theorem aLI{l:List Int}(i:Nat){v:Int}(hl:sU l)(hv:0<=v/\v<=255):sU (l.set i v):=λx hx=>by
 rcases o8 hx with h|rfl
 ·exact hl x h
 ·exact hv
theorem aRR{b:List Int}(hb:sU b)(p:Nat){c:Int}(hc:0<=c/\c<=2):∀k,sU (gB b p c k)
 |0=>by have:=pW c;exact aLI _ (aLI _ (aLI _ hb aa) aa) aa
 |k+1=>aUL (aRR hb p hc k) _ aa
def gS(p:Nat)(n:Nat):List Int:=(List.range n).map λ(i:Nat)=>(p:Int)*4+(i:Int)
theorem aE4(p n:Nat):(gS p n).length=n:=by simp[gS]
theorem a0R(p n:Nat):gS p (n+1)=gS p n++[(p:Int)*4+(n:Int)]:=by simp[gS,List.range_succ]
theorem aRS(hp:p<6)(hk:(k:Int)<cK c):i4 ((p:Int)*4+k) c=(a8D p k c:Int)/\a8D p k c+4<=384:=by
 have h4:=pW c;have hm:=T9 (c:=c) (i:=(k:Int)) aa hk;have hst:4<=bE c:=by have:0<=c/\c<=2:=jZ.1 aa;rcases nC this with e|e|e<;>rw[e]<;>decide
 have e:i4 ((p:Int)*4+k) c=(p:Int)*64+8+(k:Int)*bE c:=by unfold i4;grind
 grind[a8D]
theorem aO6(hp:p<6)(hk:k<4):O4 (p:Int) (k:Int)=some ((p:Int)*4+k)/\OX (p:Int) (k:Int)=some ((p:Int)*4+k):=by grind[cO,O4,M9,fH,OX,FF,dN]
section
variable {b:List Int} (hb:b.length=384) {p:Nat} (hp:p<6) {c:Int} (hc:0<=c/\c<=2)
include hb hp hc
theorem aLJ:loop (CR c (p:Int)) ([],0,gB b p c 0)=some (gS p (cK c).toNat,gB b p c (cK c).toNat):=by
 have h4:=pW c;refine iS (cK c).toNat (λk=>(gS p k,(k:Int),gB b p c k)) _ (λk hk=>?_) ?_
 ·have ho:=aRS (c:=c) hp (k:=k) aa;simp only[CR,VC,oZ,aM];rw[eK,(aO6 hp aa).1];simp only[aM,BK,ho.1];rw[KQ (by grind[KR]) (by grind[KR]) aa];simp only[aM];rw[bZ (by grind[aE4]),eG,a0R];rfl
 ·simp only[CR,oZ,aM];grind
theorem aXQ:loop (IQ c (p:Int) (cK c)) ([],0,gB b p c 0)=some (gS p (cK c).toNat,gB b p c (cK c).toNat):=by
 have h4:=pW c;refine iS (cK c).toNat (λk=>(gS p k,(k:Int),gB b p c k)) _ (λk hk=>?_) ?_
 ·have ho:=aRS (c:=c) hp (k:=k) aa;simp only[IQ,PR];rw[eK,(aO6 hp aa).2];simp only[aM,BL,ho.1];rw[aAE aa,aM,X9 (by grind[KR]) (by grind[KR]) aa];simp only[aM];rw[bZ (by grind[aE4]),eG,a0R];rfl
 ·simp only[IQ];grind
end
theorem a8E{h:Heap}(hh:HOk h)(hc:0<=c/\c<=2) :
  (tY h c=some (h,[])/\HP h c=some (h,[])) \/
  ∃p,p<6/\dA h p<0/\tY h c=some (⟨gB h.Bytes p c (cK c).toNat,h.Class.set p c⟩,gS p (cK c).toNat)/\HP h c=some (⟨gB h.Bytes p c (cK c).toNat,h.Class.set p c⟩,gS p (cK c).toNat):=by
 have hs:=hh.1;have h6:=hs.2.1;have h384:=hs.1;have hp4:=pW c;have hcp:=UC (h:=h) aa aa;have hne:∀j (hj:j<6),j<h.Class.findIdx (λx=>decide (x = -1))->h.Class[j]≠-1:=λj hj hlt=>ak
 generalize hq:h.Class.findIdx (λx=>decide (x = -1))=q at hne;have hq6:q<=6:=ak
 have s1:∀k (hk:k<q),fL h c (k:Int)=some (.next ((k+1:Nat):Int)):=λk hk=>by
  have:=hne k aa hk;have n:(h.Class[k] != -1)=true:=ak
  simp only[fL,KJ];rw[eK,V2,aM,n,aO rfl,eG];rfl
 have s2:∀k (hk:k<q),fC h.Class (-1) (k:Int)=some (.next ((k+1:Nat):Int)):=λk hk=>by
  have:=hne k aa hk;have n:((-1:Int) == h.Class[k])=false:=ak
  simp only[fC];rw[eK,V2,aM,n,eG];rfl
 have hm:h.Bytes.length<=maxLen:=by grind[maxLen]
 by_cases h5:q=6
 ·left;have a1:loop (fL h c) 0=some (Out.brk ()):=iS q (λk=>(k:Int)) _ s1 (by simp_all[fL]);have a2:loop (fC h.Class (-1)) 0=some (Out.brk ()):=iS q (λk=>(k:Int)) _ s2 (by simp_all[fC]);constructor
  ·unfold tY;rw[a1];rfl
  ·unfold HP m9;rw[a2,hcp,NO hm,kN,cV hh,cV hc];rfl
 ·right;have hq5:q<6:=aa
  have he:h.Class[q] = -1:=ak
  refine⟨q,hq5,by grind[YW],?_,?_⟩
  ·have a1:loop (fL h c) 0=some (Out.ret (⟨gB h.Bytes q c (cK c).toNat,h.Class.set q c⟩,gS q (cK c).toNat)):=iS q (λk=>(k:Int)) _ s1 (by
    have e0:bB ((q:Int)*64)=((q*64:Nat):Int):=by grind[cO]
    have e1:bB (((q*64:Nat):Int)+1)=((q*64+1:Nat):Int):=by grind[cO]
    have e2:bB (((q*64:Nat):Int)+2)=((q*64+2:Nat):Int):=by grind[cO]
    have n:(h.Class[q] != -1)=false:=ak
    simp only[fL,e0,e1,e2,MM];rw[eK,V2,aM,n,gJ,V2,aM,aW ah,aM,oZ,aM,aW ah,aM];have:=aLJ h384 hq5 hc;simp only[gB] at this;rw[this];rfl)
   unfold tY;rw[a1];rfl
  ·have a2:loop (fC h.Class (-1)) 0=some (Out.ret (q:Int)):=iS q (λk=>(k:Int)) _ s2 (by
    have n:((-1:Int) == h.Class[q])=true:=by rw[he];rfl
    simp only[fC];rw[eK,V2,aM,n];rfl)
   unfold HP m9;rw[a2,hcp,NO hm,kN,cV hh,cV hc];have e0:bB ((q:Int)*64)=((q*64:Nat):Int):=by grind[cO]
   simp only[aM,AA,kW,bU,bS,A4,e0,CT,PT,MM];rw[iC aa,gJ,V2,aM,VH,bF8 _ _ aa];have:=aXQ h384 hq5 hc;simp only[gB] at this;rw[this];rfl
theorem LOk.count{l:aE}(h:LOk l):(iE l).length<=24:=aXO 24 _ h.2.2.2.2 (λx hx=>by have:=h.2.2.2.1 x hx;omega)
theorem a3B(hs:iD m.Heap)(hc:0<=bL m.Heap s):∃h,BD m s=some h/\IS m s=some h:=by
 unfold BD IS P8 PU zH y5;rw[vV hs hc,IZ hs hc,aM,aM,fH,fH,yI,dN];have h1:=(rB hc).1;simp only[cV h1,aM,kW,bU,bS];by_cases q:1<=kQ m.Heap s/\kQ m.Heap s<=6
 ·simp only[cV q,kW,bU,bS];exact⟨_,rfl,rfl⟩
 ·simp only[iC q,SQ,bQ];exact⟨_,rfl,rfl⟩
theorem aBE(hk:k<l.length)(t:List Int):(fK (l.set k ⟨l[k].aV++t⟩)).length=(fK l).length+t.length:=by grind[H4,DY]
def bt(b:List Int)(i:Nat):Int:=b.getD i 0
theorem aLK{b:List Int}{i:Nat}(h:i<b.length):b[i]=bt b i:=by grind[bt]
theorem ld4{b:List Int}{a:Nat}(h:a+4<=b.length):ld b a 4=((bt b a*256+bt b (a+1))*256+bt b (a+2))*256+bt b (a+3):=by grind[ld,vY,ldF,aLK]
theorem NR{b:List Int}{i j:Nat}{v:Int}(hi:i<b.length):bt (b.set i v) j=if j=i then v else bt b j:=by grind[bt]
theorem H5{b:List Int}{a:Nat}(h:a+4<=b.length)(j:Nat):bt (st4 b a n) j=if j=a+3 then n else if a<=j/\j<a+3 then 0 else bt b j:=by unfold st4;rw[NR ah,NR ah,NR ah,NR aa];omega
theorem aXR{b:List Int}{a:Nat}(h:a+4<=b.length):ld (st4 b a n) a 4=n:=by simp_all[ld4,GN,H5]
theorem I0{b b':List Int}{a:Nat}(h:a+4<=b.length)(hl:b'.length=b.length)(hs:∀j,a<=j->j<a+4->bt b' j=bt b j):ld b' a 4=ld b a 4:=by simp_all[ld4]
def aBF(h:Heap)(p:Nat):Prop:=
 if dA h p<0 then ∀k,k<64->bt h.Bytes (p*64+k)=0
 else((bt h.Bytes (p*64)=171/\bt h.Bytes (p*64+1)=dA h p/\bt h.Bytes (p*64+2)=cK (dA h p))/\(∀k,3<=k->k<8->bt h.Bytes (p*64+k)=0)/\∀i,i<(cK (dA h p)).toNat->1<=ld h.Bytes (p*64+8+i*(bE (dA h p)).toNat) 4/\ld h.Bytes (p*64+8+i*(bE (dA h p)).toNat) 4<=7)
theorem aO7{h:Heap}(hs:iD h)(hp:p<6)(hk:k<64):(lG h p).getD k 0=bt h.Bytes (p*64+k):=by rw[<-a2Y hs hp hk,aLK (by have:=hs.1;omega)]
theorem aDG{l:List Int}:x∈l↔∃k,k<l.length/\l.getD k 0=x:=by
 rw[aFN];constructor
 ·rintro⟨k,hk,e⟩;exact⟨k,hk,ak⟩
 grind
theorem GO{h:Heap}(hs:iD h)(hp:p<6):GL h p↔aBF h p:=by
 unfold GL aBF;have hl:=X3 hs hp;split
 ·constructor
  ·intro q k hk;rw[<-aO7 hs hp hk];exact q _ (aDG.2 ⟨k,aa,rfl⟩)
  grind[aDG,aO7]
 ·rw[aO7 hs hp aa,aO7 hs hp aa,aO7 hs hp aa];have e:(∀x∈((lG h p).drop 3).take 5,x=0)↔∀k,3<=k->k<8->bt h.Bytes (p*64+k)=0:=by
   have g:∀j,j<5->(((lG h p).drop 3).take 5).getD j 0=bt h.Bytes (p*64+(3+j)):=λj hj=>by rw[<-aO7 hs hp aa,I4,I4,aBO,aO hj,aFJ]
   constructor
   ·intro q k h3 h8;have:=q _ (aDG.2 ⟨k-3,ak,rfl⟩);grind
   ·intro q x hx;obtain⟨k,hk,rfl⟩:=aDG.1 hx;simp[hl] at hk;rw[g _ hk];exact q _ aa aa
  rw[e];rfl
theorem aBF.same{h h':Heap}(hp:p<6)(hs:iD h)(hl:h'.Bytes.length=h.Bytes.length)(hc:dA h' p=dA h p)(hb:∀k,k<64->bt h'.Bytes (p*64+k)=bt h.Bytes (p*64+k))(q:aBF h p):aBF h' p:=by
 have h1:=hs.1;unfold aBF at q ⊢;rw[hc];split
 ·grind
 ·rename_i q0;rw[aP q0] at q;obtain⟨⟨a1,a2,a3⟩,a4,a5⟩:=q;have b0:=hb 0 aa;have b1:=hb 1 aa;have b2:=hb 2 aa;simp only[UO] at b0;refine⟨⟨aa,aa,aa⟩,λk k3 k8=>ak,λi hi=>?_⟩;have hz:=zO hs hp (c:=dA h p) rfl hi;rw[I0 (b:=h.Bytes) aa hl λj j1 j2=>by
   have:=hb (j-p*64) aa;grind]
  grind
theorem pZ{h:Heap}(hc:0<=bL h s):∃p i,p<6/\i<(cK (dA h p)).toNat/\s=(p:Int)*4+i/\bL h s=dA h p/\(i4 s (bL h s)).toNat=p*64+8+i*(bE (dA h p)).toNat/\(s/4).toNat=p:=by obtain⟨h1,h2,h3⟩:=rB hc;have hle:=pW (dA h (s/4).toNat);refine⟨(s/4).toNat,(s % 4).toNat,aa,aa,aa,h3,?_,rfl⟩;rw[h3];unfold i4;rw[aO ⟨h1,aa⟩];grind[bE]
theorem UE{i j:Nat}(hi:i<(cK c).toNat)(hj:j<(cK c).toNat)(hn:i≠j):i*(bE c).toNat+4<=j*(bE c).toNat\/j*(bE c).toNat+4<=i*(bE c).toNat:=by
 have hc:0<=c/\c<=2:=jZ.1 aa;have h12:12<=(bE c).toNat:=by rcases nC hc with rfl|rfl|rfl<;>decide
 rcases Nat.lt_or_gt_of_ne hn with q|q
 ·left;have:(i+1)*(bE c).toNat<=j*(bE c).toNat:=uJ _ q;rw[oB] at this;omega
 ·right;have:(j+1)*(bE c).toNat<=i*(bE c).toNat:=uJ _ q;rw[oB] at this;omega
theorem HOk.a8F{h:Heap}(hh:HOk h){g:Int}(hc:0<=bL h s)(hg:1<=g/\g<=7) :
  HOk ⟨st4 h.Bytes (i4 s (bL h s)).toNat g,h.Class⟩/\∀t,0<=bL h t->kQ ⟨st4 h.Bytes (i4 s (bL h s)).toNat g,h.Class⟩ t=if t=s then g else kQ h t:=by
 obtain⟨hs,hp⟩:=hh;have h384:=hs.1;have hs':iD ⟨st4 h.Bytes (i4 s (bL h s)).toNat g,h.Class⟩:=⟨by grind[GN],hs.2.1,aUL hs.2.2.1 _ aa,hs.2.2.2⟩;obtain⟨p,i,p6,hi,es,ec,eo,ep⟩:=pZ hc;have hz:=zO hs p6 rfl hi;have h4:=pW (dA h p);refine⟨⟨hs',λq hq=>?_⟩,λt ht=>?_⟩
 ·rw[GO hs' hq];have hold:=(GO hs hq).1 (hp q hq);by_cases e:q=p
  ·subst e;have hpos:0<cK (dA h q):=aa
   have hcl:¬dA h q<0:=aa
   unfold aBF at hold ⊢;have hcl':dA ⟨st4 h.Bytes (i4 s (bL h s)).toNat g,h.Class⟩ q=dA h q:=rfl;rw[hcl'];rw[aP hcl] at hold ⊢;obtain⟨⟨a1,a2,a3⟩,a4,a5⟩:=hold;have bs:∀k,k<8->bt (st4 h.Bytes (i4 s (bL h s)).toNat g) (q*64+k)=bt h.Bytes (q*64+k):=λk hk=>by rw[H5 aa,gT,gT]
   have b0:=bs 0 aa;have b1:=bs 1 aa;have b2:=bs 2 aa;simp only[UO] at b0;refine⟨⟨ak,ak,ak⟩,λk k3 k8=>ak,λj hj=>?_⟩;have hzj:=zO hs p6 rfl hj;by_cases ej:j=i
   ·grind[aXR]
   ·rw[I0 (b:=h.Bytes) aa (by grind[GN]) λk k1 k2=>?_]
    ·grind
    ·simp only[eo];have:=UE hi hj (λq=>ej q.symm);rw[H5 aa,gT,gT]
  ·refine aBF.same hq hs (by grind[GN]) rfl (λk hk=>?_) hold;rw[H5 aa,gT,gT]
 ·have e2:bL ⟨st4 h.Bytes (i4 s (bL h s)).toNat g,h.Class⟩ t=bL h t:=rfl;unfold kQ;rw[e2];by_cases e:t=s
  ·subst e;rw[aO rfl];grind[aXR]
  ·rw[aP e];obtain⟨p',i',p6',hi',es',ec',eo',ep'⟩:=pZ ht;have hz':=zO hs p6' rfl hi';rw[I0 (b:=h.Bytes) aa (by grind[GN]) λk k1 k2=>?_];simp only;by_cases ee:p'=p
   ·subst ee;have:=UE hi hi' (λq=>e aa);rw[H5 aa,gT,gT]
   ·have h4':=pW (dA h p');rw[H5 aa,gT,gT]
theorem aIO(hp:p<6)(hk:(k:Int)<cK c):a8D p k c=p*64+8+k*(bE c).toNat/\8+k*(bE c).toNat+4<=64:=by have hc:0<=c/\c<=2:=jZ.1 aa;have h1:=aRS (c:=c) hp hk;have hle:=pW c;have e:=h1.1;unfold i4 at e;rw[aO aa] at e;grind[bE,cK]
theorem a0S{b:List Int}{p:Nat}{c:Int}(hl:b.length=384)(hp:p<6)(hc:0<=c/\c<=2):∀k:Nat,(k:Int)<=cK c->∀j,(j<p*64\/p*64+64<=j->bt (gB b p c k) j=bt b j)/\(3<=j->j<8->bt (gB b p c k) (p*64+j)=bt b (p*64+j))/\bt (gB b p c k) (p*64)=171/\bt (gB b p c k) (p*64+1)=c/\bt (gB b p c k) (p*64+2)=cK c
 |0,hk,j=>by
  have key:∀i,bt (gB b p c 0) i=if i=p*64+2 then cK c else if i=p*64+1 then c else if i=p*64 then 171 else bt b i:=λi=>by grind[gB,NR]
  grind
 |k + 1,hk,j=>by
  have ih:=a0S hl hp hc k aa;have hoff:=aIO (c:=c) hp (by omega:(k:Int)<cK c);have hbl:=KR b p c k;unfold gB;refine⟨λh=>?_,λh1 h2=>?_,?_,?_,?_⟩
  ·rw[H5 aa,gT,gT];grind
  ·rw[H5 aa,gT,gT];grind
  ·rw[H5 aa,gT,gT];exact(ih j).2.2.1
  ·rw[H5 aa,gT,gT];exact(ih j).2.2.2.1
  ·rw[H5 aa,gT,gT];exact(ih j).2.2.2.2
theorem a8G{b:List Int}{p:Nat}{c:Int}(hl:b.length=384)(hp:p<6):∀k:Nat,(k:Int)<=cK c->∀i,i<k->ld (gB b p c k) (p*64+8+i*(bE c).toNat) 4=1
 |0,_,i,h=>absurd h aa
 |k + 1,hk,i,h=>by
  have hbl:=KR b p c k;have ho:=aIO (c:=c) hp (by omega:(k:Int)<cK c);unfold gB;by_cases e:i=k
  ·grind[aXR]
  ·have hoi:=aIO (c:=c) hp (by omega:(i:Int)<cK c);have ha:=UE (c:=c) (i:=i) (j:=k) aa aa e;rw[I0 (b:=gB b p c k) aa (by rw[GN]) λj j1 j2=>by rw[H5 aa,gT,gT]];exact a8G hl hp k aa i aa
theorem YA{h:Heap}(hs:iD h){B:List Int}{q:Nat}(hq:q<6):dA ⟨B,h.Class.set p c⟩ q=if q=p then c else dA h q:=by have h6:=hs.2.1;grind[dA]
theorem HOk.a8H{h:Heap}(hh:HOk h)(hp:p<6)(hun:dA h p<0)(hc:0<=c/\c<=2) :
  HOk ⟨gB h.Bytes p c (cK c).toNat,h.Class.set p c⟩/\(∀t,(t/4).toNat≠p->bL ⟨gB h.Bytes p c (cK c).toNat,h.Class.set p c⟩ t=bL h t)/\(∀t,0<=bL h t->(t/4).toNat≠p/\kQ ⟨gB h.Bytes p c (cK c).toNat,h.Class.set p c⟩ t=kQ h t) /\
   ∀i,i<(cK c).toNat->bL ⟨gB h.Bytes p c (cK c).toNat,h.Class.set p c⟩ ((p:Int)*4+i)=c/\kQ ⟨gB h.Bytes p c (cK c).toNat,h.Class.set p c⟩ ((p:Int)*4+i)=1:=by
 obtain⟨hs,hpg⟩:=hh;have h384:=hs.1;have hle:=pW c;have hpn:((cK c).toNat:Int)<=cK c:=aa
 have hb:=a0S h384 hp hc (cK c).toNat hpn;have hbl:=KR h.Bytes p c (cK c).toNat;have hs':iD ⟨gB h.Bytes p c (cK c).toNat,h.Class.set p c⟩:=⟨by simp only[hbl];exact h384,by simp only[cZ];exact hs.2.1,aRR hs.2.2.1 p hc _,λx hx=>by
  rcases o8 hx with q|rfl
  ·exact hs.2.2.2 x q
  ·omega⟩
 have hcls:∀t:Int,(t/4).toNat≠p->bL ⟨gB h.Bytes p c (cK c).toNat,h.Class.set p c⟩ t=bL h t:=λt ht=>by
  unfold bL;by_cases q:0<=t/\t<=23
  ·rw[YA hs aa,aP ht]
  ·rw[aP (λz=>q z.1),aP (λz=>q z.1)]
 refine⟨⟨hs',λq hq=>?_⟩,hcls,λt ht=>?_,λi hi=>?_⟩
 ·rw[GO hs' hq];have hold:=(GO hs hq).1 (hpg q hq);by_cases e:q=p
  ·subst e;unfold aBF at hold ⊢;rw[aO hun] at hold;rw[YA hs hq,aO rfl,gT];refine⟨(hb 0).2.2,λk k3 k8=>?_,λi hi=>?_⟩
   ·simp only;rw[(hb k).2.1 k3 k8];exact hold k aa
   ·simp only;rw[a8G h384 hp _ hpn i hi];omega
  ·refine aBF.same hq hs (by simp only[hbl]) (by rw[YA hs hq,aP e]) (λk hk=>?_) hold;exact(hb _).1 aa
 ·obtain⟨p',i',p6',hi',es',ec',eo',ep'⟩:=pZ ht;have hne:(t/4).toNat≠p:=λz=>by rw[ec',<-ep',z] at ht;omega
  refine⟨hne,?_⟩;have hz':=zO hs p6' rfl hi';unfold kQ;rw[hcls t hne,I0 (b:=h.Bytes) aa (by simp only[hbl]) λk k1 k2=>(hb k).1 aa]
 ·have e1:((p:Int)*4+i)/4=p:=aa
  have e2:((p:Int)*4+i) % 4=i:=aa
  have ec:bL ⟨gB h.Bytes p c (cK c).toNat,h.Class.set p c⟩ ((p:Int)*4+i)=c:=by unfold bL;rw[e1,e2,MM,YA hs hp,aO rfl,aO aa]
  refine⟨ec,?_⟩;unfold kQ;rw[ec];have ho:=aIO (c:=c) hp (by omega:(i:Int)<cK c);have:(i4 ((p:Int)*4+i) c).toNat=p*64+8+i*(bE c).toNat:=ho.1;rw[this];exact a8G h384 hp _ hpn i hi
def vH(m m':Mem)(k:Int):Prop:=lW m'/\∀s,eN m s=3->s≠k->eN m' s=3/\kQ m'.Heap s=kQ m.Heap s/\bL m'.Heap s=bL m.Heap s
theorem vH.refl(h:lW m)(k:Int):vH m m k:=⟨h,λ_ h _=>⟨h,rfl,rfl⟩⟩
theorem vH.live{m':Mem}{k h:Int}(q:vH m m' k)(hl:mO m h)(hn:h % 32≠k):mO m' h:=by obtain⟨h1,h2,h3⟩:=hl;obtain⟨a,b,_⟩:=q.2 _ h2 hn;exact⟨h1,a,aa⟩
theorem PD{j:Nat}(hk:k<l.length){t:bG}:fQ (l.set k t) j=if j=k then t.aV else fQ l j:=by grind[fQ]
theorem aO8(hk:k<l.length){t:bG}(ht:t.aV.Sublist l[k].aV):(fK (l.set k t)).Sublist (fK l):=by grind[H4,DY]
theorem GP(hk:k<l.length):s∈fK (l.set k ⟨l[k].aV++xs⟩)↔s∈fK l\/s∈xs:=by grind[H4,DY]
theorem YB(hk:k<l.length){r q:List Int}(h:(q++(fK l++r)).Nodup)(hx:xs.Nodup)(hd:∀x∈xs,x∉q++(fK l++r)):(q++(fK (l.set k ⟨l[k].aV++xs⟩)++r)).Nodup:=by
 have hp:(q++(fK (l.set k ⟨l[k].aV++xs⟩)++r)).Perm (xs++(q++(fK l++r))):=by rw[H4 hk,DY hk];grind
 grind
theorem aDH{m':Mem}(h1:bL m'.Heap s=bL m.Heap s)(h2:kQ m'.Heap s=kQ m.Heap s)(h3:s∈iE m'.aE↔s∈iE m.aE):eN m' s=eN m s:=by simp_all[eN]
theorem iL:eN m s=3↔0<=bL m.Heap s/\s∉iE m.aE/\kQ m.Heap s<=6:=by unfold eN;grind
section
variable {m:Mem} (hm:lW m)
include hm
theorem lW.bIP(hk:k<9){t:bG}(ht:t.aV.Sublist (fQ m.aE.Own k)):vH m ⟨m.Heap,⟨m.aE.Global,m.aE.Own.set k t⟩⟩ (-1):=by
 obtain⟨⟨hh,h3,h9,h2,hr,hn⟩,hg,ho⟩:=hm;have hk':k<m.aE.Own.length:=aa
 have ht':t.aV.Sublist m.aE.Own[k].aV:=by grind[dY]
 have hsub:(iE ⟨m.aE.Global,m.aE.Own.set k t⟩).Sublist (iE m.aE):=(List.Sublist.refl _).append (aO8 hk' ht');refine⟨⟨⟨hh,h3,ak,λs hs=>?_,λx hx=>hr x (hsub.subset hx),hsub.nodup hn⟩,hg,λj hj=>?_⟩,λs hs _=>⟨?_,rfl,rfl⟩⟩
 ·grind
 ·unfold ZI;simp only[PD hk'];split
  ·rename_i e;subst e;exact λx hx=>ho j hj x (ht.subset hx)
  ·exact ho j hj
 grind[iL]
theorem lW.a3C(hk:k<3){t:bG}(ht:t.aV.Sublist (fQ m.aE.Global k)):vH m ⟨m.Heap,⟨m.aE.Global.set k t,m.aE.Own⟩⟩ (-1):=by
 obtain⟨⟨hh,h3,h9,h2,hr,hn⟩,hg,ho⟩:=hm;have hk':k<m.aE.Global.length:=aa
 have ht':t.aV.Sublist m.aE.Global[k].aV:=by grind[dY]
 have hsub:(iE ⟨m.aE.Global.set k t,m.aE.Own⟩).Sublist (iE m.aE):=(aO8 hk' ht').append (List.Sublist.refl _);refine⟨⟨⟨hh,ak,h9,h2,λx hx=>hr x (hsub.subset hx),hsub.nodup hn⟩,λj hj=>?_,ho⟩,λs hs _=>⟨?_,rfl,rfl⟩⟩
 ·unfold aDB;simp only[PD hk'];split
  ·rename_i e;subst e;exact λx hx=>hg j hj x (ht.subset hx)
  ·exact hg j hj
 grind[iL]
theorem lW.bDJ(hk:k<9)(hl:(fQ m.aE.Own k).length+xs.length<=2)(hx:xs.Nodup)(hf:SB m.Heap xs ((k % 3:Nat):Int))(hd:∀x∈xs,x∉iE m.aE)(hk':k<m.aE.Own.length) :
  lW ⟨m.Heap,⟨m.aE.Global,m.aE.Own.set k ⟨m.aE.Own[k].aV++xs⟩⟩⟩/\∀s,s∉xs->eN m s=3->eN ⟨m.Heap,⟨m.aE.Global,m.aE.Own.set k ⟨m.aE.Own[k].aV++xs⟩⟩⟩ s=3:=by
 obtain⟨⟨hh,h3,h9,h2,hr,hn⟩,hg,ho⟩:=hm;have hmem:∀s,s∈iE ⟨m.aE.Global,m.aE.Own.set k ⟨m.aE.Own[k].aV++xs⟩⟩↔s∈iE m.aE\/s∈xs:=λs=>by simp[iE,GP,or_assoc]
 have hcl:∀x∈xs,0<=x/\x<=23:=λx h=>by have:=(hf x h).1;exact(rB (h:=m.Heap) (s:=x) aa).1
 refine⟨⟨⟨hh,h3,ak,λs hs=>?_,λx hx=>?_,?_⟩,hg,λj hj=>?_⟩,λs hs h3=>?_⟩
 ·grind[dY]
 ·grind
 ·have:=YB (q:=fK m.aE.Global) (r:=[]) hk' (by grind[iE]) hx (by grind[iE]);grind[iE]
 ·unfold ZI;simp only[PD hk'];split
  ·rename_i e;subst e;intro x hx;rcases dD.1 hx with q|q
   ·rw[dY hk'] at q;exact ho j hj x q
   ·exact hf x q
  ·exact ho j hj
 grind[iL]
theorem lW.aLL(hk:k<3)(hx:xs.Nodup)(hf:SB m.Heap xs (k:Int))(hd:∀x∈xs,x∉iE m.aE)(hk':k<m.aE.Global.length) :
  lW ⟨m.Heap,⟨m.aE.Global.set k ⟨m.aE.Global[k].aV++xs⟩,m.aE.Own⟩⟩/\∀s,s∉xs->eN m s=3->eN ⟨m.Heap,⟨m.aE.Global.set k ⟨m.aE.Global[k].aV++xs⟩,m.aE.Own⟩⟩ s=3:=by
 obtain⟨⟨hh,h3,h9,h2,hr,hn⟩,hg,ho⟩:=hm;have hmem:∀s,s∈iE ⟨m.aE.Global.set k ⟨m.aE.Global[k].aV++xs⟩,m.aE.Own⟩↔s∈iE m.aE\/s∈xs:=λs=>by simp[iE,GP,or_right_comm]
 have hcl:∀x∈xs,0<=x/\x<=23:=λx h=>by have:=(hf x h).1;exact(rB (h:=m.Heap) (s:=x) aa).1
 refine⟨⟨⟨hh,ak,h9,h2,λx hx=>?_,?_⟩,λj hj=>?_,ho⟩,λs hs h3=>?_⟩
 ·grind
 ·have:=YB (q:=[]) (r:=fK m.aE.Own) hk' (by grind[iE]) hx (by grind[iE]);grind[iE]
 ·unfold aDB;simp only[PD hk'];split
  ·rename_i e;subst e;intro x hx;rcases dD.1 hx with q|q
   ·rw[dY hk'] at q;exact hg j hj x q
   ·exact hf x q
  ·exact hg j hj
 grind[iL]
theorem lW.oN(hx:x∈iE m.aE):0<=bL m.Heap x/\kQ m.Heap x<=6:=by
 obtain⟨⟨hh,h3,h9,h2,hr,hn⟩,hg,ho⟩:=hm;have key:∀(l:List bG),x∈fK l->∃k,k<l.length/\x∈fQ l k:=λl h=>by grind[YZ,aFN,dY]
 rcases dD.1 hx with q|q
 ·obtain⟨k,hk,h⟩:=key _ q;have:=hg k aa x h;omega
 ·obtain⟨k,hk,h⟩:=key _ q;have:=ho k aa x h;omega
theorem lW.heap{h':Heap}(hh:HOk h')(hs:∀x∈iE m.aE,bL h' x=bL m.Heap x/\kQ h' x=kQ m.Heap x):lW ⟨h',m.aE⟩:=by
 obtain⟨⟨_,hl⟩,hg,ho⟩:=hm;have key:∀(l:List bG) k x,x∈fQ l k->x∈fK l:=λl k x h=>by grind[fQ,YZ]
 refine⟨⟨hh,hl⟩,λk hk x hx=>?_,λk hk x hx=>?_⟩
 ·obtain⟨a,b⟩:=hs x (V7 _ (key _ k x hx));show bL h' x=_/\kQ h' x<=6;rw[a,b];exact hg k hk x hx
 ·obtain⟨a,b⟩:=hs x (aBP _ (key _ k x hx));show bL h' x=_/\kQ h' x<=6;rw[a,b];exact ho k hk x hx
theorem lW.bNW{g:Int}(hu:eN m s=3)(hg:1<=g/\g<=7):vH m ⟨⟨st4 m.Heap.Bytes (i4 s (bL m.Heap s)).toNat g,m.Heap.Class⟩,m.aE⟩ s/\kQ ⟨st4 m.Heap.Bytes (i4 s (bL m.Heap s)).toNat g,m.Heap.Class⟩ s=g:=by
 have hu':=iL.1 hu;obtain⟨a,b⟩:=HOk.a8F hm.1.1 hu'.1 hg;refine⟨⟨lW.heap hm a λx hx=>⟨rfl,?_⟩,λt ht hn=>?_⟩,ak⟩
 ·rw[b x (lW.oN hm hx).1,aP (show ¬x=s from λe=>hu'.2.1 (e ▸ hx))]
 ·have ht':=iL.1 ht;have e:kQ ⟨st4 m.Heap.Bytes (i4 s (bL m.Heap s)).toNat g,m.Heap.Class⟩ t=kQ m.Heap t:=ak
  exact⟨iL.2 ⟨ht'.1,ht'.2.1,ak⟩,e,rfl⟩
theorem lW.bLL(hp:p<6)(hun:dA m.Heap p<0)(hc:0<=c/\c<=2)(hxs:∀x∈xs,∃i,i<(cK c).toNat/\x=(p:Int)*4+(i:Nat))(hx:xs.Nodup)(hk':c.toNat<m.aE.Global.length) :
  vH m ⟨⟨gB m.Heap.Bytes p c (cK c).toNat,m.Heap.Class.set p c⟩,⟨m.aE.Global.set c.toNat ⟨m.aE.Global[c.toNat].aV++xs⟩,m.aE.Own⟩⟩ (-1):=by
 obtain⟨a,b,d,e⟩:=HOk.a8H hm.1.1 hp hun hc;have h1:lW ⟨⟨gB m.Heap.Bytes p c (cK c).toNat,m.Heap.Class.set p c⟩,m.aE⟩:=lW.heap hm a λx hx=>by grind[lW.oN]
 have hno:∀x∈xs,¬0<=bL m.Heap x:=λx h q=>by obtain⟨i,hi,rfl⟩:=hxs x h;have h4:=pW c;exact(d _ q).1 aa
 obtain⟨f,g⟩:=lW.aLL h1 (k:=c.toNat) aa hx (λx h=>by
  obtain⟨i,hi,rfl⟩:=hxs x h
  (simp_all;omega)) (λx h q=>hno x h (lW.oN hm q).1) hk'
 refine⟨f,λs hs _=>?_⟩;grind[iL]
end
theorem a8I{n:Nat}(h:x∈gS p n):∃i,i<n/\x=(p:Int)*4+(i:Nat):=by grind[gS]
theorem aUN(p n:Nat):(gS p n).Nodup:=by grind[gS,List.nodup_range]
theorem aUO(hm:lW m)(hc:0<=c/\c<=2) :
  ∃m' s,GA m c=some (m',s)/\LP m c=some (m',s)/\DG m'/\(0<=s->iD m'.Heap/\0<=bL m'.Heap s)/\vH m m' (-1):=by
 have hl:=hm.1.2;have hcnt:=hl.count;have hs:=hm.1.1.1;have hsl:=hl.aUH aa;have hp4:=pW c;have hpp:0<cK c:=jZ.2 hc;have hall:=vD m.aE;have hsG:∀s∈m.aE.Global,s.aV.length<=24:=λs h=>by have:=J0 h;omega
 have hsO:∀s∈m.aE.Own,s.aV.length<=24:=λs h=>by have:=J0 h;omega
 have h3:=hl.1;have h9:=hl.2.1;have hcpl:=QG (l:=m.aE) aa aa (λs h=>ak) (λs h=>ak);unfold GA LP;rcases a8E hm.1.1 hc with ⟨e1,e2⟩|⟨p,hp,hun,e1,e2⟩
 ·rw[e1,e2,hcpl];have h1:=hs.1;have h2:=hs.2.1;exact⟨_,_,rfl,rfl,⟨ak,ak,ak,ak,ak⟩,λh=>absurd h aa,vH.refl hm _⟩
 ·rw[e1,e2,hcpl];simp only[aM,KA,J9,KK,aE4];have hn:(((cK c).toNat:Int) == 0)=false:=ak
  have hk:c.toNat<m.aE.Global.length:=aa
  have hg0:=hsG _ (cY hk);have hx:idx m.aE.Global c=some m.aE.Global[c.toNat]:=gP hc.1 aa;have hz:idx (gS p (cK c).toNat) 0=some ((p:Int)*4):=by grind[aW,gS]
  have hlen:(List.drop (1:Int).toNat (List.take (cK c).toNat (gS p (cK c).toNat))).length<=4:=ak
  simp only[hn,bU,bS,hx,aM,hz];rw[VH,VH];have hcl:dA ⟨gB m.Heap.Bytes p c (cK c).toNat,m.Heap.Class.set p c⟩ p=c:=by grind[dA]
  refine⟨_,_,rfl,rfl,⟨by simp only[KR];have:=hs.1;omega,by simp only[cZ];have:=hs.2.1;omega,ak,ak,?_⟩,λ_=>⟨⟨by simp only[KR];exact hs.1,by simp only[cZ];exact hs.2.1,aRR hs.2.2.1 p hc _,λx hx=>?_⟩,?_⟩,?_⟩
  ·grind[vD,aBE]
  ·rcases o8 hx with h|rfl
   ·exact hs.2.2.2 x h
   ·omega
  ·unfold bL
   (simp_all;omega)
  grind[lW.bLL,a8I,aUN]
theorem aXS(n:Int):∃c,F8 n=some c/\LN n=some c/\(c = -1\/(0<=c/\c<=2)):=by
 have s1:∀k,0<=k/\k<=2->gA n k=some (if 1<=n/\n<=jC k then .stop (Out.ret k) else .next (k+1)):=λk hk=>by simp only[gA];rw[eK,XZ,aM,fH,aM,eG];grind
 have s2:∀k,0<=k/\k<=2->kM n k=some (if 1<=n/\n<=jC k then .stop (Out.ret k) else .next (k+1)):=λk hk=>by simp only[kM,B4];rw[eK,X0,aM,eG];grind
 have st:∀k,0<=k/\k<=2->1<=n/\n<=jC k->loop (gA n) k=some (Out.ret k)/\loop (kM n) k=some (Out.ret k):=λk hk h=>
  ⟨bA ak,bA ak⟩
 have nx:∀k,0<=k/\k<=2->¬(1<=n/\n<=jC k)->loop (gA n) k=loop (gA n) (k+1)/\loop (kM n) k=loop (kM n) (k+1):=λk hk h=>
  ⟨bM ak,bM ak⟩
 unfold F8 LN;by_cases q0:1<=n/\n<=jC 0
 ·have:=st 0 aa q0;rw[this.1,this.2];exact⟨_,rfl,rfl,.inr aa⟩
 ·have h0:=nx 0 aa q0;rw[h0.1,h0.2,show(0:Int)+1=1 from rfl];by_cases q1:1<=n/\n<=jC 1
  ·have:=st 1 aa q1;rw[this.1,this.2];exact⟨_,rfl,rfl,.inr aa⟩
  ·have h1:=nx 1 aa q1;rw[h1.1,h1.2,show(1:Int)+1=2 from rfl];by_cases q2:1<=n/\n<=jC 2
   ·have:=st 2 aa q2;rw[this.1,this.2];exact⟨_,rfl,rfl,.inr aa⟩
   ·have h2:=nx 2 aa q2;rw[h2.1,h2.2,show(2:Int)+1=3 from rfl,bA (body:=gA n) (r:=Out.brk ()) (by simp[gA]),bA (body:=kM n) (r:=Out.brk ()) (by simp[kM])];exact⟨_,rfl,rfl,.inl rfl⟩
theorem a8J{s:bG}(hl:s.aV.length<=1048576):∃t x,tX s=some (t,x)/\xN s=some (x,t)/\t.aV.length<=s.aV.length/\(0<=x->x∈s.aV)/\t.aV.Sublist s.aV:=by
 unfold tX xN P7;rw[eG];by_cases q:s.aV.length=0
 ·rw[aO ak,eK];grind
 ·have hx:idx s.aV ((s.aV.length:Int)-1)=some (s.aV[s.aV.length-1]' aa):=by grind[aW]
  rw[aP ak,aHS,VH,hx];simp only[aM];grind[bZ]
theorem SD(hw:0<=w/\w<=2)(hc:0<=c/\c<=2):TN w c=some (w*3+c)/\M0 w c=some (w*3+c):=by grind[cO,TN,P6,fH,M0,IP,pY,kN]
theorem aLM(hk:k<l.length){t:bG}(ht:t.aV.length<=l[k].aV.length):(fK (l.set k t)).length<=(fK l).length:=by grind[H4,DY]
section
variable {m:Mem} (hm:lW m)
include hm
theorem lW.facts:(iE m.aE).length<=24/\m.aE.Global.length=3/\m.aE.Own.length=9/\m.Heap.Bytes.length=384/\m.Heap.Class.length=6/\DG m/\i7 m.aE=some m.aE/\pJ m.aE=some true /\
  (∀s∈m.aE.Global,s.aV.length<=24)/\(∀s∈m.aE.Own,s.aV.length<=24):=by
 have hl:=hm.1.2;have hcnt:=hl.count;have hall:=vD m.aE;have hsG:∀s∈m.aE.Global,s.aV.length<=24:=λs h=>by have:=J0 h;omega
 have hsO:∀s∈m.aE.Own,s.aV.length<=24:=λs h=>by have:=J0 h;omega
 have h3:=hl.1;have h9:=hl.2.1;have h1:=hm.1.1.1.1;have h2:=hm.1.1.1.2.1;refine⟨hcnt,h3,h9,h1,h2,⟨aa,aa,aa,aa,aa⟩,QG aa aa (λs h=>ak) (λs h=>ak),by grind[VK],hsG,hsO⟩
theorem aLN(hw:0<=w/\w<=2)(hc:0<=c/\c<=2) :
  ∃l t x,idx m.aE.Own (w*3+c)=some l/\tX l=some (t,x)/\LO m.aE w c=some (⟨m.aE.Global,m.aE.Own.set (w*3+c).toNat t⟩,x) /\
   DG ⟨m.Heap,⟨m.aE.Global,m.aE.Own.set (w*3+c).toNat t⟩⟩/\(0<=x->0<=bL m.Heap x)/\vH m ⟨m.Heap,⟨m.aE.Global,m.aE.Own.set (w*3+c).toNat t⟩⟩ (-1):=by
 obtain⟨hcnt,h3,h9,h1,h2,hsm,hcp,hlo,hsG,hsO⟩:=lW.facts hm;have hk:(w*3+c).toNat<m.aE.Own.length:=aa
 have hx:idx m.aE.Own (w*3+c)=some m.aE.Own[(w*3+c).toNat]:=gP aa aa;have h24:=hsO _ (cY hk);obtain⟨t,x,e1,e2,ht,hmem,hsub⟩:=a8J (s:=m.aE.Own[(w*3+c).toNat]) aa;have hall:=vD m.aE;refine⟨_,t,x,hx,e1,?_,⟨ak,ak,ak,ak,?_⟩,λh0=>?_,lW.bIP hm aa (by grind[dY])⟩
 ·unfold LO B5;rw[hcp,(SD hw hc).2,hlo];grind
 ·grind[aLM,vD]
 ·have:=hm.2.2 (w*3+c).toNat aa x (by grind[dY]);omega
theorem aAF(hc:0<=c/\c<=2) :
  ∃l t x,idx m.aE.Global c=some l/\tX l=some (t,x)/\B6 m.aE c=some (⟨m.aE.Global.set c.toNat t,m.aE.Own⟩,x) /\
   DG ⟨m.Heap,⟨m.aE.Global.set c.toNat t,m.aE.Own⟩⟩/\(0<=x->0<=bL m.Heap x)/\vH m ⟨m.Heap,⟨m.aE.Global.set c.toNat t,m.aE.Own⟩⟩ (-1):=by
 obtain⟨hcnt,h3,h9,h1,h2,hsm,hcp,hlo,hsG,hsO⟩:=lW.facts hm;have hk:c.toNat<m.aE.Global.length:=aa
 have hx:idx m.aE.Global c=some m.aE.Global[c.toNat]:=gP aa aa;have h24:=hsG _ (cY hk);obtain⟨t,x,e1,e2,ht,hmem,hsub⟩:=a8J (s:=m.aE.Global[c.toNat]) aa;have hall:=vD m.aE;refine⟨_,t,x,hx,e1,?_,⟨ak,ak,ak,ak,?_⟩,λh0=>?_,lW.a3C hm aa (by grind[dY])⟩
 ·simp_all[B6,tL,kN]
 ·grind[aLM,vD]
 ·have:=hm.2.1 c.toNat aa x (by grind[dY]);omega
theorem aIP{h:Int}(hw:0<=w/\w<=2)(hv:mO m h):∃m',JT m w (h % 32)=some m'/\M6 m w h=some m'/\DG m'/\vH m m' (h % 32):=by
 obtain⟨hcnt,h3,h9,h1,h2,hsm,hcp,hlo,hsG,hsO⟩:=lW.facts hm;have hs:=hm.1.1.1;have hh:=hv.1;have hhm:=hh.mod;have hcl:=dO hv.2.1;have hgo:=YX hcl;have hc2:0<=bL m.Heap (h % 32)/\bL m.Heap (h % 32)<=2:=by obtain⟨_,q,e⟩:=rB hcl;rw[e];exact jZ.1 aa
 have hg6:1<=h/32/\h/32<=6:=by grind[lK]
 have hbl:m.Heap.Bytes.length<=maxLen:=by grind[maxLen]
 have hnot:h % 32∉iE m.aE:=λq=>by have:=hv.2.1;simp_all[eN,aP]
 have hcpH:=UC (h:=m.Heap) aa aa;have eo:i4 (h % 32) (bL m.Heap (h % 32))=(((i4 (h % 32) (bL m.Heap (h % 32))).toNat:Nat):Int):=aa
 have ew:bB (h/32+1)=h/32+1:=eG;have ed:bB (Int.tdiv h 32)=h/32:=by grind[cO]
 have hall:=vD m.aE;obtain⟨hr1,hr2⟩:=lW.bNW hm hv.2.1 (g:=h/32+1) aa;have hu:=iL.1 hv.2.1;unfold JT M6 WR E7;rw[hhm.1,CU hs,hcpH,NN hbl,cV hs,kO hs,ed,ew,hcp];simp only[aM,kW,bU,bS,M5,FK,M4];rw[vV hs hcl,hv.2.2,dN,iC (show ¬bL m.Heap (h % 32)<0 by omega),cV (show 1<=h/32+1/\h/32+1<=7 by omega)];simp only[aM,kW,bU,bS,BK,BL,ew];generalize hgn:(i4 (h % 32) (bL m.Heap (h % 32))).toNat=a at eo;rw[hgn] at hr1 hr2;rw[eo,KQ aa aa aa,aAE aa];simp only[aM];rw[X9 aa aa aa];simp only[aM,ND,PX,ed,ew,hhm.1];by_cases q:h/32+1<=6
 ·have hk:(w*3+bL m.Heap (h % 32)).toNat<m.aE.Own.length:=aa
  have hx:idx m.aE.Own (w*3+bL m.Heap (h % 32))=some m.aE.Own[(w*3+bL m.Heap (h % 32)).toNat]:=gP aa aa;have hk2:(bL m.Heap (h % 32)).toNat<m.aE.Global.length:=aa
  have hx2:idx m.aE.Global (bL m.Heap (h % 32))=some m.aE.Global[(bL m.Heap (h % 32)).toNat]:=gP aa aa;have b1:=hsO _ (cY hk);have b2:=hsG _ (cY hk2);rw[cV q,aO rfl,aO rfl];unfold XC aEL y7;rw[kO hs,aM,hcp,(SD hw hc2).1,(SD hw hc2).2,hlo,yI,cV (show 0<=h % 32/\h % 32<=23 by omega),X8 aa aa aa,iC hnot];simp only[aM,kW,bU,bS,hx,hx2];have nz:¬w*3+bL m.Heap (h % 32)<0:=aa
  simp only[iC nz,bU,bS];by_cases q2:m.aE.Own[(w*3+bL m.Heap (h % 32)).toNat].aV.length<2
  ·have y1:(m.aE.Own[(w*3+bL m.Heap (h % 32)).toNat].aV.length:Int)<2:=aa
   have y2:¬(2:Int)<=m.aE.Own[(w*3+bL m.Heap (h % 32)).toNat].aV.length:=aa
   simp only[cV y1,iC y2,bU,bS,bQ];rw[MA,MA];refine⟨_,rfl,rfl,⟨by grind[GN],ak,ak,ak,?_⟩,?_⟩
   ·grind[vD,aBE]
   ·have hmod:((w*3+bL m.Heap (h % 32)).toNat % 3:Nat)=(bL m.Heap (h % 32)).toNat:=aa
    obtain⟨z1,z2⟩:=lW.bDJ hr1.1 (k:=(w*3+bL m.Heap (h % 32)).toNat) aa (xs:=[h % 32]) (by grind[dY]) ae (λx hx=>by
     simp at hx;subst hx;exact⟨by rw[hmod];show bL m.Heap (h % 32)=_;omega,ak⟩) (λx hx=>ak) hk
    refine⟨z1,λs h1 h2=>?_⟩;obtain⟨y1,y2,y3⟩:=hr1.2 s h1 h2;grind
  ·have y1:¬(m.aE.Own[(w*3+bL m.Heap (h % 32)).toNat].aV.length:Int)<2:=aa
   have y2:(2:Int)<=m.aE.Own[(w*3+bL m.Heap (h % 32)).toNat].aV.length:=aa
   simp only[cV y2,iC y1,bU,bS,bQ];rw[MA,MA];refine⟨_,rfl,rfl,⟨by grind[GN],ak,ak,ak,?_⟩,?_⟩
   ·grind[vD,aBE]
   ·obtain⟨z1,z2⟩:=lW.aLL hr1.1 (k:=(bL m.Heap (h % 32)).toNat) aa (xs:=[h % 32]) ae (λx hx=>by
     simp at hx;subst hx;exact⟨by show bL m.Heap (h % 32)=_;omega,ak⟩) (λx hx=>ak) hk2
    refine⟨z1,λs h1 h2=>?_⟩;obtain⟨y1,y2,y3⟩:=hr1.2 s h1 h2;grind
 ·rw[iC q,gJ,gJ];refine⟨_,rfl,rfl,⟨by grind[GN],ak,ak,ak,by(simp_all;omega)⟩,hr1⟩
end
theorem alloc_eq{b:aA}(hm:lW b.Mem)(hw:0<=w/\w<=2)(s:Sub) :
  ∃x y,BE b w s=some (x,y)/\tM s b w=some (y,x)/\∃m',x=⟨m',b.aC,b.aQ,b.qU⟩/\DG m'/\vH b.Mem m' (-1):=by
 have hsm:=(lW.facts hm).2.2.2.2.2.1;have hs:=hm.1.1.1;obtain⟨c,ec,ei,hcc⟩:=aXS s.A;unfold BE tM;rw[ec,ei];simp only[aM];by_cases c0:c<0
 ·simp only[cV c0,bQ,bP,bJ];exact⟨_,_,rfl,rfl,_,rfl,hsm,vH.refl hm _⟩
 have hc:0<=c/\c<=2:=aa
 simp only[iC c0,bU,bS];have fin:∀(m':Mem) (x:Int),DG m'->vH b.Mem m' (-1)->(0<=x->iD m'.Heap/\0<=bL m'.Heap x) ->
   ∃X Y,jX s x ⟨m',b.aC,b.aQ,b.qU⟩=some (X,Y)/\i6 s x ⟨m',b.aC,b.aQ,b.qU⟩=some (Y,X)/\∃m',X=⟨m',b.aC,b.aQ,b.qU⟩/\DG m'/\vH b.Mem m' (-1):=by
  intro m' x hs' hst hx;unfold jX i6;simp only[zJ,TS,bP,bJ];by_cases x0:0<=x
  ·obtain⟨h,e1,e2⟩:=a3B (m:=m') (hx x0).1 (hx x0).2;rw[iC (show ¬x<0 by omega),cV x0];simp only[bU,bS,bQ,e1,e2,aM];grind
  ·rw[cV (show x<0 by omega),iC x0];by_cases p3:s.Pc=3
   ·simp only[p3,beq_self_eq_true,bQ,bU,bS,aM];grind
   ·have p3':(s.Pc == 3)=false:=ak
    simp only[p3',bQ,bU,bS,aM];grind
 by_cases p0:s.Pc=0
 ·obtain⟨l,t,x,e1,e2,e3,h1,h2,h3⟩:=aLN hm hw hc;simp_all[SD]
 ·have p0':(s.Pc == 0)=false:=ak
  simp only[p0',bU,bS,zK,nU];obtain⟨l,t,x,e1,e2,e3,h1,h2,h3⟩:=aAF hm hc;by_cases p1:s.Pc=1
  ·simp_all
  ·have p1':(s.Pc == 1)=false:=ak
   simp only[p1',bU,bS];by_cases p3:s.Pc=3
   ·simp_all
   ·have p3':(s.Pc == 3)=false:=ak
    simp only[p3',bU,bS];by_cases p2:s.Pc=2
    ·obtain⟨m',x,e1,e2,h1,h2,h3⟩:=aUO hm hc;simp_all
    ·have p2':(s.Pc == 2)=false:=ak
     simp only[p2',bU,bS,bP,bJ];exact⟨_,_,rfl,rfl,_,rfl,hsm,vH.refl hm _⟩
theorem a0T(r:fB)(e:Int):∃v,MI r e=some v/\RS r e=some v:=by
 unfold MI RS L6 LQ;by_cases h:2<=e
 ·simp only[cV h,bQ];exact⟨_,rfl,rfl⟩
 ·simp only[iC h,bU,bS];exact⟨_,rfl,rfl⟩
theorem bDK{b:aA}{l:bW}(hx:idx b.aQ w=some l)(hl:l.Rows.length<=1000)(s:Sub) :
  (zL l.Rows s.Row s.E=some (-1)/\pN s b w=(bJ s 0).bind λx=>some (x,b)) \/
  ∃k,∃h:k<l.Rows.length,zL l.Rows s.Row s.E=some (k:Int)/\pN s b w=some (⟨s.Kind,s.A,2,s.E,(k:Int),0,l.Rows[k].Handle,s.Out,s.Code,s.gK⟩,b):=by
 have key:∀d k,k+d=l.Rows.length ->
   (loop (fM l.Rows s.E) (k:Int)=some (Out.brk ())/\loop (fO s b w) (k:Int)=some (Out.brk ())) \/
   ∃j,∃h:j<l.Rows.length,loop (fM l.Rows s.E) (k:Int)=some (Out.ret (j:Int))/\loop (fO s b w) (k:Int)=some (Out.ret (⟨s.Kind,s.A,2,s.E,(j:Int),0,l.Rows[j].Handle,s.Out,s.Code,s.gK⟩,b)):=by
  intro d;induction d with
  |zero=>
   simp_all[bA,fM,fO]
  |succ d ih=>
   intro k hk;have hk':k<l.Rows.length:=aa
   obtain⟨v,e1,e2⟩:=a0T l.Rows[k] s.E;cases v with
   |true=>
    right;refine⟨k,hk',bA ?_,bA ?_⟩
    ·simp only[fM];rw[eK,aW hk',aM,e1];rfl
    ·simp only[fO,hx,aM];rw[eK,aW hk',aM,e2];rfl
   |false=>
    have n1:fM l.Rows s.E (k:Int)=some (.next ((k+1:Nat):Int)):=by simp only[fM];rw[eK,aW hk',aM,e1,aM,eG];rfl
    have n2:fO s b w (k:Int)=some (.next ((k+1:Nat):Int)):=by simp only[fO,hx,aM];rw[eK,aW hk',aM,e2,aM,eG];rfl
    rw[bM n1,bM n2];exact ih (k+1) aa
 unfold zL pN;have hst:∃i:Nat,(if 0<s.Row then s.Row else 0)=(i:Int)/\(if s.Row<0 then 0 else s.Row)=(i:Int):=by refine⟨s.Row.toNat,?_,?_⟩<;>split<;>omega
 obtain⟨i,i1,i2⟩:=hst;rw[i1,i2];by_cases hi:i<=l.Rows.length
 ·rcases key (l.Rows.length-i) i aa with ⟨a,c⟩|⟨j,hj,a,c⟩
  ·left;rw[a,c];exact⟨rfl,rfl⟩
  ·right;rw[a,c];exact⟨j,hj,rfl,rfl⟩
 ·left;rw[bA (body:=fM l.Rows s.E) (r:=Out.brk ()) (by simp only[fM];grind),
   bA (body:=fO s b w) (r:=Out.brk ()) (by simp only[fO,hx,aM];grind)]
  exact⟨rfl,rfl⟩
theorem del_eq{l:List O}(h:k<l.length):((cT l k (l.drop (k+1))).take (k+(l.length-(k+1)))).drop 0=l.eraseIdx k:=by grind[cT,aFO]
theorem aLO{l:List O}(h:k<l.length):l.Perm (l[k]::l.eraseIdx k):=by grind[vY,ZU,List.eraseIdx_eq_take_drop_succ,List.perm_middle]
theorem z6.drop{b:List bW}(hL:z6 b){w:Nat}(hw:w<b.length):∀k (hk:k<b[w].Rows.length),z6 (b.set w ⟨b[w].Rows.eraseIdx k⟩)/\∀r∈dV (b.set w ⟨b[w].Rows.eraseIdx k⟩),r∈dV b/\r.Handle % 32≠b[w].Rows[k].Handle % 32:=by
 intro k hk;have hsub:(dV (b.set w ⟨b[w].Rows.eraseIdx k⟩)).Sublist (dV b):=by grind[MK,J1]
 have hnd:=hL.2.2.2;refine⟨⟨by simpa using hL.1,lX hsub.length_le hL.2.1,λr hr=>hL.2.2.1 r (hsub.subset hr),(hsub.map HD).nodup hnd⟩,λr hr=>⟨hsub.subset hr,?_⟩⟩;have hp:(dV b).Perm (b[w].Rows[k]::dV (b.set w ⟨b[w].Rows.eraseIdx k⟩)):=by rw[MK hw,J1 hw];refine List.Perm.trans (List.Perm.append_left _ (List.Perm.append_right _ (aLO hk))) ?_;simp
 grind[HD]
theorem aXT{b:aA}(hb:mP b)(hw:0<=w/\w<=2)(s:Sub) :
  ∃x y,vA b w s=some (x,y)/\pO s b w=some (y,x)/\∃m' L,x=⟨m',b.aC,L,b.qU⟩/\DG m'/\lW m'/\z6 L/\∀r∈dV L,mO m' r.Handle/\r.aK<=b.aC.aK:=by
 have hm:=hb.1.1;have hL:=hb.1.2.2.1;have hZ:=hb.1.2.2.2;have hsm:=(lW.facts hm).2.2.2.2.2.1;have hlen:w.toNat<b.aQ.length:=by have:=hL.1;omega
 have hx:idx b.aQ w=some b.aQ[w.toNat]:=gP hw.1 aa;have hrow:=hL.small.2.2.2 _ (cY hlen);have hmemL:b.aQ[w.toNat]∈b.aQ:=cY hlen;have hset:=z6.drop hL hlen;generalize b.aQ[w.toNat]=l at hx hrow hset hmemL;have done:∀y:Sub,∃x z,(some (b,y):Option (aA×Sub))=some (x,z)/\(some (y,b):Option (Sub×aA))=some (z,x)/\∃m' L,x=⟨m',b.aC,L,b.qU⟩/\DG m'/\lW m'/\z6 L/\∀r∈dV L,mO m' r.Handle/\r.aK<=b.aC.aK:=
  λy=>⟨_,_,rfl,rfl,b.Mem,b.aQ,rfl,hsm,hm,hL,hb.2⟩
 have hw1:bB ((l.Rows.length:Int)-1)=(l.Rows.length:Int)-1:=eG;have hhas:JJ b.aQ w s.Row=some (decide (0<=s.Row/\s.Row<=(l.Rows.length:Int)-1)):=by simp_all[JJ,FL,pY,dN]
 unfold vA pO;rw[hhas,hx];simp only[aM,bP,fH,hw1];have hat:∃a:Bool,(if decide (0<=s.Row/\s.Row<=(l.Rows.length:Int)-1)=true then(idx l.Rows s.Row).bind λx15=>gG s b w (x15.Handle == s.H) else gG s b w false)=gG s b w a /\
   (if(!decide (0<=s.Row/\s.Row<=(l.Rows.length:Int)-1))=true then fW b s true else(idx l.Rows s.Row).bind λx11=>fW b s (x11.Handle != s.H))=fW b s (!a) /\
   (a=true->∃r,r∈l.Rows/\idx l.Rows s.Row=some r/\r.Handle=s.H/\0<=s.Row/\s.Row<l.Rows.length) /\
   (a=false->∀f:fB->Option (aA×Sub),(if(!decide (0<=s.Row/\s.Row<=(l.Rows.length:Int)-1))=true then fX b w s l true else(idx l.Rows s.Row).bind λx=>if(x.Handle != s.H)=true then fX b w s l true else f x)=fX b w s l true):=by
  by_cases q:0<=s.Row/\s.Row<=(l.Rows.length:Int)-1
  ·have hr:idx l.Rows s.Row=some (l.Rows[s.Row.toNat]' aa):=gP q.1 aa;by_cases q2:(l.Rows[s.Row.toNat]' aa).Handle=s.H
   ·refine⟨true,?_,?_,λ_=>⟨_,cY _,hr,q2,q.1,aa⟩,λh=>by cases h⟩
    ·rw[cV q,aO rfl,hr,aM,q2,beq_self_eq_true]
    ·rw[cV q,gJ,hr,aM,q2,bne_self_eq_false];rfl
   ·have n1:((l.Rows[s.Row.toNat]' aa).Handle == s.H)=false:=by simpa using q2
    have n2:((l.Rows[s.Row.toNat]' aa).Handle != s.H)=true:=by simpa using q2
    refine⟨false,?_,?_,(λh=>by cases h),λ_ f=>?_⟩
    ·rw[cV q,aO rfl,hr,aM,n1]
    ·rw[cV q,gJ,hr,aM,n2];rfl
    ·rw[cV q,gJ,hr,aM,n2,aO rfl]
  simp_all[iC]
 obtain⟨a,ha1,ha2,ha3,ha4⟩:=hat;rw[ha1,ha2];unfold gG;by_cases p0:s.Pc=0
 ·simp_all
 have p0':(s.Pc == 0)=false:=ak
 simp only[p0',bU,bS];by_cases p1:s.Pc=1
 ·simp only[p1,beq_self_eq_true,bQ];rcases bDK hx aa s with ⟨e1,e2⟩|⟨k,hk,e1,e2⟩
  ·simp_all[bJ]
  simp_all[aP,aW]
 have p1':(s.Pc == 1)=false:=ak
 simp only[p1',bU,bS];by_cases p2:s.Pc=2
 ·simp only[p2,beq_self_eq_true,bQ,pY,aM];by_cases hB:0<=s.B/\s.B<=2
  ·rw[cV hB];simp only[kW,bU,bS,bQ];cases a with
   |true=>
    have hz:idx b.qU s.B=some (b.qU[s.B.toNat]'(by have:=hZ.1;omega)):=gP hB.1 (by have:=hZ.1;omega);simp only[fW,fA,kW,bU,bS,bQ,hz,aM,uB];by_cases q:(b.qU[s.B.toNat]' ak)=s.H
    ·simp_all
    ·have q':((b.qU[s.B.toNat]' ak) == s.H)=false:=ak
     simp only[q',bU,bS];by_cases q3:bB (s.B+1)=3
     ·simp_all
     simp_all
   |false=>
    simp_all[fW,fA,dP,bP,bJ]
  simp_all[iC,fW,fA,dP,bP,bJ]
 have p2':(s.Pc == 2)=false:=ak
 simp only[p2',bU,bS,fA];by_cases p3:s.Pc=3
 ·simp only[p3,beq_self_eq_true,bQ];cases a with
  |false=>
   rw[ha4 rfl];simp_all[fX,dP,bP,bJ]
  |true=>
   obtain⟨r,hrm,hr,hrH,r0,r1⟩:=ha3 rfl;obtain⟨v,e1,e2⟩:=a0T r s.E;rw[cV (show 0<=s.Row/\s.Row<=(l.Rows.length:Int)-1 by omega)];simp only[kW,bU,bS,bQ,hr,aM,hrH,bne_self_eq_false,hx,e1,e2];cases v with
   |false=>
    simp_all[fX,dP,bP,bJ]
   |true=>
    have hlive:mO b.Mem s.H:=by have:r∈dV b.aQ:=aFM.2 ⟨l,hmemL,hrm⟩;have:=(hb.2 r this).1;grind
    obtain⟨m',f1,f2,f3,f4⟩:=aIP hm hw hlive;have ew:bB (s.Row+1)=s.Row+1:=eG;have hdrop:LR b.aQ w s.Row=some (b.aQ.set w.toNat ⟨((cT l.Rows s.Row.toNat (l.Rows.drop (s.Row+1).toNat)).take (s.Row.toNat+(l.Rows.length-(s.Row+1).toNat))).drop 0⟩,true):=by
     unfold LR B7;rw[QH hL.small.2.2.1 (λs h=>by have:=hL.small.2.2.2 s h;omega),CV hL.small.1,cV hL,hhas,cV (show 0<=s.Row/\s.Row<=(l.Rows.length:Int)-1 by omega)];simp only[aM,kW,bU,bS,hx,ew];unfold C3;rw[VH,aHS,VH,VH,VH,bZ]
     ·rfl
     grind[eX]
    simp only[fX,dP,DD,ew,kW,bU,bS,bQ];rw[VH,VH,VH,jR,aO hlive.1,aM,f1,f2,hdrop];have hk:s.Row.toNat<l.Rows.length:=aa
    have eL:((cT l.Rows s.Row.toNat (l.Rows.drop (s.Row+1).toNat)).take (s.Row.toNat+(l.Rows.length-(s.Row+1).toNat))).drop 0=l.Rows.eraseIdx s.Row.toNat:=by rw[show(s.Row+1).toNat=s.Row.toNat+1 by omega];exact del_eq hk
    have er:l.Rows[s.Row.toNat]=r:=by grind[aW]
    rw[eL] at hdrop ⊢;obtain⟨g1,g2⟩:=hset s.Row.toNat hk;refine⟨_,_,rfl,rfl,m',_,rfl,f3,f4.1,g1,λq hq=>?_⟩;obtain⟨g3,g4⟩:=g2 q hq;obtain⟨g5,g6⟩:=hb.2 q g3;refine⟨f4.live g5 λe=>?_,g6⟩;grind
 simp_all[dP,bJ]
theorem UA.fits{b:aA}(h:UA b):b.Mem.Heap.Bytes.length<=maxLen/\(iE b.Mem.aE).length<=1073741824/\b.aC.cE.length<=maxLen/\b.aQ.length<=maxLen/\(dV b.aQ).length<=1073741824/\b.qU.length<=maxLen:=by
 have hb:(1048576:Nat)<=maxLen:=by simp[maxLen]
 have g1:=h.1.1;have g2:=h.1.2.2.2.2;have g3:=h.2.1;have g4:=h.2.2.1;have g5:=h.2.2.2.1;have g6:=h.2.2.2.2;omega
theorem step_eq{b:aA}(hb:mP b)(hs:UA b)(hw:0<=w/\w<=2)(s:Sub) :
  ∃x y,TU b w s=some (x,y)/\qJ s b w=some (y,x)/\mP x:=by
 have hz:=hb.1.2.2.2.1;have hl:=hb.1.2.2.1;unfold TU qJ;cases hd:s.gK with
 |true=>grind
 |false=>
  simp only[bU,bS];by_cases k1:s.Kind=1
  ·obtain⟨x,y,e1,e2,m,rfl,h1,h2⟩:=alloc_eq hb.1.1 hw s;simp only[k1,beq_self_eq_true,bQ,e1,e2,aM];exact⟨_,_,rfl,rfl,⟨h2.1,hb.1.2⟩,λr hr=>⟨h2.live (hb.2 r hr).1 aa,(hb.2 r hr).2⟩⟩
  have k1':(s.Kind == 1)=false:=ak
  simp only[k1',bU,bS];by_cases k2:s.Kind=2
  ·obtain⟨x,y,e1,e2,L,rfl,h1,h2⟩:=a27 hb hs hw s;simp only[k2,beq_self_eq_true,bQ,e1,e2,aM];exact⟨_,_,rfl,rfl,⟨hb.1.1,hb.1.2.1,h1,hb.1.2.2.2⟩,h2⟩
  have k2':(s.Kind == 2)=false:=ak
  simp only[k2',bU,bS];by_cases k3:s.Kind=3
  ·obtain⟨x,y,e1,e2,c,rfl,h1,h2⟩:=aXN hb.1.2.1 s;simp only[k3,beq_self_eq_true,bQ,e1,e2,aM];exact⟨_,_,rfl,rfl,⟨hb.1.1,h1,hb.1.2.2⟩,λr hr=>⟨(hb.2 r hr).1,aI8 (hb.2 r hr).2 h2⟩⟩
  have k3':(s.Kind == 3)=false:=ak
  simp only[k3',bU,bS];by_cases k4:s.Kind=4
  ·obtain⟨x,y,e1,e2,m,L,rfl,h1,h2,h3,h4⟩:=aXT hb hw s;simp only[k4,beq_self_eq_true,bQ,e1,e2,aM];exact⟨_,_,rfl,rfl,⟨h2,hb.1.2.1,h3,hb.1.2.2.2⟩,h4⟩
  have k4':(s.Kind == 4)=false:=ak
  simp only[k4',bU,bS];by_cases k5:s.Kind=5
  ·obtain⟨x,y,e1,e2,c,rfl,h1,h2⟩:=bIO hb.1.2.1 hw s;simp only[k5,beq_self_eq_true,bQ,e1,e2,aM];exact⟨_,_,rfl,rfl,⟨hb.1.1,h1,hb.1.2.2⟩,λr hr=>⟨(hb.2 r hr).1,aI8 (hb.2 r hr).2 h2⟩⟩
  have k5':(s.Kind == 5)=false:=ak
  simp only[k5',bU,bS,bP,bJ,aM];grind
theorem mP.small{b:aA}(hb:mP b):UA b:=by have h1:=hb.1.2.1.2.1;have h2:=hb.1.2.2.1.1;have h3:=hb.1.2.2.1.2.1;have h4:=hb.1.2.2.2.1;exact⟨(lW.facts hb.1.1).2.2.2.2.2.1,aa,aa,aa,aa⟩
def vI(s:Sub)(code:Int):Sub:={s with Code:=code,gK:=true}
def KS(n:Int):Int:=if 1<=n/\n<=8 then 0 else if 1<=n/\n<=16 then 1 else if 1<=n/\n<=40 then 2 else -1
theorem aXU(n:Int):-1<=KS n/\KS n<=2:=by grind[KS]
theorem a3D(n:Int):F8 n=some (KS n):=by
 have s1:∀k,0<=k/\k<=2->gA n k=some (if 1<=n/\n<=jC k then .stop (Out.ret k) else .next (k+1)):=λk hk=>by simp only[gA];rw[eK,XZ,aM,fH,aM,eG];grind
 have z0:jC 0=8:=rfl;have z1:jC 1=16:=rfl;have z2:jC 2=40:=rfl;unfold F8 KS;by_cases q0:1<=n/\n<=8
 ·rw[bA (by rw[s1 0 aa,aO aa]),aO q0];rfl
 ·rw[bM (by rw[s1 0 aa,gT]),aP q0,show(0:Int)+1=1 from rfl];by_cases q1:1<=n/\n<=16
  ·rw[bA (by rw[s1 1 aa,aO aa]),aO q1];rfl
  ·rw[bM (by rw[s1 1 aa,gT]),aP q1,show(1:Int)+1=2 from rfl];by_cases q2:1<=n/\n<=40
   ·rw[bA (by rw[s1 2 aa,aO aa]),aO q2];rfl
   ·rw[bM (by rw[s1 2 aa,gT]),aP q2,show(2:Int)+1=3 from rfl,bA (body:=gA n) (r:=Out.brk ()) (by simp[gA])];rfl
def NS(l:List Int):List Int×Int:=(l.dropLast,l.getLastD (-1))
theorem aIQ{s:bG}(h:s.aV.length<=1048576):tX s=some (⟨(NS s.aV).1⟩,(NS s.aV).2):=by
 unfold tX P7 NS;obtain⟨l⟩:=s;rcases ZQ l with rfl|⟨L,b,rfl⟩
 ·rfl
 ·simp only[aI9] at h ⊢;have hl:(L++[b]).length=L.length+1:=ae
  rw[hl,eG,show((L.length+1:Nat):Int)-1=(L.length:Int) by omega,aHS,VH,V2];simp
def GQ(m:Mem)(w c:Int):Mem×Int:=(⟨m.Heap,⟨m.aE.Global,m.aE.Own.set (w*3+c).toNat ⟨(NS (fQ m.aE.Own (w*3+c).toNat)).1⟩⟩⟩,(NS (fQ m.aE.Own (w*3+c).toNat)).2)
def zP(m:Mem)(c:Int):Mem×Int:=(⟨m.Heap,⟨m.aE.Global.set c.toNat ⟨(NS (fQ m.aE.Global c.toNat)).1⟩,m.aE.Own⟩⟩,(NS (fQ m.aE.Global c.toNat)).2)
def pgF(h:Heap):Nat:=h.Class.findIdx (λx=>decide (x = -1))
def yJ(m:Mem)(c:Int):Mem×Int:=if pgF m.Heap=6 then(m,-1) else
 (⟨⟨gB m.Heap.Bytes (pgF m.Heap) c (cK c).toNat,m.Heap.Class.set (pgF m.Heap) c⟩,⟨m.aE.Global.set c.toNat ⟨fQ m.aE.Global c.toNat++(gS (pgF m.Heap) (cK c).toNat).drop 1⟩,m.aE.Own⟩⟩,(pgF m.Heap:Int)*4)
theorem a8K{h:Heap}(hs:iD h):pgF h<=6:=by rw[<-hs.2.1];exact List.findIdx_le_length
theorem aXV{h:Heap}(hs:iD h)(hq:pgF h≠6):pgF h<6/\dA h (pgF h) = -1:=by
 have h6:=hs.2.1;have hlt:pgF h<6:=by grind[a8K]
 refine⟨hlt,?_⟩;rw[<-YW hs hlt];have:=a4W (xs:=h.Class) (p:=λx=>decide (x = -1)) (w:=by grind[pgF]);exact of_decide_eq_true this
theorem bDL{h:Heap}(hs:iD h):∀j (hj:j<6),j<pgF h->dA h j≠-1:=λj hj hlt=>by have:=List.not_of_lt_findIdx hlt;grind[YW]
theorem bIQ{h:Heap}(hh:HOk h)(hc:0<=c/\c<=2):tY h c=some (if pgF h=6 then(h,[]) else(⟨gB h.Bytes (pgF h) c (cK c).toNat,h.Class.set (pgF h) c⟩,gS (pgF h) (cK c).toNat)):=by
 have hs:=hh.1;have h6:=hs.2.1;have h384:=hs.1;have hle:=a8K hs;have s1:∀k (hk:k<pgF h),fL h c (k:Int)=some (.next ((k+1:Nat):Int)):=λk hk=>by
  have n:(h.Class[k] != -1)=true:=by grind[bDL,YW]
  simp only[fL,KJ];rw[eK,V2,aM,n,aO rfl,eG];rfl
 unfold tY;by_cases hq:pgF h=6
 ·have a1:loop (fL h c) 0=some (Out.brk ()):=iS (pgF h) (λk=>(k:Int)) _ s1 (by simp_all[fL]);rw[a1,aO hq];rfl
 ·obtain⟨hlt,he⟩:=aXV hs hq;rw[<-YW hs hlt] at he;generalize hqq:pgF h=q at *;have a1:loop (fL h c) 0=some (Out.ret (⟨gB h.Bytes q c (cK c).toNat,h.Class.set q c⟩,gS q (cK c).toNat)):=iS q (λk=>(k:Int)) _ s1 (by
   have e0:bB ((q:Int)*64)=((q*64:Nat):Int):=by grind[cO]
   have e1:bB (((q*64:Nat):Int)+1)=((q*64+1:Nat):Int):=by grind[cO]
   have e2:bB (((q*64:Nat):Int)+2)=((q*64+2:Nat):Int):=by grind[cO]
   have n:(h.Class[q] != -1)=false:=ak
   simp only[fL,e0,e1,e2,MM];rw[eK,V2,aM,n,gJ,V2,aM,aW ah,aM,oZ,aM,aW ah,aM];have:=aLJ h384 hlt hc;simp only[gB] at this;rw[this];rfl)
  rw[a1,aP hq];rfl
theorem a3E(hm:lW m)(hc:0<=c/\c<=2):GA m c=some (yJ m c):=by
 have h3:=hm.1.2.1;have hpp:0<cK c:=jZ.2 hc;have hp4:=pW c;obtain⟨_,_,_,_,_,_,_,_,hsG,_⟩:=lW.facts hm;unfold GA yJ;rw[bIQ hm.1.1 hc];by_cases hq:pgF m.Heap=6
 ·simp_all
 ·have hk:c.toNat<m.aE.Global.length:=aa
  have hg0:=hsG _ (cY hk);have hx:idx m.aE.Global c=some m.aE.Global[c.toNat]:=gP hc.1 aa;have hz:idx (gS (pgF m.Heap) (cK c).toNat) 0=some ((pgF m.Heap:Int)*4):=by grind[aW,gS]
  have hn:(((cK c).toNat:Int) == 0)=false:=ak
  have ht:(gS (pgF m.Heap) (cK c).toNat).take (cK c).toNat=gS (pgF m.Heap) (cK c).toNat:=aFO (by grind[aE4]);have hd:((gS (pgF m.Heap) (cK c).toNat).drop 1).length<=4:=ak
  simp only[aP hq,aM,aE4,hn,bU,bS,hx,hz,KK,ht];grind[bZ,dY]
def aXW(m:Mem)(s:Int):Int:=if 1<=kQ m.Heap s/\kQ m.Heap s<=6 then kQ m.Heap s*32+s else 0
theorem bDM(hs:iD m.Heap)(hc:0<=bL m.Heap s):BD m s=some (aXW m s):=by
 unfold BD P8 zH aXW;rw[vV hs hc,aM,fH,fH];have h1:=(rB hc).1;simp only[cV h1,aM,kW,bU,bS];by_cases q:1<=kQ m.Heap s/\kQ m.Heap s<=6
 ·simp only[cV q,kW,bU,bS,aO q];grind[cO]
 grind
def KT(b:aA)(s:Sub)(p:Mem×Int):aA×Sub:=
 if 0<=p.2 then({b with Mem:=p.1},vI {s with Out:=aXW p.1 p.2} 0) else if s.Pc=3 then({b with Mem:=p.1},vI s 3) else({b with Mem:=p.1},{s with Pc:=s.Pc+1})
def QJ(b:aA)(w:Int)(s:Sub):aA×Sub:=
 if KS s.A<0 then(b,vI s 2)
 else if s.Pc=0 then KT b s (GQ b.Mem w (KS s.A))
 else if s.Pc=1\/s.Pc=3 then KT b s (zP b.Mem (KS s.A))
 else if s.Pc=2 then KT b s (yJ b.Mem (KS s.A))
 else(b,vI s 1)
theorem a3F{b:aA}(hm:lW b.Mem)(hw:0<=w/\w<=2)(s:Sub):BE b w s=some (QJ b w s):=by
 obtain⟨hcnt,h3,h9,h1,h2,hsm,hcp,hlo,hsG,hsO⟩:=lW.facts hm;have hs:=hm.1.1.1;have hr:=aXU s.A;unfold BE QJ;rw[a3D];simp only[aM];by_cases c0:KS s.A<0
 ·simp only[cV c0,bQ,bP,aO c0];rfl
 generalize KS s.A=c at *;have hc:0<=c/\c<=2:=aa
 simp only[iC c0,bU,bS,aP c0];have fin:∀(p:Mem×Int),-1<=p.2->(0<=p.2->iD p.1.Heap/\0<=bL p.1.Heap p.2)->s.Pc<=3/\0<=s.Pc->jX s p.2 ⟨p.1,b.aC,b.aQ,b.qU⟩=some (KT b s p):=by
  intro p hp hx hpc;unfold jX KT;simp only[zJ,TS,bP];by_cases x0:0<=p.2
  ·rw[iC (show ¬p.2<0 by omega),cV x0];simp only[bU,bS,bQ,aO x0,bDM (hx x0).1 (hx x0).2,aM];rfl
  ·rw[cV (show p.2<0 by omega),iC x0];by_cases p3:s.Pc=3
   ·have p3':(s.Pc == 3)=true:=ak
    simp only[p3',bQ,aP x0,aO p3,aM];rfl
   ·have p3':(s.Pc == 3)=false:=ak
    have e:bB (s.Pc+1)=s.Pc+1:=eG;grind
 have popL:∀l:List Int,-1<=(NS l).2\/(NS l).2∈l:=λl=>by unfold NS;grind
 by_cases p0:s.Pc=0
 ·have hk:(w*3+c).toNat<b.Mem.aE.Own.length:=aa
  have hx:idx b.Mem.aE.Own (w*3+c)=some b.Mem.aE.Own[(w*3+c).toNat]:=gP aa aa;obtain⟨l,t,x,e1,e2,e3,g1,g2,g3⟩:=aLN hm hw hc;have hl:=hsO _ (cY hk);rw[hx] at e1;cases e1;rw[aIQ aa] at e2;have ep:GQ b.Mem w c=(⟨b.Mem.Heap,⟨b.Mem.aE.Global,b.Mem.aE.Own.set (w*3+c).toNat t⟩⟩,x):=by grind[GQ,dY]
  have hx0:-1<=x:=by
   injection e2 with e2;injection e2 with e4 e5
   rcases popL b.Mem.aE.Own[(w*3+c).toNat].aV with h|h
   ·omega
   ·rw[<-e5];have:=hm.1.2.2.2.2.1 _ (aBP _ (aFM.2 ⟨_,cY hk,h⟩));omega
  have p0':(s.Pc == 0)=true:=ak
  have:=fin (GQ b.Mem w c) ak ak aa;rw[ep] at this;simp only[p0',bQ,aO p0,(SD hw hc).1,aM,hx];grind[aIQ]
 ·have p0':(s.Pc == 0)=false:=ak
  simp only[p0',bU,bS,zK,aP p0];have hk:c.toNat<b.Mem.aE.Global.length:=aa
  have hx:idx b.Mem.aE.Global c=some b.Mem.aE.Global[c.toNat]:=gP aa aa;obtain⟨l,t,x,e1,e2,e3,g1,g2,g3⟩:=aAF hm hc;have hl:=hsG _ (cY hk);rw[hx] at e1;cases e1;rw[aIQ aa] at e2;have ep:zP b.Mem c=(⟨b.Mem.Heap,⟨b.Mem.aE.Global.set c.toNat t,b.Mem.aE.Own⟩⟩,x):=by grind[zP,dY]
  have hx0:-1<=x:=by
   injection e2 with e2;injection e2 with e4 e5
   rcases popL b.Mem.aE.Global[c.toNat].aV with h|h
   ·omega
   ·rw[<-e5];have:=hm.1.2.2.2.2.1 _ (V7 _ (aFM.2 ⟨_,cY hk,h⟩));omega
  have tg:0<=s.Pc/\s.Pc<=3->(idx b.Mem.aE.Global c).bind (λx13=>(tX x13).bind λx14=>jX s x14.2 ({b with Mem:=(⟨b.Mem.Heap,(⟨b.Mem.aE.Global.set c.toNat x14.1,b.Mem.aE.Own⟩:aE)⟩:Mem)}:aA))=some (KT b s (zP b.Mem c)):=λhpc=>by grind[aIQ]
  by_cases p1:s.Pc=1
  ·grind
  ·have p1':(s.Pc == 1)=false:=ak
   simp only[p1',bU,bS];by_cases p3:s.Pc=3
   ·grind
   ·have p3':(s.Pc == 3)=false:=ak
    have n13:¬(s.Pc=1\/s.Pc=3):=aa
    simp only[p3',bU,bS,aP n13];by_cases p2:s.Pc=2
    ·obtain⟨m',y,f1,f2,k1,k2,k3⟩:=aUO hm hc;have hg:=a3E hm hc;rw[f1] at hg;have hg':yJ b.Mem c=(m',y):=ak
     have hy:-1<=(yJ b.Mem c).2:=by grind[yJ]
     grind
    ·have p2':(s.Pc == 2)=false:=ak
     simp only[p2',bU,bS,bP,aP p2,aM];rfl
def cS(c:aC)(w:Int):wQ:=c.cE.getD w.toNat ⟨false,0,false,0⟩
theorem SF{c:aC}(hc:KP c)(hw:0<=w/\w<=2):idx c.cE w=some (cS c w):=by have:=hc.2.1;grind[gP,cS]
def HE(c:aC)(w e:Int):aC×Bool:=
 if(cS c w).On=false\/(cS c w).gO=true\/(cS c w).aK=e then(c,true)
 else if(cS c w).Seen=2 then(⟨c.aK,c.cE.set w.toNat {cS c w with gO:=true,Seen:=0}⟩,true)
 else(⟨c.aK,c.cE.set w.toNat {cS c w with Seen:=(cS c w).Seen+1}⟩,false)
theorem aLP{c:aC}(hc:KP c)(hw:0<=w/\w<=2):POk c.aK (cS c w):=by
 have:=SF hc hw;have h2:=hc.2.1;rw[gP hw.1 aa] at this;injection this with this
 rw[<-this];exact hc.2.2 _ (cY _)
theorem a8L{c:aC}(hc:KP c)(hw:0<=w/\w<=2)(e:Int):JU c w e=some (HE c w e):=by have hp:=aLP hc hw;have hx:=SF hc hw;have hsm:=hc.small;unfold JU GC HE;rw[m7 hsm.1,kP,cV hc,fH,cV hw,hx];simp only[aM,kW,bU,bS,sC,hx];generalize cS c w=p at *;have ew:bB (p.Seen+1)=p.Seen+1:=cO (by have:=hp.2.1;omega) (by have:=hp.2.1;omega);grind
def aFZ(c:aC)(e:Int):aC×Bool:=if c.aK=e/\e≠100000 then(⟨e+1,c.cE⟩,true) else(c,false)
theorem a8M{c:aC}(hc:KP c)(e:Int):R1 c e=some (aFZ c e):=by
 have hsm:=hc.small;unfold R1 GD aFZ;rw[m7 hsm.1,kP,cV hc];simp only[aM,kW,bU,bS];by_cases h1:c.aK=e
 ·have he:=hc.1;grind[cO]
 ·simp[h1]
def NT(c:aC)(w e:Int):aC×Bool:=if 0<=e/\e<=c.aK then(⟨c.aK,c.cE.set w.toNat ⟨true,e,false,0⟩⟩,true) else(c,false)
theorem a3G{c:aC}(hc:KP c)(hw:0<=w/\w<=2)(e:Int):NF c w e=some (NT c w e):=by have hsm:=hc.small;unfold NF BF NT;rw[m7 hsm.1,kP,cV hc,fH,cV hw,fH];simp only[aM,kW,bU,bS];grind[SF]
def H6(c:aC)(w:Int):aC×Bool:=if(cS c w).On then(⟨c.aK,c.cE.set w.toNat ⟨false,0,false,0⟩⟩,true) else(c,false)
theorem aO9{c:aC}(hc:KP c)(hw:0<=w/\w<=2):TX c w=some (H6 c w):=by have hsm:=hc.small;have hx:=SF hc hw;unfold TX BG H6;rw[m7 hsm.1,kP,cV hc,fH,cV hw,hx];grind
def fF(b:aA)(s:Sub):aA×Sub:=
 if s.Pc=0 then(b,{s with Pc:=1,E:=b.aC.aK,B:=0})
 else if s.Pc=1 then
  if 0<=s.B/\s.B<=2 then
   if(HE b.aC s.B s.E).2 then({b with aC:=(HE b.aC s.B s.E).1},{s with Pc:=if s.B=2 then 2 else 1,B:=s.B+1})
   else({b with aC:=(HE b.aC s.B s.E).1},vI s 8)
  else(b,vI s 1)
 else if s.Pc=2 then({b with aC:=(aFZ b.aC s.E).1},vI {s with Out:=if(aFZ b.aC s.E).2 then 1 else s.Out} 0)
 else(b,vI s 1)
theorem aUP{b:aA}(hc:KP b.aC)(s:Sub):uZ b s=some (fF b s):=by
 unfold uZ fF;rw[a8M hc,fH];simp only[bP,tZ,uA,aM];by_cases p0:s.Pc=0
 ·grind
 ·have p0':(s.Pc == 0)=false:=ak
  simp only[p0',bU,bS,aP p0];by_cases p1:s.Pc=1
  ·have p1':(s.Pc == 1)=true:=ak
   simp only[p1',bQ,aO p1];by_cases hB:0<=s.B/\s.B<=2
   ·have ew:bB (s.B+1)=s.B+1:=eG;simp only[cV hB,kW,bU,bS,aO hB,a8L hc hB,aM,ew];grind[vI]
   ·simp only[iC hB,SQ,bQ,aP hB];rfl
  ·have p1':(s.Pc == 1)=false:=ak
   simp only[p1',bU,bS,aP p1];by_cases p2:s.Pc=2
   ·have p2':(s.Pc == 2)=true:=ak
    simp only[p2',bQ,aO p2];cases h:(aFZ b.aC s.E).2<;>rfl
   ·have p2':(s.Pc == 2)=false:=ak
    simp only[p2',bU,bS,aP p2];rfl
def qO(b:aA)(w:Int)(s:Sub):aA×Sub:=
 if s.Pc=0 then(b,{s with Pc:=1,E:=b.aC.aK})
 else if s.Pc=1 then
  if(NT b.aC w s.E).2 then({b with aC:=(NT b.aC w s.E).1},{s with Pc:=2}) else({b with aC:=(NT b.aC w s.E).1},vI s 1)
 else if s.Pc=2 then if b.aC.aK=s.E then(b,vI s 0) else(b,{s with Pc:=0})
 else(b,vI s 1)
theorem bDN{b:aA}(hc:KP b.aC)(hw:0<=w/\w<=2)(s:Sub):JV b w s=some (qO b w s):=by
 unfold JV qO;rw[a3G hc hw];simp only[bP,aM];by_cases p0:s.Pc=0
 ·grind
 ·have p0':(s.Pc == 0)=false:=ak
  simp only[p0',bU,bS,aP p0];by_cases p1:s.Pc=1
  ·have p1':(s.Pc == 1)=true:=ak
   simp only[p1',bQ,aO p1];cases h:(NT b.aC w s.E).2<;>rfl
  ·have p1':(s.Pc == 1)=false:=ak
   simp only[p1',bU,bS,aP p1];by_cases p2:s.Pc=2
   ·have p2':(s.Pc == 2)=true:=ak
    simp only[p2',bQ,aO p2];by_cases q:b.aC.aK=s.E
    ·have q':(b.aC.aK == s.E)=true:=ak
     simp only[q',bQ,aO q];rfl
    grind
   ·have p2':(s.Pc == 2)=false:=ak
    simp only[p2',bU,bS,aP p2];rfl
def dF(l:List bW)(w:Int):List fB:=(l.getD w.toNat ⟨[]⟩).Rows
theorem NU{l:List bW}(hl:z6 l)(hw:0<=w/\w<=2):idx l w=some ⟨dF l w⟩:=by have:=hl.1;rw[gP hw.1 aa];simp[dF,I4,iT (show w.toNat<l.length by omega)]
theorem aPA{l:List bW}(hl:z6 l)(hw:0<=w/\w<=2):(dF l w).length<=24:=by
 have h:=NU hl hw;have h3:=hl.1;rw[gP hw.1 aa] at h;injection h with h
 have:=hl.small.2.2.2 _ (cY (show w.toNat<l.length by omega));grind
def uF(b:aA)(w:Int)(s:Sub):aA×Sub:=
 if s.Pc=0 then(b,{s with Pc:=1,E:=b.aC.aK})
 else if s.Pc=1 then
  if 0<=s.E/\s.E<=b.aC.aK then
   if mO b.Mem s.A/\¬bD b.aQ (s.A % 32) then({b with aQ:=b.aQ.set w.toNat ⟨dF b.aQ w++[⟨s.A,s.E⟩]⟩},vI s 0) else(b,vI s 4)
  else(b,vI s 1)
 else(b,vI s 1)
theorem aXX{b:aA}(hb:mP b)(hw:0<=w/\w<=2)(s:Sub):xZ b w s=some (uF b w s):=by
 have hL:=hb.1.2.2.1;have hm:=hb.1.1;obtain⟨h1,h2,h3,_⟩:=lW.facts hm;have hx:=NU hL hw;have hrow:=aPA hL hw;unfold xZ uF;rw[fH,VL hm.1.1.1 aa (by grind[maxLen]) (by grind[maxLen]),jR];simp only[bP,aM,wK,GB];by_cases p0:s.Pc=0
 ·grind
 ·have p0':(s.Pc == 0)=false:=ak
  simp only[p0',bU,bS,aP p0];by_cases p1:s.Pc=1
  ·have p1':(s.Pc == 1)=true:=ak
   simp only[p1',bQ,aO p1];by_cases q1:0<=s.E/\s.E<=b.aC.aK
   ·simp only[cV q1,kW,bU,bS,aO q1];by_cases q2:mO b.Mem s.A
    ·have hh:=q2.1;simp only[cV q2,kW,bU,bS,aO hh,VM hL,aM];by_cases q3:bD b.aQ (s.A % 32)
     ·simp only[cV q3,bQ,aP (show ¬(mO b.Mem s.A/\¬bD b.aQ (s.A % 32)) from λh=>h.2 q3)];rfl
     ·simp only[iC q3,bU,bS,hx,aM,aO (show mO b.Mem s.A/\¬bD b.aQ (s.A % 32) from⟨q2,q3⟩)];rw[MA];rfl
    ·simp only[iC q2,SQ,bQ,aP (show ¬(mO b.Mem s.A/\¬bD b.aQ (s.A % 32)) from λh=>q2 h.1)];rfl
   ·simp only[iC q1,SQ,bQ,aP q1];rfl
  ·have p1':(s.Pc == 1)=false:=ak
   simp only[p1',bU,bS,aP p1];rfl
def J2(r:fB)(e:Int):Prop:=2<=e/\r.aK<=bB (e-2)
instance (r:fB) (e:Int):Decidable (J2 r e):=by unfold J2;infer_instance
theorem aLQ(r:fB)(e:Int):MI r e=some (decide (J2 r e)):=by unfold MI L6 J2;grind
def sJ(l:List fB)(e:Int)(k:Nat):Nat:=k+(l.drop k).findIdx (λr=>decide (J2 r e))
theorem a8N{l:List fB}(hl:l.length<=1000){from_ e:Int}:zL l from_ e=some (if sJ l e from_.toNat<l.length then(sJ l e from_.toNat:Int) else -1):=by
 have hst:(if 0<from_ then from_ else 0)=(from_.toNat:Int):=aa
 unfold zL;rw[hst];have key:∀d k:Nat,l.length<=k+d->loop (fM l e) (k:Int)=some (if sJ l e k<l.length then Out.ret (sJ l e k:Int) else Out.brk ()):=by
  intro d;induction d with
  |zero=>
   intro k hk;rw[bA (r:=Out.brk ()) (by simp_all[fM,aP]),aP (by grind[sJ])]
  |succ d ih=>
   intro k hk;by_cases hkl:k<l.length
   ·have hd:l.drop k=l[k]::l.drop (k+1):=vY hkl;by_cases hr:J2 l[k] e
    ·have hs:sJ l e k=k:=by grind[sJ]
     simp_all[bA,fM,aW,aLQ]
    ·have hs:sJ l e k=sJ l e (k+1):=by unfold sJ;grind
     rw[bM (s':=((k+1:Nat):Int)) (by simp only[fM];rw[eK,aW hkl,aM,aLQ _ e,aM,iC hr,gJ,eG];rfl),ih (k+1) aa,hs]
   grind
 rw[key l.length from_.toNat aa];split<;>rfl
theorem aXY{l:List fB}{e:Int}(h:sJ l e k<l.length):k<=sJ l e k/\J2 l[sJ l e k] e:=by
 refine⟨by grind[sJ],?_⟩;have h1:(l.drop k).findIdx (λr=>decide (J2 r e))<(l.drop k).length:=by grind[sJ]
 have:=a4W (xs:=l.drop k) (p:=λr=>decide (J2 r e)) (w:=h1);rw[List.getElem_drop] at this;exact of_decide_eq_true this
def qA(m:Mem)(w h:Int):Mem:=
 if h/32+1<=6 then
  if(fQ m.aE.Own (w*3+bL m.Heap (h % 32)).toNat).length<2 then⟨⟨st4 m.Heap.Bytes (i4 (h % 32) (bL m.Heap (h % 32))).toNat (h/32+1),m.Heap.Class⟩,⟨m.aE.Global,m.aE.Own.set (w*3+bL m.Heap (h % 32)).toNat ⟨fQ m.aE.Own (w*3+bL m.Heap (h % 32)).toNat++[h % 32]⟩⟩⟩
  else⟨⟨st4 m.Heap.Bytes (i4 (h % 32) (bL m.Heap (h % 32))).toNat (h/32+1),m.Heap.Class⟩,⟨m.aE.Global.set (bL m.Heap (h % 32)).toNat ⟨fQ m.aE.Global (bL m.Heap (h % 32)).toNat++[h % 32]⟩,m.aE.Own⟩⟩
 else⟨⟨st4 m.Heap.Bytes (i4 (h % 32) (bL m.Heap (h % 32))).toNat (h/32+1),m.Heap.Class⟩,m.aE⟩
theorem aDI(hm:lW m){h:Int}(hw:0<=w/\w<=2)(hv:mO m h):JT m w (h % 32)=some (qA m w h):=by
 obtain⟨hcnt,h3,h9,h1,h2,hsm,hcp,hlo,hsG,hsO⟩:=lW.facts hm;have hs:=hm.1.1.1;have hh:=hv.1;have hcl:=dO hv.2.1;have hgo:=YX hcl;have hc2:0<=bL m.Heap (h % 32)/\bL m.Heap (h % 32)<=2:=by obtain⟨_,q,e⟩:=rB hcl;rw[e];exact jZ.1 aa
 have hg6:1<=h/32/\h/32<=6:=by grind[lK]
 have eo:i4 (h % 32) (bL m.Heap (h % 32))=(((i4 (h % 32) (bL m.Heap (h % 32))).toNat:Nat):Int):=aa
 have ew:bB (h/32+1)=h/32+1:=eG;unfold JT qA;rw[CU hs,aM,vV hs hcl,hv.2.2,aM,BK,aM,ew];generalize hgn:(i4 (h % 32) (bL m.Heap (h % 32))).toNat=a at eo;rw[eo,KQ aa aa aa];simp only[aM,ND,NC,ew];generalize bL m.Heap (h % 32)=c at *;by_cases q:h/32+1<=6
 ·have hk:(w*3+c).toNat<m.aE.Own.length:=aa
  have hx:idx m.aE.Own (w*3+c)=some m.aE.Own[(w*3+c).toNat]:=gP aa aa;have hk2:c.toNat<m.aE.Global.length:=aa
  have hx2:idx m.aE.Global c=some m.aE.Global[c.toNat]:=gP aa aa;have b1:=hsO _ (cY hk);have b2:=hsG _ (cY hk2);rw[cV q,aO rfl,aO q];unfold XC;rw[(SD hw hc2).1];simp only[aM,hx,hx2,NB,XA,XB,<-dY hk,<-dY hk2];by_cases q2:m.aE.Own[(w*3+c).toNat].aV.length<2
  ·have y1:(m.aE.Own[(w*3+c).toNat].aV.length:Int)<2:=aa
   simp only[cV y1,bQ,aO q2];grind[bZ]
  ·have y1:¬(m.aE.Own[(w*3+c).toNat].aV.length:Int)<2:=aa
   simp only[iC y1,bU,bS,aP q2];grind[bZ]
 simp_all[aP]
def a0U(z:List Int)(w:Int):Int:=z.getD w.toNat 0
theorem a3H(hz:aHU z)(hw:0<=w/\w<=2):idx z w=some (a0U z w):=by have:=hz.1;grind[gP,a0U]
def MB(l:List fB)(k:Int):fB:=l.getD k.toNat ⟨0,0⟩
theorem YC{l:List fB}{k:Int}(h:0<=k/\k<l.length):idx l k=some (MB l k):=by grind[gP,MB]
def NV(l:List fB)(s:Sub):Prop:=0<=s.Row/\s.Row<l.length/\(MB l s.Row).Handle=s.H
instance (l:List fB) (s:Sub):Decidable (NV l s):=by unfold NV;infer_instance
def cQ(b:aA)(w:Int)(s:Sub):aA×Sub:=
 if s.Pc=0 then(b,{s with Pc:=1,E:=b.aC.aK,Row:=0})
 else if s.Pc=1 then
  if sJ (dF b.aQ w) s.E s.Row.toNat<(dF b.aQ w).length then(b,{s with Pc:=2,Row:=(sJ (dF b.aQ w) s.E s.Row.toNat:Int),B:=0,H:=(MB (dF b.aQ w) (sJ (dF b.aQ w) s.E s.Row.toNat:Int)).Handle})
  else(b,vI s 0)
 else if s.Pc=2 then
  if(0<=s.B/\s.B<=2)/\NV (dF b.aQ w) s then
   if a0U b.qU s.B=s.H then(b,{s with Pc:=1,Row:=s.Row+1}) else(b,{s with Pc:=if s.B=2 then 3 else 2,B:=s.B+1})
  else(b,vI s 1)
 else if s.Pc=3 then
  if NV (dF b.aQ w) s/\J2 (MB (dF b.aQ w) s.Row) s.E then({b with Mem:=qA b.Mem w s.H,aQ:=b.aQ.set w.toNat ⟨(dF b.aQ w).eraseIdx s.Row.toNat⟩},{s with Pc:=1,Out:=bB (s.Out+1)})
  else(b,vI s 1)
 else(b,vI s 1)
theorem PE{l:List bW}(hl:z6 l)(hw:0<=w/\w<=2){r:fB}(hr:r∈dF l w):r∈dV l:=by
 have h:=NU hl hw;have h3:=hl.1;rw[gP hw.1 aa] at h;injection h with h
 exact aFM.2 ⟨l[w.toNat],cY _,ak⟩
theorem aDJ{l:List fB}{k:Int}(h:0<=k/\k<l.length):MB l k∈l:=by have:=YC h;grind[gP]
theorem aUQ{b:aA}(hb:mP b)(hw:0<=w/\w<=2)(s:Sub):vA b w s=some (cQ b w s):=by
 have hL:=hb.1.2.2.1;have hm:=hb.1.1;have hx:=NU hL hw;have hrow:=aPA hL hw;have hfl:=λr hr=>PE hL hw (r:=r) hr;unfold vA cQ;rw[hx];simp only[aM,bP];generalize dF b.aQ w=l at *;by_cases p0:s.Pc=0
 ·grind
 have p0':(s.Pc == 0)=false:=ak
 simp only[p0',bU,bS,aP p0];by_cases p1:s.Pc=1
 ·have p1':(s.Pc == 1)=true:=ak
  simp only[p1',bQ,aO p1,a8N (show l.length<=1000 by omega),aM];by_cases q:sJ l s.E s.Row.toNat<l.length
  ·have n:¬(sJ l s.E s.Row.toNat:Int)<0:=aa
   simp only[aO q,iC n,bU,bS,YC (l:=l) (k:=(sJ l s.E s.Row.toNat:Int)) aa,aM]
  ·simp only[aP q,cV (show(-1:Int)<0 by omega),bQ];rfl
 have p1':(s.Pc == 1)=false:=ak
 simp only[p1',bU,bS,aP p1];have el:bB ((l.length:Int)-1)=(l.length:Int)-1:=eG;by_cases p2:s.Pc=2
 ·have p2':(s.Pc == 2)=true:=ak
  simp only[p2',bQ,aO p2,fH,el,aM,fW,uB,bP];by_cases hB:0<=s.B/\s.B<=2
  ·simp only[cV hB,kW,bU,bS];by_cases hR:0<=s.Row/\s.Row<=(l.length:Int)-1
   ·simp only[cV hR,kW,bU,bS,YC (l:=l) (k:=s.Row) aa,aM];by_cases hH:(MB l s.Row).Handle=s.H
    ·have hH':((MB l s.Row).Handle != s.H)=false:=ak
     have ha:(0<=s.B/\s.B<=2)/\NV l s:=⟨hB,hR.1,aa,hH⟩;have e1:bB (s.B+1)=s.B+1:=eG;have e2:bB (s.Row+1)=s.Row+1:=eG;simp only[hH',bU,bS,aO ha,a3H hb.1.2.2.2 hB,aM,e1,e2];grind
    ·have hH':((MB l s.Row).Handle != s.H)=true:=ak
     have ha:¬((0<=s.B/\s.B<=2)/\NV l s):=λh=>hH h.2.2.2;simp only[hH',bQ,aP ha,aM];rfl
   ·have ha:¬((0<=s.B/\s.B<=2)/\NV l s):=λh=>hR ⟨h.2.1,by have:=h.2.2.1;omega⟩;simp only[iC hR,SQ,bQ,aP ha,aM];rfl
  ·have ha:¬((0<=s.B/\s.B<=2)/\NV l s):=λh=>hB h.1;simp only[iC hB,SQ,bQ,aP ha,aM];rfl
 have p2':(s.Pc == 2)=false:=ak
 simp only[p2',bU,bS,aP p2];by_cases p3:s.Pc=3
 ·have p3':(s.Pc == 3)=true:=ak
  simp only[p3',bQ,aO p3,fH,el,aM,fX,DD,bP];by_cases hR:0<=s.Row/\s.Row<=(l.length:Int)-1
  ·simp only[cV hR,kW,bU,bS,YC (l:=l) (k:=s.Row) aa,aM];by_cases hH:(MB l s.Row).Handle=s.H
   ·have hH':((MB l s.Row).Handle != s.H)=false:=ak
    simp only[hH',bU,bS,aLQ,aM];by_cases hr:J2 (MB l s.Row) s.E
    ·have ha:NV l s/\J2 (MB l s.Row) s.E:=⟨⟨hR.1,aa,hH⟩,hr⟩;have e2:bB (s.Row+1)=s.Row+1:=eG;have hlive:=(hb.2 _ (hfl _ (aDJ (l:=l) (k:=s.Row) aa))).1;rw[hH] at hlive;have et:(s.Row+1).toNat=s.Row.toNat+1:=aa
     simp only[cV hr,kW,bU,bS,aO ha,e2,jR,aO hlive.1,aM,aDI hm hw hlive,et];grind[bZ,del_eq]
    ·have ha:¬(NV l s/\J2 (MB l s.Row) s.E):=λh=>hr h.2;simp only[iC hr,SQ,bQ,aP ha,aM];rfl
   ·have hH':((MB l s.Row).Handle != s.H)=true:=ak
    have ha:¬(NV l s/\J2 (MB l s.Row) s.E):=λh=>hH h.1.2.2;simp only[hH',bQ,aP ha,aM];rfl
  ·have ha:¬(NV l s/\J2 (MB l s.Row) s.E):=λh=>hR ⟨h.1.1,by have:=h.1.2.1;omega⟩;simp only[iC hR,SQ,bQ,aP ha,aM];rfl
 ·have p3':(s.Pc == 3)=false:=ak
  simp only[p3',bU,bS,aP p3];rfl
def gQ(b:aA)(w:Int)(s:Sub):aA×Sub:=
 if s.gK then(b,s) else if s.Kind=1 then QJ b w s else if s.Kind=2 then uF b w s else if s.Kind=3 then fF b s else if s.Kind=4 then cQ b w s else if s.Kind=5 then qO b w s else(b,vI s 1)
theorem a0V{b:aA}(hb:mP b)(hw:0<=w/\w<=2)(s:Sub):TU b w s=some (gQ b w s):=by
 unfold TU gQ;rw[a3F hb.1.1 hw,aXX hb hw,aUP hb.1.2.1,aUQ hb hw,bDN hb.1.2.1 hw];simp only[aM,bP];cases s.gK
 ·simp only[bU,bS,beq_iff_eq];split<;>(try rfl);split<;>(try rfl);split<;>(try rfl);split<;>(try rfl);split<;>rfl
 ·rfl
theorem bDO{b:aA}(hb:mP b)(hw:0<=w/\w<=2)(s:Sub):mP (gQ b w s).1:=by obtain⟨x,y,e1,_,h⟩:=step_eq hb hb.small hw s;grind[a0V]
theorem aIR{b:List Int}{a:Nat}(h:a+4<=b.length){j:Nat}(hj:j<a\/a+4<=j):bt (QI b a n) j=bt b j:=by unfold QI;rw[NR ah,NR ah,NR ah,NR aa,gT,gT,gT,gT]
theorem HOk.put{h:Heap}(hh:HOk h)(hc:0<=bL h s)(hn:0<=n/\n<=4294967295) :
  HOk ⟨QI h.Bytes ((i4 s (bL h s)).toNat+4) n,h.Class⟩/\∀t,0<=bL h t->kQ ⟨QI h.Bytes ((i4 s (bL h s)).toNat+4) n,h.Class⟩ t=kQ h t:=by
 obtain⟨hs,hp⟩:=hh;have h384:=hs.1;have hs':iD ⟨QI h.Bytes ((i4 s (bL h s)).toNat+4) n,h.Class⟩:=⟨by grind[aDF],hs.2.1,a28 hs.2.2.1 _ hn,hs.2.2.2⟩;obtain⟨p,i,p6,hi,es,ec,eo,ep⟩:=pZ hc;have hcl:0<=dA h p/\dA h p<=2:=jZ.1 aa;have hroom:8+i*(bE (dA h p)).toNat+8<=64/\∀j,j<(cK (dA h p)).toNat->j*(bE (dA h p)).toNat+4<=i*(bE (dA h p)).toNat+4\/i*(bE (dA h p)).toNat+12<=j*(bE (dA h p)).toNat:=by grind[cK,bE]
 have hgen:∀q j,q<6->j<(cK (dA h q)).toNat->ld (QI h.Bytes ((i4 s (bL h s)).toNat+4) n) (q*64+8+j*(bE (dA h q)).toNat) 4=ld h.Bytes (q*64+8+j*(bE (dA h q)).toNat) 4:=λq j hq hj=>by
  have hz:=zO hs hq rfl hj;refine I0 aa (by grind[aDF]) λk k1 k2=>?_;by_cases e:q=p
  ·grind[aIR]
  grind[aIR]
 refine⟨⟨hs',λq hq=>?_⟩,λt ht=>?_⟩
 ·rw[GO hs' hq];have hold:=(GO hs hq).1 (hp q hq);by_cases e:q=p
  ·subst e;have hcl':¬dA h q<0:=aa
   unfold aBF at hold ⊢;have hcc:dA ⟨QI h.Bytes ((i4 s (bL h s)).toNat+4) n,h.Class⟩ q=dA h q:=rfl;rw[hcc];rw[aP hcl'] at hold ⊢;obtain⟨⟨a1,a2,a3⟩,a4,a5⟩:=hold;have bs:∀k,k<8->bt (QI h.Bytes ((i4 s (bL h s)).toNat+4) n) (q*64+k)=bt h.Bytes (q*64+k):=λk hk=>aIR aa aa;have b0:=bs 0 aa;grind
  ·refine aBF.same hq hs (by grind[aDF]) rfl (λk hk=>aIR aa aa) hold
 ·obtain⟨p',i',p6',hi',es',ec',eo',ep'⟩:=pZ ht;have e2:bL ⟨QI h.Bytes ((i4 s (bL h s)).toNat+4) n,h.Class⟩ t=bL h t:=rfl;grind[kQ]
theorem lW.put(hm:lW m)(hc:0<=bL m.Heap s)(hn:0<=n/\n<=4294967295):vH m ⟨⟨QI m.Heap.Bytes ((i4 s (bL m.Heap s)).toNat+4) n,m.Heap.Class⟩,m.aE⟩ (-1):=by obtain⟨a,b⟩:=HOk.put hm.1.1 hc hn;refine⟨lW.heap hm a λx hx=>⟨rfl,b x (lW.oN hm hx).1⟩,λt ht _=>?_⟩;have ht':=iL.1 ht;have e:=b t ht'.1;exact⟨iL.2 ⟨ht'.1,ht'.2.1,ak⟩,e,rfl⟩
theorem start_eq{h:Heap}(hs:iD h)(hc:0<=bL h s):aCP s (bL h s)=some (i4 s (bL h s)+4)/\LU s (bL h s)=some (i4 s (bL h s)+4):=by have hg:=YX hc;unfold aCP LU;rw[BK,BL,aM,aHS,eG];simp
theorem hb0(x:Int):(x == 0)=decide (x=0):=ak
theorem GR(h:Int):m5 h=some (decide (oK h)):=by grind[m5,xJ,oK,g8]
theorem aUR{c:aC}(hc:KP c)(hw:0<=w/\w<=2):∃r,TX c w=some r/\TG c w=some r/\KP r.1/\r.1.aK=c.aK:=by
 obtain⟨p,hp,hpk⟩:=aXM hc hw;unfold TX TG;rw[m7 hc.small.1,BO hc.small.1,kP,vF hc.small.2,pY,fH,cV hc,cV hw];simp only[aM,kW,bU,bS,hp,BG,A7];cases p.On with
 |true=>
  simp only[kW,bU,bS];have h0:=hc.1;exact⟨_,rfl,rfl,hc.aRP ⟨ak,ae,λ_=>rfl⟩,rfl⟩
 |false=>simp_all
theorem aHU.set(hz:aHU z)(k:Nat){h:Int}(hh:oK h):aHU (z.set k h):=⟨by simpa using hz.1,λq hq=>(o8 hq).elim (hz.2 q) (λe=>e ▸ hh)⟩
theorem mP.clock{b:aA}(hb:mP b){cl:aC}(h:KP cl)(e:b.aC.aK<=cl.aK):mP ⟨b.Mem,cl,b.aQ,b.qU⟩:=⟨⟨hb.1.1,h,hb.1.2.2⟩,λr hr=>⟨(hb.2 r hr).1,aI8 (hb.2 r hr).2 e⟩⟩
theorem mP.haz{b:aA}(hb:mP b)(h:aHU z):mP ⟨b.Mem,b.aC,b.aQ,z⟩:=⟨⟨hb.1.1,hb.1.2.1,hb.1.2.2.1,h⟩,hb.2⟩
theorem mP.mem{b:aA}(hb:mP b)(h:vH b.Mem m (-1)):mP ⟨m,b.aC,b.aQ,b.qU⟩:=⟨⟨h.1,hb.1.2⟩,λr hr=>⟨h.live (hb.2 r hr).1 aa,(hb.2 r hr).2⟩⟩
theorem bLM{h:Heap}(hcl:0<=bL h s):(i4 s (bL h s)).toNat+8<=384/\8<=jC (bL h s)/\jC (bL h s)<=40:=by
 have hc2:0<=bL h s/\bL h s<=2:=by obtain⟨_,q,e⟩:=rB hcl;rw[e];exact jZ.1 aa
 grind[jC,bL,pZ,cK,bE]
def yK(kind a:Int):Sub:=⟨kind,a,0,0,0,0,0,0,0,false⟩
def j3:List Int->Nat->List UInt8->List Int
 |b,_,[]=>b
 |b,a,c::t=>j3 (b.set a (c.toNat:Int)) (a+1) t
theorem BP:∀(t:List UInt8) (b:List Int) (a:Nat),(j3 b a t).length=b.length
 |[],b,a=>rfl
 |c::t,b,a=>by rw[j3,BP];simp
theorem aPB:∀(t:List UInt8) {b:List Int} (a:Nat),sU b->sU (j3 b a t)
 |[],b,a,h=>h
 |c::t,b,a,h=>aPB t (a+1) (aUM a h ⟨aa,by have:=c.toNat_lt;omega⟩)
theorem MC:∀(t:List UInt8) {b:List Int} {a:Nat},a+t.length<=b.length->∀{j:Nat},(j<a\/a+t.length<=j)->bt (j3 b a t) j=bt b j
 |[],b,a,h,j,hj=>rfl
 |c::t,b,a,h,j,hj=>by simp only[G5] at h hj;rw[j3,MC t ah aa,NR aa,gT]
theorem aLR:∀(t:List UInt8) {b:List Int} {a:Nat},a+t.length<=b.length->∀{j:Nat} (hj:j<t.length),bt (j3 b a t) (a+j)=(t[j].toNat:Int)
 |c::t,b,a,h,j,hj=>by
  simp only[G5] at h hj;rw[j3];cases j with
  |zero=>rw[MC t ah aa,NR aa,aO aa];rfl
  |succ j=>
   have:=aLR t (b:=b.set a (c.toNat:Int)) (a:=a+1) ah (j:=j) aa;grind
theorem aF0(b:List Int)(a:Nat)(t:List UInt8)(hl:b.length<=100000)(h:a+t.length<=b.length):∀(r:List UInt8) (k:Nat) (c:List Int),c.length=b.length->t.drop k=r->k+r.length=t.length->loop (lS b (a:Int) t) (c,(k:Int))=some (j3 c (a+k) r)
 |[],k,c,hc,hr,hk=>by refine bA ?_;simp only[lS];rw[bZ hc,aP ak];rfl
 |x::r,k,c,hc,hr,hk=>by
  simp only[G5] at hk;have hkt:k<t.length:=aa
  have e:=vY hkt;rw[hr] at e;injection e with e1 e2
  have st:lS b (a:Int) t (c,(k:Int))=some (.next (c.set (a+k) (x.toNat:Int),((k+1:Nat):Int))):=by simp only[lS];rw[bZ hc,eK,aW hkt,aM,eG (x:=(a:Int)+k),show(a:Int)+k=((a+k:Nat):Int) by omega,V2,aM,eG,<-e1];rfl
  rw[bM st,aF0 b a t hl h r (k+1) _ ak e2.symm aa,j3];rfl
theorem aPC{b:List Int}{a:Nat}{t:List UInt8}(hl:b.length<=100000)(h:a+t.length<=b.length):m6 b (a:Int) t=some (j3 b a t):=by unfold m6;rw[show(0:Int)=((0:Nat):Int) from rfl,aF0 b a t hl h t 0 b rfl rfl aa,aM];grind[M3,M1,bZ,BP]
theorem HOk.j3{h:Heap}(hh:HOk h)(hc:0<=bL h s){o:Nat}{t:List UInt8}(ht:((o+t.length:Nat):Int)<=jC (bL h s)) :
  HOk ⟨Gv.j3 h.Bytes ((i4 s (bL h s)).toNat+4+o) t,h.Class⟩/\∀u,0<=bL h u->kQ ⟨Gv.j3 h.Bytes ((i4 s (bL h s)).toNat+4+o) t,h.Class⟩ u=kQ h u:=by
 obtain⟨hs,hp⟩:=hh;have h384:=hs.1;have hs':iD ⟨Gv.j3 h.Bytes ((i4 s (bL h s)).toNat+4+o) t,h.Class⟩:=⟨by grind[BP],hs.2.1,aPB _ _ hs.2.2.1,hs.2.2.2⟩;obtain⟨p,i,p6,hi,es,ec,eo,ep⟩:=pZ hc;have hcl:0<=dA h p/\dA h p<=2:=jZ.1 aa;rw[ec] at ht;have hroom:8+i*(bE (dA h p)).toNat+4+(jC (dA h p)).toNat<=64/\∀j,j<(cK (dA h p)).toNat->j*(bE (dA h p)).toNat+4<=i*(bE (dA h p)).toNat+4\/i*(bE (dA h p)).toNat+4+(jC (dA h p)).toNat<=j*(bE (dA h p)).toNat:=by grind[cK,bE,jC]
 have hot:o+t.length<=(jC (dA h p)).toNat:=aa
 have hgen:∀q j,q<6->j<(cK (dA h q)).toNat->ld (Gv.j3 h.Bytes ((i4 s (bL h s)).toNat+4+o) t) (q*64+8+j*(bE (dA h q)).toNat) 4=ld h.Bytes (q*64+8+j*(bE (dA h q)).toNat) 4:=λq j hq hj=>by
  have hz:=zO hs hq rfl hj;refine I0 aa (by grind[BP]) λk k1 k2=>?_;by_cases e:q=p
  ·subst e;have:=hroom.2 j hj;exact MC _ aa aa
  ·exact MC _ aa aa
 refine⟨⟨hs',λq hq=>?_⟩,λu hu=>?_⟩
 ·rw[GO hs' hq];have hold:=(GO hs hq).1 (hp q hq);by_cases e:q=p
  ·subst e;have hcl':¬dA h q<0:=aa
   unfold aBF at hold ⊢;have hcc:dA ⟨Gv.j3 h.Bytes ((i4 s (bL h s)).toNat+4+o) t,h.Class⟩ q=dA h q:=rfl;rw[hcc];rw[aP hcl'] at hold ⊢;obtain⟨⟨a1,a2,a3⟩,a4,a5⟩:=hold;have bs:∀k,k<8->bt (Gv.j3 h.Bytes ((i4 s (bL h s)).toNat+4+o) t) (q*64+k)=bt h.Bytes (q*64+k):=λk hk=>MC _ aa aa;have b0:=bs 0 aa;grind
  ·refine aBF.same hq hs (by grind[BP]) rfl (λk hk=>MC _ aa aa) hold
 ·obtain⟨p',i',p6',hi',es',ec',eo',ep'⟩:=pZ hu;have e2:bL ⟨Gv.j3 h.Bytes ((i4 s (bL h s)).toNat+4+o) t,h.Class⟩ u=bL h u:=rfl;grind[kQ]
theorem lW.j3(hm:lW m)(hc:0<=bL m.Heap s){o:Nat}{t:List UInt8}(ht:((o+t.length:Nat):Int)<=jC (bL m.Heap s)):vH m ⟨⟨Gv.j3 m.Heap.Bytes ((i4 s (bL m.Heap s)).toNat+4+o) t,m.Heap.Class⟩,m.aE⟩ (-1):=by obtain⟨a,b⟩:=HOk.j3 hm.1.1 hc ht;refine⟨lW.heap hm a λx hx=>⟨rfl,b x (lW.oN hm hx).1⟩,λt ht _=>?_⟩;have ht':=iL.1 ht;have e:=b t ht'.1;exact⟨iL.2 ⟨ht'.1,ht'.2.1,ak⟩,e,rfl⟩
def aPD:gX:=⟨0,0,0⟩
def AS(h:Heap)(s:Int):Nat:=(i4 s (bL h s)).toNat+4
def ZJ(h:Heap)(s:Int):gX:=⟨ld h.Bytes (AS h s) 2,ld h.Bytes (AS h s+2) 4,ld h.Bytes (AS h s+6) 4⟩
def V3(h:Heap)(x:Int):gX:=if lK x/\0<=bL h (x % 32)/\10<=jC (bL h (x % 32)) then ZJ h (x % 32) else aPD
theorem DH{h:Heap}(hcl:0<=bL h s)(h10:10<=jC (bL h s)):AS h s+10<=384/\16<=jC (bL h s):=by grind[bL,AS,pZ,jC,cK,bE]
theorem aLS{h:Heap}(hs:iD h)(s:Int):FP h s=some (decide (10<=jC (bL h s))):=by grind[FP,kO,X0]
theorem aBG{h:Heap}(hs:iD h)(hc:0<=bL h s):y9 h s=some (AS h s:Int):=by have:=YX hc;grind[y9,AS,kO,start_eq]
theorem aE5{h:Heap}(hs:iD h)(hc:0<=bL h s)(h10:10<=jC (bL h s)):pQ h s=some (ZJ h s):=by
 have hr:=(DH hc h10).1;have h1:=hs.1;unfold pQ ZJ;rw[aBG hs hc,aM,show(2:Int)=((2:Nat):Int) from rfl,show(4:Int)=((4:Nat):Int) from rfl,vC hs.2.2.1 aa aa aa,aM,
  eG,show(AS h s:Int)+((2:Nat):Int)=((AS h s+2:Nat):Int) by omega,vC hs.2.2.1 aa aa aa,aM,
  eG,show(AS h s:Int)+6=((AS h s+6:Nat):Int) by omega,vC hs.2.2.1 aa aa aa];rfl
theorem aPE(hm:lW m)(x:Int):∃c,JM m x=some (V3 m.Heap x,c):=by
 have hs:=hm.1.1.1;unfold JM V3;rw[g8,aM];by_cases hh:lK x
 ·rw[cV hh,gJ,(lK.mod hh).1,kO hs,aM];unfold FQ;by_cases hc:bL m.Heap (x % 32)<0
  ·rw[cV hc,aO rfl,gT];exact⟨_,rfl⟩
  ·rw[iC hc,gJ,(lK.mod hh).1,aLS hs,aM];by_cases h10:10<=jC (bL m.Heap (x % 32))
   ·simp_all[aE5]
   ·rw[iC h10,aO an,gT];exact⟨_,rfl⟩
 ·rw[iC hh,aO an,aP (λq=>hh q.1)];exact⟨_,rfl⟩
def MD(n:gX):Int:=if lK n.Next then n.Next else 0
theorem aRT(n:gX):hU n=some (MD n):=by unfold hU MD;rw[g8,aM];grind
theorem aE6(n:gX):oK (MD n):=by
 unfold MD;split
 ·exact .inr (by assumption)
 ·exact .inl rfl
def kJ(m:Mem)(x:Int):Prop:=mO m x/\10<=jC (bL m.Heap (x % 32))
instance (m:Mem) (x:Int):Decidable (kJ m x):=by unfold kJ;infer_instance
theorem YD(hm:lW m)(x:Int):∃c,vQ m x=some c/\(c=0↔kJ m x):=by
 obtain⟨hcnt,h3,h9,h1,h2,hsm,hcp,hlo,hsG,hsO⟩:=lW.facts hm;have hs:=hm.1.1.1;unfold vQ kJ;rw[GM hs aa (by rw[h3];simp[maxLen]) (by rw[h9];simp[maxLen]),aM];by_cases hl:mO m x
 ·rw[cV hl,gJ,(lK.mod hl.1).1,aLS hs,aM];by_cases h10:10<=jC (bL m.Heap (x % 32))
  ·rw[cV h10,gJ];exact⟨_,rfl,by simp[hl,h10]⟩
  ·rw[iC h10,aO an];exact⟨_,rfl,by simp[hl,h10]⟩
 simp_all
def SG(n:Int):List UInt8:=[u8 (n/256),u8 n]
theorem aXZ(hn:0<=n/\n<=65535):mD n 2=some (SG n):=by
 have hw:yZ 2=some true:=by grind[yZ,dN]
 unfold mD;rw[hw];have e1:IntKind.u64.wrap (bB (8*2))=16:=ai
 have e2:aJB .i64 1 16=65536:=ai
 simp only[aM,kW,bU,bS,e1,e2];rw[aHS,VH,iC aa];simp only[vP,bU,bS];rw[VH,show bB (2-1)=((1:Nat):Int) from by grind[cO]];have st:∀(m:Int) (c:List UInt8) (i:Nat),i<c.length->i<4->0<=m->qI (m,c,(i:Int))=some (.next (m/256,c.set i (u8 m),(i:Int)-1)):=λm c i hc hi h0=>by simp only[qI];rw[aO ae,aW hc,aM,show(8:Int)=((8:Nat):Int) from rfl,a0M h0 aa,eG,MM];rfl
 rw[bM (st n _ 1 ae aa hn.1),show((1:Nat):Int)-1=((0:Nat):Int) by rfl,
  bM (st _ _ 0 ae aa aa),bA (r:=SG n)]
 ·rfl
 ·simp only[qI];rw[gJ];rfl
def aOC(n:gX):List UInt8:=SG n.Key++oD n.dI++oD n.Next
def aBH(n:gX):Prop:=(0<=n.Key/\n.Key<=99)/\(0<=n.dI/\n.dI<=65535)/\oK n.Next
instance (n:gX):Decidable (aBH n):=by unfold aBH;infer_instance
theorem aPF(n:gX):JN n=some (decide (aBH n)):=by grind[JN,aBH,dN,GR,xQ]
theorem aDK(h:oK x):0<=x/\x<=223:=by
 rcases h with h|h
 ·omega
 ·have:=h.1;omega
def aAG(m:Mem)(x:Int)(n:gX):Mem:=if aBH n/\kJ m x then⟨⟨j3 m.Heap.Bytes (AS m.Heap (x % 32)) (aOC n),m.Heap.Class⟩,m.aE⟩ else m
theorem aX0(hm:lW m)(x:Int)(n:gX):∃c,LX m x n=some (aAG m x n,c):=by
 obtain⟨hcnt,h3,h9,h1,h2,hsm,hcp,hlo,hsG,hsO⟩:=lW.facts hm;have hs:=hm.1.1.1;have hbl:m.Heap.Bytes.length<=maxLen:=by grind[maxLen]
 unfold LX aAG;rw[PC hsm,aM,BN hbl aa,cV hm,aM,gJ,aPF,aM];unfold CD;by_cases hn:aBH n
 ·rw[cV hn,gJ];obtain⟨c,e,hc⟩:=YD hm x;rw[e,aM];by_cases hw:kJ m x
  ·have hcl:=dO hw.1.2.1;have hr:=(DH hcl hw.2).1;have hnx:=aDK hn.2.2;have hk1:=hn.1.2;have hv1:=hn.2.1.2;obtain rfl:=hc.2 hw;rw[aO an,(lK.mod hw.1.1).1,aBG hs hcl,aM,aXZ ⟨hn.1.1,aa⟩,aM,UD ⟨hn.2.1.1,aa⟩,aM,bZ (by simp[SG,oD]),
    UD ⟨hnx.1,aa⟩,aM,bZ (by simp[SG,oD]),aPC aa (by grind[SG,oD]),aM,aO ⟨hn,hw⟩]
   exact⟨_,rfl⟩
  ·rw[aP ak,aP (λq=>hw q.2)];exact⟨_,rfl⟩
 simp_all
def aF1(m:Mem)(x y:Int):Mem:=if oK y/\kJ m x then⟨⟨j3 m.Heap.Bytes (AS m.Heap (x % 32)+6) (oD y),m.Heap.Class⟩,m.aE⟩ else m
theorem a3I(hm:lW m)(x y:Int):∃c,OZ m x y=some (Gv.aF1 m x y,c):=by
 obtain⟨hcnt,h3,h9,h1,h2,hsm,hcp,hlo,hsG,hsO⟩:=lW.facts hm;have hs:=hm.1.1.1;have hbl:m.Heap.Bytes.length<=maxLen:=by grind[maxLen]
 unfold OZ Gv.aF1;rw[PC hsm,aM,BN hbl aa,cV hm,aM,gJ,GR,aM];unfold FU;by_cases hn:oK y
 ·rw[cV hn,gJ];obtain⟨c,e,hc⟩:=YD hm x;rw[e,aM];by_cases hw:kJ m x
  ·have hcl:=dO hw.1.2.1;have hr:=(DH hcl hw.2).1;have hnx:=aDK hn;obtain rfl:=hc.2 hw;rw[aO an,(lK.mod hw.1.1).1,aBG hs hcl,aM,UD ⟨hnx.1,aa⟩,aM,eG,show(AS m.Heap (x % 32):Int)+6=((AS m.Heap (x % 32)+6:Nat):Int) by omega,
    aPC aa (by grind[oD]),aM,aO ⟨hn,hw⟩]
   exact⟨_,rfl⟩
  ·rw[aP ak,aP (λq=>hw q.2)];exact⟨_,rfl⟩
 simp_all
theorem a8O(hm:lW m)(x:Int)(n:gX):vH m (aAG m x n) (-1):=by
 unfold aAG;split
 ·rename_i h;have:=DH (dO h.2.1.2.1) h.2.2;exact lW.j3 hm (dO h.2.1.2.1) (o:=0) (by grind[aOC,SG,oD])
 ·exact⟨hm,λs h _=>⟨h,rfl,rfl⟩⟩
theorem a8P(hm:lW m)(x y:Int):vH m (Gv.aF1 m x y) (-1):=by
 unfold Gv.aF1;split
 ·rename_i h;have:=DH (dO h.2.1.2.1) h.2.2;exact lW.j3 hm (dO h.2.1.2.1) (o:=6) (by grind[oD])
 ·exact⟨hm,λs h _=>⟨h,rfl,rfl⟩⟩
def a0W:Heap:=⟨List.replicate 384 0,[-1,-1,-1,-1,-1,-1]⟩
def bIR:aE:=⟨List.replicate 3 ⟨[]⟩,List.replicate 9 ⟨[]⟩⟩
def a0X:aA:=⟨⟨a0W,bIR⟩,⟨0,List.replicate 3 ⟨false,0,false,0⟩⟩,List.replicate 3 ⟨[]⟩,List.replicate 3 0⟩
theorem aH1:LI=some a0W:=by
 unfold LI;have key:loop uK (0,[])=some (List.replicate 6 (-1)):=iS (f:=uK) 6 (λk=>((k:Int),List.replicate k (-1))) _ (λk hk=>by
  simp only[uK];rw[eK,MA,eG,List.replicate_succ'];rfl) (by simp[uK])
 rw[VH,key];rfl
theorem bIS:wJ [-1] 6=some [-1,-1,-1,-1,-1,-1]:=by
 unfold wJ;rw[gJ,show P0 (IntKind.u64.wrap (([-1]:List Int).length:Int)) (IntKind.u64.wrap 6)=some (0,6) by kernel_rfl];simp only[aM];rw[gJ,iC aa];simp only[pU,bU,bS];rw[show IntKind.i64.wrap 6=6 from wrap_i64 aa aa,VH,
  show(cT (List.replicate (Int.toNat 6) 0) 0 [-1],((min ([-1]:List Int).length ((List.replicate (Int.toNat 6) (0:Int)).length-0):Nat):Int))=([-1,0,0,0,0,0],1) by kernel_rfl,
  bM (body:=lV) (s':=([-1,-1,0,0,0,0],2)) (by kernel_rfl),bM (body:=lV) (s':=([-1,-1,-1,-1,0,0],4)) (by kernel_rfl),
  bM (body:=lV) (s':=([-1,-1,-1,-1,-1,-1],6)) (by kernel_rfl),bA (body:=lV) (r:=[-1,-1,-1,-1,-1,-1]) (by kernel_rfl)]
 rfl
theorem aH2:L4=some a0W:=by unfold L4;rw[VH,bIS];rfl
theorem aLT:LJ=some a0X/\L5=some a0X:=by unfold LJ L5 WJ WX PK P1 PL P2 PM P3 WK WY;rw[aH1,aH2,VH,VH,VH,VH,VH];exact⟨rfl,rfl⟩
theorem a8Q:mP a0X:=of_decide_eq_true (by kernel_rfl)
def DI{O:Type}(o:Option O)(Q:O->Prop):Prop:=∃x,o=some x/\Q x
abbrev bF9{σ ρ:Type}(I:σ->Prop)(Q:ρ->Prop):Step σ ρ->Prop
 |.next s=>I s
 |.stop r=>Q r
namespace DI
variable {O β σ ρ:Type} {Q:O->Prop}
theorem ret{x:O}(h:Q x):DI (some x) Q:=⟨x,rfl,h⟩
theorem bind{P:β->Prop}{o:Option β}{f:β->Option O}(h:DI o P)(hf:∀x,P x->DI (f x) Q):DI (o.bind f) Q:=by obtain⟨x,e,hx⟩:=h;grind
theorem need{p:Prop}[Decidable p]{k:Option O}(h:p)(hk:DI k Q):DI (Gv.need p k) Q:=by grind[bZ]
theorem ite{c:Prop}[Decidable c]{a b:Option O}(h1:c->DI a Q)(h2:¬c->DI b Q):DI (if c then a else b) Q:=ak
theorem mono{P:O->Prop}{o:Option O}(h:DI o P)(hf:∀x,P x->Q x):DI o Q:=by obtain⟨x,e,hx⟩:=h;exact⟨x,e,hf x hx⟩
theorem idx{l:List β}{i:Int}(h:0<=i/\i<l.length):DI (Gv.idx l i) (λx=>x∈l):=⟨_,gP h.1 h.2,cY _⟩
theorem loop{Q:ρ->Prop}{f:σ->Option (Step σ ρ)}{s:σ}(μ:σ->Nat)(Inv:σ->Prop)(h0:Inv s)(hb:∀s,Inv s->DI (f s) (bF9 (λs'=>Inv s'/\μ s'<μ s) (λr=>Q r))):DI (Gv.loop f s) Q:=by
 have key:∀n s,μ s<n->Inv s->DI (Gv.loop f s) Q:=by
  intro n;induction n with
  |zero=>omega
  |succ n ih=>
   intro s h hs;obtain⟨q,e,hq⟩:=hb s hs;cases q with
   |next s'=>grind[bM]
   |stop r=>rw[bA e];exact⟨r,rfl,hq⟩
 exact key _ s (Nat.lt_succ_self _) h0
theorem of{o:Option O}{x:O}(h:o=some x):DI o (λy=>y=x):=⟨x,h,rfl⟩
end DI
def Cu(b:List UInt8)(i:Int):Prop:=(0<=i/\i<=b.length)/\b.length<=1048576
theorem a8R(x:Int):0<=iG .and .i64 x 255/\iG .and .i64 x 255<=255:=by have e:iG .and .i64 x 255=IntKind.i64.wrap ((BitVec.ofInt 64 x &&& BitVec.ofInt 64 255).toNat:Int):=rfl;grind[Nat.and_le_right,wrap_i64]
section
variable {b:List UInt8} {i h:Int} (hc:Cu b i)
include hc
theorem aUS:DI (sP ⟨b,i,h⟩) (λx=>(0<=x.1/\x.1<=255)/\Cu b x.2.1):=by
 unfold sP ED;obtain⟨⟨a1,a2⟩,a3⟩:=hc;refine .ite (λq=>?_) (λq=>?_)
 ·have q':=of_decide_eq_true q;simp only at q';refine .bind (.idx ⟨a1,q'⟩) λx _=>.ret ⟨a8R _,?_⟩;grind[Cu,cO]
 ·exact .ret ⟨a8R _,⟨a1,a2⟩,a3⟩
theorem below(hn:n<=1000000):DI (fZ ⟨b,i,h⟩ n) (λx=>(0<=x.1/\(x.1<n\/n<=0/\x.1=0))/\Cu b x.2.1):=by
 unfold fZ;refine .ite (λq=>?_) (λq=>?_)
 ·have q':=of_decide_eq_true q;exact .ret ⟨ah,hc⟩
 ·have q0:0<n:=ak
  refine .ite (λq=>?_) (λq=>?_)
  ·refine .bind (aUS hc) λx ⟨hx,h1⟩=>.need aa (.ret ⟨?_,h1⟩);simp only[NM hx.1];exact⟨Int.emod_nonneg _ aa,.inl (Int.emod_lt_of_pos _ q0)⟩
  ·refine .bind (aUS hc) λx ⟨hx,h1⟩=>.bind (aUS h1) λy ⟨hy,h2⟩=>.bind (aUS h2) λz ⟨hz,h3⟩=>.bind (aUS h3) λw ⟨hw,h4⟩=>.need aa (.ret ⟨?_,h4⟩);have e:bB (bB (bB (bB (x.1*16777216)+bB (y.1*65536))+bB (z.1*256))+w.1)=x.1*16777216+y.1*65536+z.1*256+w.1:=by grind[cO]
   simp only[e];rw[NM aa];exact⟨Int.emod_nonneg _ aa,.inl (Int.emod_lt_of_pos _ q0)⟩
theorem bLN(hn:n<=1000000):DI (WI ⟨b,i,h⟩ n) (λx=>Cu b x.2.1):=
 .bind (below hc hn) λ_ ⟨_,h1⟩=>.ret h1
theorem aPG{l:List Int}(hl:0<l.length)(hl2:l.length<=1000):DI (nE ⟨b,i,h⟩ l) (λx=>x.1∈l/\Cu b x.2.1):=
 .bind (below hc aa) λx ⟨hx,h1⟩=>.bind (.idx aa) λy hy=>.ret ⟨hy,h1⟩
end
theorem bNX{code:List UInt8}(hl:code.length<=1048576):DI (S8 code) (λx=>Cu code x.1):=by
 unfold S8;refine .bind (P:=λ_=>True) (.loop (λs=>code.length-s.2.toNat) (λs=>0<=s.2/\s.2<=code.length) ⟨ae,ae⟩ ?_) λx _=>.ret ⟨⟨ae,ae⟩,hl⟩;rintro⟨a,k⟩ ⟨h1,h2⟩;simp only[ZW,H8];simp only at h1 h2;have nx:k<code.length->DI ((idx code k).bind λx7=>some (Step.next (iG .and .i64 (bB ((bB ((bB (a*131))+(x7.toNat:Int)))+7)) 1073741823,bB (k+1)))) (bF9 (ρ:=Int) (λs'=>(0<=s'.2/\s'.2<=code.length)/\code.length-s'.2.toNat<code.length-k.toNat) (λr=>True)):=λhk=>by refine .bind (.idx ⟨h1,hk⟩) λx _=>.ret ?_;grind[cO]
 refine .ite (λq=>?_) (λq=>?_)
 ·have q':=of_decide_eq_true q;exact .ite (λ_=>nx q') (λ_=>.ret trivial)
 ·rw[gJ];exact .ret trivial
def Hk(h:Heap):Prop:=h.Bytes.length=384/\h.Class.length=6
def Wk(m:Mem):Prop:=Hk m.Heap/\m.aE.Global.length=3/\m.aE.Own.length=9/\(iE m.aE).length<=24
theorem lW.wk(hm:lW m):Wk m:=by obtain⟨a,b,c,d,e,_⟩:=lW.facts hm;exact⟨⟨d,e⟩,b,c,a⟩
theorem Wk.small(h:Wk m):DG m:=by obtain⟨⟨a,b⟩,c,d,e⟩:=h;exact⟨aa,aa,aa,aa,aa⟩
theorem a3J(b:aA)(w:Int)(s:Sub):(gQ b w s).2.Kind=s.Kind:=by unfold gQ QJ KT uF fF cQ qO vI;grind
theorem DJ{b:aA}{s:Sub}(h:s.Kind=1\/s.Kind=2\/s.Kind=4):(gQ b w s).1.aC=b.aC:=by
 unfold gQ;rcases h with k|k|k
 ·simp only[k,bQ];unfold QJ KT;grind
 ·simp only[k];unfold uF;grind
 ·simp only[k];unfold cQ;grind
theorem zQ{c:aC}(hc:KP c){v:Int}(hw:0<=w/\w<=2)(hv:0<=v/\v<=2)(e:Int)(x:wQ):cS ⟨e,c.cE.set w.toNat x⟩ v=if v=w then x else cS c v:=by have h3:=hc.2.1;unfold cS;grind
def qB(j:Job):Prop:=j.bO=true/\(j.Op.Kind=2\/j.Op.Kind=5)/\j.Pc=0
def Adv(j:Job):Prop:=j.bO=true/\j.Op.Kind=4/\j.Pc=0
def JI(e:Int)(p:wQ)(j:Job):Prop:=j.bO=true ->
 (j.Op.Kind=1->j.Sub.Kind=1\/j.Sub.Kind=2)/\(j.Op.Kind=4->j.Pc=1->j.Sub.Kind=4) /\
 (Adv j->j.Sub.Kind=3/\j.Sub.gK=false/\(j.Sub.Pc=0\/j.Sub.E<=e/\(j.Sub.Pc=1/\(0<=j.Sub.B/\j.Sub.B<=2)\/j.Sub.Pc=2/\j.Sub.B=3))) /\
 (qB j->j.Sub.Kind=5/\j.Sub.gK=false/\(j.Sub.Pc=0\/j.Sub.Pc=1/\(0<=j.Sub.E/\j.Sub.E<=e)\/j.Sub.Pc=2/\p.aK=j.Sub.E))
def Calm(j:Job):Prop:=¬qB j/\¬Adv j/\(j.Op.Kind=1->j.Sub.Kind=1\/j.Sub.Kind=2)/\(j.Op.Kind=4->j.Pc=1->j.Sub.Kind=4)
theorem Calm.ji{j:Job}(h:Calm j)(e:Int)(p:wQ):JI e p j:=λ_=>⟨h.2.2.1,h.2.2.2,λq=>absurd q h.2.1,λq=>absurd q h.1⟩
def Ep(c:aC)(J:Int->Job):Prop:=(∀w,0<=w/\w<=2->JI c.aK (cS c w) (J w))/\∀p,0<=p/\p<=2->¬qB (J p)->(cS c p).On=true->(cS c p).gO=false->c.aK<=(cS c p).aK+1/\(c.aK=(cS c p).aK+1->∀a,0<=a/\a<=2->Adv (J a)->(J a).Sub.Pc≠0->(J a).Sub.E=c.aK->(J a).Sub.B<=p)
def upJ(J:Int->Job)(w:Int)(j:Job):Int->Job:=λv=>if v=w then j else J v
theorem GS(J:Int->Job)(w:Int)(j:Job):upJ J w j w=j:=aO rfl
theorem o5(J:Int->Job){v:Int}(j:Job)(h:v≠w):upJ J w j v=J v:=aP h
section
variable {c:aC} {J:Int->Job} (h:Ep c J)
include h
theorem Ep.congr{J':Int->Job}(e:∀v,0<=v/\v<=2->J' v=J v):Ep c J':=by refine⟨λw hw=>by rw[e w hw];exact h.1 w hw,λp hp hn h1 h2=>?_⟩;rw[e p hp] at hn;obtain⟨a1,a2⟩:=h.2 p hp hn h1 h2;grind
variable {w:Int} (hw:0<=w/\w<=2) {j:Job}
include hw
theorem Ep.step{c':aC}(he:c'.aK=c.aK)(hp:∀v,0<=v/\v<=2->v≠w->cS c' v=cS c v)(hj:JI c.aK (cS c' w) j)
  (h2:¬qB j->(cS c' w).On=true->(cS c' w).gO=false->c.aK<=(cS c' w).aK+1/\(c.aK=(cS c' w).aK+1->∀a,0<=a/\a<=2->a≠w->Adv (J a)->(J a).Sub.Pc≠0->(J a).Sub.E=c.aK->(J a).Sub.B<=w))
  (ha:Adv j->j.Sub.Pc=0\/j.Sub.B=0):Ep c' (upJ J w j):=by
 constructor
 ·intro v hv;rw[he];by_cases q:v=w
  ·grind[GS]
  ·rw[o5 _ _ q,hp v hv q];exact h.1 v hv
 ·intro p hpr hn o1 o2;rw[he];have hadv:∀a,0<=a/\a<=2->(∀q:a≠w,Adv (J a)->(J a).Sub.Pc≠0->(J a).Sub.E=c.aK->(J a).Sub.B<=p)->Adv (upJ J w j a)->(upJ J w j a).Sub.Pc≠0->(upJ J w j a).Sub.E=c.aK->(upJ J w j a).Sub.B<=p:=by grind[GS,o5]
  by_cases q:p=w
  ·grind[GS]
  ·rw[o5 _ _ q] at hn;rw[hp p hpr q] at o1 o2 ⊢;obtain⟨a1,a2⟩:=h.2 p hpr hn o1 o2;grind
theorem Ep.still(hn:¬qB (J w))(hj:Calm j):Ep c (upJ J w j):=
 h.step hw rfl (λ_ _ _=>rfl) (hj.ji _ _) (λ_ o1 o2=>by
  obtain⟨a1,a2⟩:=h.2 w hw hn o1 o2;grind) (λq=>absurd q hj.2.1)
theorem Ep.bLO(hc:KP c)(hn:¬qB (J w))(hj:Calm j):Ep (H6 c w).1 (upJ J w j):=by
 unfold H6;by_cases q:(cS c w).On
 ·rw[aO q];refine h.step hw rfl (λv hv hvw=>by simp_all[zQ]) (hj.ji _ _) (λ_ o1=>?_) (λq=>absurd q hj.2.1);simp_all[zQ]
 ·rw[aP q];exact h.still hw hn hj
theorem Ep.pin{b:aA}(hb:b.aC=c)(hc:KP c)(hj:J w=j)(hP:qB j){fin:Job}(hf:Calm fin) :
  Ep (qO b w j.Sub).1.aC (upJ J w (if(qO b w j.Sub).2.gK then fin else {j with Sub:=(qO b w j.Sub).2})):=by
 have hji:=h.1 w hw;rw[hj] at hji;have hk5:=hP.2.1;obtain⟨k,d,hpc⟩:=(hji hP.1).2.2.2 hP;have noadv:∀s:Sub,¬Adv {j with Sub:=s}:=λs q=>by have:=q.2.1;grind
 have hP':∀s:Sub,qB {j with Sub:=s}:=λs=>hP;have mk:∀(s:Sub) (p:wQ),(s.Kind=5/\s.gK=false/\(s.Pc=0\/s.Pc=1/\(0<=s.E/\s.E<=c.aK)\/s.Pc=2/\p.aK=s.E))->JI c.aK p {j with Sub:=s}:=λs p hs _=>⟨λq=>ak,λq=>ak,λq=>absurd q (noadv s),λ_=>hs⟩;unfold qO;rw[hb];rcases hpc with p0|⟨p1,e0,e1⟩|⟨p2,pe⟩
 ·simp only[aO p0,d,bU,bS,hb];exact h.step hw rfl (λ_ _ _=>rfl) (mk _ _ ⟨k,rfl,.inr (.inl ⟨rfl,hc.1.1,I3 _⟩)⟩) (λq=>absurd (hP' _) q) (λq=>absurd q (noadv _))
 ·have hpt:NT c w j.Sub.E=(⟨c.aK,c.cE.set w.toNat ⟨true,j.Sub.E,false,0⟩⟩,true):=by simp_all[NT]
  simp only[aP (show ¬j.Sub.Pc=0 by omega),aO p1,hpt,bQ,d,bU,bS];exact h.step hw rfl (λv hv hvw=>by simp_all[zQ]) (mk _ _ ⟨k,rfl,.inr (.inr ⟨rfl,by simp_all[zQ]⟩)⟩) (λq=>absurd (hP' _) q) (λq=>absurd q (noadv _))
 ·simp only[aP (show ¬j.Sub.Pc=0 by omega),aP (show ¬j.Sub.Pc=1 by omega),aO p2];by_cases q:c.aK=j.Sub.E
  ·simp only[aO q,vI,bQ,hb];exact h.step hw rfl (λ_ _ _=>rfl) (hf.ji _ _) (λ_ _ _=>⟨aa,λe=>aa⟩) (λq=>absurd q hf.2.1)
  ·simp only[aP q,d,bU,bS,hb];exact h.step hw rfl (λ_ _ _=>rfl) (mk _ _ ⟨k,rfl,.inl rfl⟩) (λq=>absurd (hP' _) q) (λq=>absurd q (noadv _))
omit h hw in
theorem aLU(hc:KP c){q:Int}(hq:0<=q/\q<=2)(e:Int):(HE c q e).1.aK=c.aK/\(∀v,0<=v/\v<=2->(cS (HE c q e).1 v).On=(cS c v).On/\(cS (HE c q e).1 v).aK=(cS c v).aK/\((cS (HE c q e).1 v).gO=false->(cS c v).gO=false)) /\
  ((HE c q e).2=true->(cS (HE c q e).1 q).On=true->(cS (HE c q e).1 q).gO=false->(cS c q).aK=e):=by
 unfold HE;by_cases k1:(cS c q).On=false\/(cS c q).gO=true\/(cS c q).aK=e
 ·grind
 ·rw[aP k1];by_cases k2:(cS c q).Seen=2
  ·rw[aO k2];refine⟨rfl,λv hv=>?_,λ_ _ o2=>?_⟩
   ·rw[zQ hc hq hv];grind
   simp_all[zQ]
  ·rw[aP k2];refine⟨rfl,λv hv=>?_,λx=>by cases x⟩;rw[zQ hc hq hv];grind
theorem Ep.advance{b:aA}(hb:b.aC=c)(hc:KP c)(hj:J w=j)(hA:Adv j){fin:Job}(hf:Calm fin) :
  Ep (fF b j.Sub).1.aC (upJ J w (if(fF b j.Sub).2.gK then fin else {j with Sub:=(fF b j.Sub).2})):=by
 have hji:=h.1 w hw;rw[hj] at hji;have hk4:=hA.2.1;obtain⟨k,d,hpc⟩:=(hji hA.1).2.2.1 hA;have nopin:∀s:Sub,¬qB {j with Sub:=s}:=λs q=>by have:=q.2.1;grind
 have nopw:¬qB (J w):=by simp_all
 have mk:∀(s:Sub) (p:wQ) (e:Int),(s.Kind=3/\s.gK=false/\(s.Pc=0\/s.E<=e/\(s.Pc=1/\(0<=s.B/\s.B<=2)\/s.Pc=2/\s.B=3)))->JI e p {j with Sub:=s}:=λs p e hs _=>⟨λq=>ak,λ_ q=>by simp only at q;have:=hA.2.2;omega,λ_=>hs,λq=>absurd q (nopin s)⟩;unfold fF;rw[hb];rcases hpc with p0|⟨el,⟨p1,B0,B2⟩|⟨p2,B3⟩⟩
 ·simp only[aO p0,d,bU,bS,hb];refine h.step hw rfl (λ_ _ _=>rfl) (mk _ _ _ ⟨k,rfl,.inr ⟨I3 _,.inl ⟨rfl,ae,ae⟩⟩⟩) (λ_ o1 o2=>?_) (λ_=>.inr rfl);obtain⟨a1,a2⟩:=h.2 w hw nopw o1 o2;grind
 ·obtain⟨le,lv,lq⟩:=aLU hc (q:=j.Sub.B) ⟨B0,B2⟩ j.Sub.E;simp only[aP (show ¬j.Sub.Pc=0 by omega),aO p1,aO (show 0<=j.Sub.B/\j.Sub.B<=2 from⟨B0,B2⟩)];have others:∀v,0<=v/\v<=2->JI (HE c j.Sub.B j.Sub.E).1.aK (cS (HE c j.Sub.B j.Sub.E).1 v) (J v):=λv hv=>by have:=h.1 v hv;rw[le];intro hbv;obtain⟨x1,x2,x3,x4⟩:=this hbv;grind
  cases hl:(HE c j.Sub.B j.Sub.E).2
  ·simp only[bU,bS,vI,bQ];refine⟨λv hv=>?_,λp hp hn o1 o2=>?_⟩
   ·by_cases q:v=w
    ·subst q;rw[GS];exact hf.ji _ _
    grind[o5]
   ·have hn':¬qB (J p):=by grind[o5]
    obtain⟨y1,y2,y3⟩:=lv p hp;rw[y1] at o1;obtain⟨a1,a2⟩:=h.2 p hp hn' o1 (y3 o2);rw[le,y2];refine⟨a1,λe a har=>?_⟩;by_cases q:a=w
    ·subst q;rw[GS];exact λq=>absurd q hf.2.1
    grind[o5]
  ·simp only[bQ,d,bU,bS];refine⟨λv hv=>?_,λp hp hn o1 o2=>?_⟩
   ·by_cases q:v=w
    ·subst q;rw[GS,le];grind
    grind[o5]
   ·have hn':¬qB (J p):=by grind[o5]
    obtain⟨y1,y2,y3⟩:=lv p hp;have o1':=o1;rw[y1] at o1';obtain⟨a1,a2⟩:=h.2 p hp hn' o1' (y3 o2);grind[GS,o5]
 ·simp only[aP (show ¬j.Sub.Pc=0 by omega),aP (show ¬j.Sub.Pc=1 by omega),aO p2,vI,bQ];unfold aFZ;by_cases q:c.aK=j.Sub.E/\j.Sub.E≠100000
  ·simp only[aO q];refine⟨λv hv=>?_,λp hp hn o1 o2=>?_⟩
   ·by_cases z:v=w
    ·subst z;rw[GS];exact hf.ji _ _
    ·rw[o5 _ _ z];intro hbv;obtain⟨x1,x2,x3,x4⟩:=h.1 v hv hbv;refine⟨x1,x2,λq=>?_,λq=>?_⟩
     ·grind
     ·obtain⟨z1,z2,z3⟩:=x4 q;exact⟨z1,z2,z3.imp id λz4=>z4.imp (λz5=>⟨z5.1,z5.2.1,ak⟩) id⟩
   ·have hn':¬qB (J p):=by grind[o5]
    have o1':(cS c p).On=true:=o1;have o2':(cS c p).gO=false:=o2;obtain⟨a1,a2⟩:=h.2 p hp hn' o1' o2';have hpk:=(aLP hc hp).1.2;have hne:c.aK≠(cS c p).aK+1:=λe=>ak
    have hep:cS ⟨j.Sub.E+1,c.cE⟩ p=cS c p:=rfl;rw[hep];refine⟨ak,λe a har hA' hp' hE'=>?_⟩;exfalso;by_cases z:a=w
    ·subst z;rw[GS] at hA';exact hf.2.1 hA'
    ·rw[o5 _ _ z] at hA' hp' hE';obtain⟨_,_,z3⟩:=(h.1 a har hA'.1).2.2.1 hA';omega
  ·simp only[aP q];exact h.still hw nopw hf
end
theorem aE7{b:aA}(hb:mP b)(hw:0<=w/\w<=2)(s:Sub):qJ s b w=some ((gQ b w s).2,(gQ b w s).1):=by obtain⟨x,y,e1,e2,h⟩:=step_eq hb hb.small hw s;grind[a0V]
theorem a3L(h:0<=x/\x<=255):0<=Int.tmod x 3/\Int.tmod x 3<=2:=ak
def cG:aI:=⟨false,⟨false,[]⟩,0,0,0,0,0,0,0,0,aPD,false,0,⟨0,0,0,0,0,0,0,0,0,false⟩,[],[],[],[],[],[]⟩
def dL(k:List bR)(i:Int):bR:=k.getD i.toNat ⟨0,0,0⟩
def nZ(j:aI)(c:Int):aI:={j with Pc:=16,Code:=c}
def BQ(a b:Int):Int:=Int.tmod (bB (a+b)) 65536
def kH(j:aI)(x:aU):Bool×aI:=if 6<(vG j.aH x).length then(false,nZ j 1) else(true,{j with aH:=vG j.aH x})
def SH(j:aI)(is:Bool)(v:Int):aI:={j with fY:=j.fY++[⟨is,v⟩],Pc:=1,At:=j.At+1}
def SI(j:aI)(c:iP)(v:Int):aI:=if(kH j ⟨c.Key,false,BQ v c.dI⟩).1 then SH (kH j ⟨c.Key,false,BQ v c.dI⟩).2 true (BQ v c.dI) else(kH j ⟨c.Key,false,BQ v c.dI⟩).2
def lL(j:aI)(c:iP)(v:Int)(is:Bool):aI:=if c.Kind=4 then SI j c (if is then v else 0) else SH j is (if is then v else 0)
def cH(j:aI):iP:=j.Batch.bK.getD j.At.toNat ⟨0,0,0⟩
def sM(j:aI):Prop:=j.At<j.Batch.bK.length
instance (j:aI):Decidable (sM j):=by unfold sM;infer_instance
def oA(j:aI):aI:=
 if sM j then
  if(cH j).Kind=2\/(cH j).Kind=3 then
   if(kH j ⟨(cH j).Key,(cH j).Kind == 3,(cH j).dI⟩).1 then {(kH j ⟨(cH j).Key,(cH j).Kind == 3,(cH j).dI⟩).2 with At:=j.At+1,fY:=j.fY++[⟨false,0⟩]}
   else(kH j ⟨(cH j).Key,(cH j).Kind == 3,(cH j).dI⟩).2
  else if(OB j.aH (cH j).Key).2 then lL j (cH j) (OB j.aH (cH j).Key).1.dI (!(OB j.aH (cH j).Key).1.G3)
  else {j with Pc:=2,bR:=jD (cH j).Key}
 else {j with Pc:=6,K:=0,Sub:=yK 1 16}
def iB(b:aA)(k:List bR)(w:Int)(j:aI):aI:=
 if j.Pc=2 then
  if(dL k j.bR).dU≠0 then nZ j 7
  else {j with eB:=(dL k j.bR).eB,H:=(dL k j.bR).Head,Found:=false,Node:=aPD,Pc:=if(dL k j.bR).Head=0 then 5 else 3}
 else if j.Pc=3 then {j with Node:=V3 b.Mem.Heap j.H,Pc:=4}
 else if j.Pc=4 then
  if ¬((cS b.aC w).On=true/\(cS b.aC w).gO=false) then nZ j 6
  else if sM j then {j with Found:=j.Node.Key == (cH j).Key,H:=MD j.Node,Pc:=if j.Node.Key=(cH j).Key\/MD j.Node=0 then 5 else 3}
  else nZ j 1
 else
  if(dL k j.bR).dU≠0\/(dL k j.bR).eB≠j.eB then nZ j 7
  else if(nS j.Reads j.bR j.eB).2=false then nZ {j with Reads:=(nS j.Reads j.bR j.eB).1} 7
  else if sM j then lL {j with Reads:=(nS j.Reads j.bR j.eB).1} (cH j) j.Node.dI j.Found
  else nZ {j with Reads:=(nS j.Reads j.bR j.eB).1} 1
def qP(b:aA)(w:Int)(j:aI):aA×aI:=
 if fU j.aH j.aH.length<=j.K then(b,{j with Pc:=7,K:=0})
 else((gQ b w j.Sub).1,
  if(gQ b w j.Sub).2.gK=false then {j with Sub:=(gQ b w j.Sub).2}
  else if(gQ b w j.Sub).2.Code≠0\/¬lK (gQ b w j.Sub).2.Out\/6<=j.gL.length then nZ {j with Sub:=(gQ b w j.Sub).2} (gQ b w j.Sub).2.Code
  else {j with gL:=j.gL++[(gQ b w j.Sub).2.Out],K:=j.K+1,Sub:=yK 1 16})
def eV(j:aI):Int:=(m0 j.aH).getD j.K.toNat 0
def D4(j:aI):aI:={j with bD:=if eV j∈j.bD then j.bD else j.bD++[eV j],K:=j.K+1}
def mQ(k:List bR)(w:Int)(j:aI):List bR×aI×Bool:=
 if j.K<(m0 j.aH).length then
  if(dL k (eV j)).dU≠0\/(j.Reads.any λs=>s.bR == eV j && s.eB != (dL k (eV j)).eB)=true then(k,nZ j 7,false)
  else if(dL k (eV j)).eB=1000000 then(k,nZ j 3,false)
  else if(m0 j.aH).length<=j.K+1 then(k.set (eV j).toNat {dL k (eV j) with dU:=w+1},{D4 j with Pc:=8,K:=0},true)
  else(k.set (eV j).toNat {dL k (eV j) with dU:=w+1},D4 j,false)
 else(k,{j with Pc:=8,K:=0},true)
def rdN(j:aI):Seen:=j.Reads.getD j.K.toNat ⟨0,0⟩
def GU(k:List bR)(w:Int)(j:aI):aI:=
 if j.Reads.length<=j.K then {j with Pc:=9,K:=0}
 else if((dL k (rdN j).bR).dU≠0/\(dL k (rdN j).bR).dU≠w+1)\/(dL k (rdN j).bR).eB≠(rdN j).eB then nZ j 7
 else {j with K:=j.K+1}
def I1(j:aI)(x:aU):aI:=if x.G3 then {j with Pc:=9,K:=j.K+1} else {j with Pc:=12}
def mR(j:aI):aU:=j.aH.getD j.K.toNat ⟨0,false,0⟩
def GV(j:aI):Int:=j.gL.getD (fU j.aH j.K).toNat 0
def J3(j:aI):aI:=if lK j.H/\j.cA.length<6 then {j with cA:=j.cA++[j.H]} else j
def jH(b:aA)(k:List bR)(j:aI):aA×List bR×aI:=
 if j.aH.length<=j.K then(b,k,{j with Pc:=14})
 else if j.Pc=9 then(b,k,if(dL k (jD (mR j).Key)).Head=0 then I1 {j with Pc:=10,H:=(dL k (jD (mR j).Key)).Head,gR:=0} (mR j) else {j with Pc:=10,H:=(dL k (jD (mR j).Key)).Head,gR:=0})
 else if j.Pc=10 then
  (b,k,if(V3 b.Mem.Heap j.H).Key=(mR j).Key then {j with Pc:=11,Node:=V3 b.Mem.Heap j.H}
   else if MD (V3 b.Mem.Heap j.H)=0 then I1 {j with Node:=V3 b.Mem.Heap j.H} (mR j)
   else {j with H:=MD (V3 b.Mem.Heap j.H),gR:=j.H,Node:=V3 b.Mem.Heap j.H})
 else if j.Pc=11 then
  if j.gR=0 then(b,k.set (jD (mR j).Key).toNat {dL k (jD (mR j).Key) with Head:=MD j.Node},I1 (J3 j) (mR j))
  else({b with Mem:=Gv.aF1 b.Mem j.gR (MD j.Node)},k,I1 (J3 j) (mR j))
 else if j.gL.length<=fU j.aH j.K then(b,k,nZ j 1)
 else if j.Pc=12 then({b with Mem:=aAG b.Mem (GV j) ⟨(mR j).Key,(mR j).dI,(dL k (jD (mR j).Key)).Head⟩},k,{j with Pc:=13})
 else(b,k.set (jD (mR j).Key).toNat {dL k (jD (mR j).Key) with Head:=GV j},{j with Pc:=9,K:=j.K+1})
def G4(j:aI):aI:=if j.K<j.cA.length then {j with Sub:=yK 2 (j.cA.getD j.K.toNat 0)} else j
def wN(j:aI):Int:=j.bD.getD 0 0
def wR(k:List bR)(j:aI):List bR×aI:=
 if 0<j.bD.length then
  (k.set (wN j).toNat (if j.Pc=14 then⟨(dL k (wN j)).Head,if 1000000<(dL k (wN j)).eB+1 then 1000000 else(dL k (wN j)).eB+1,0⟩ else {dL k (wN j) with dU:=0}),{j with bD:=j.bD.drop 1})
 else if j.Pc=16 then(k,{j with Pc:=17})
 else(k,G4 {j with Pc:=15,K:=0})
def wS(b:aA)(w:Int)(j:aI):aA×aI:=
 if j.cA.length<=j.K then(b,{j with Pc:=18})
 else((gQ b w j.Sub).1,if(gQ b w j.Sub).2.gK then G4 {j with K:=j.K+1,Sub:=(gQ b w j.Sub).2} else {j with Sub:=(gQ b w j.Sub).2})
def aUT(m:Mem)(w x:Int):Mem:=if mO m x then qA m w x else m
def wT(b:aA)(w:Int)(j:aI):aA×aI:=
 if j.gL.length=0 then(b,{j with Pc:=18})
 else(if bD b.aQ (j.gL.getD 0 0 % 32) then b else {b with Mem:=aUT b.Mem w (j.gL.getD 0 0)},{j with gL:=j.gL.drop 1})
def lC(b:aA)(w:Int)(j:aI):aA×aI:=
 ((gQ b w j.Sub).1,if(gQ b w j.Sub).2.gK = false then {j with Sub:=(gQ b w j.Sub).2}
  else if j.Pc=0 then {j with Pc:=1,Sub:=(gQ b w j.Sub).2}
  else if j.Pc=20 then {j with Pc:=21,Sub:=yK 4 0}
  else {j with Pc:=19,Sub:=(gQ b w j.Sub).2})
def tlE(w:Int)(j:aI):mT:=⟨3,w,j.aG,j.Code,[],if j.Code=0 then j.fY else []⟩
structure TR where
 b:aA
 k:List bR
 j:aI
 l:List mT
def dX(b:aA)(k:List bR)(w:Int)(j:aI):TR:=
 if j.Pc=0\/j.Pc=20\/j.Pc=21 then⟨(lC b w j).1,k,(lC b w j).2,[]⟩
 else if j.Pc=1 then⟨b,k,oA j,[]⟩
 else if 2<=j.Pc/\j.Pc<=5 then⟨b,k,iB b k w j,[]⟩
 else if j.Pc=6 then⟨(qP b w j).1,k,(qP b w j).2,[]⟩
 else if j.Pc=7 then⟨b,(mQ k w j).1,(mQ k w j).2.1,if(mQ k w j).2.2 then [⟨2,w,j.aG,0,[],[]⟩] else []⟩
 else if j.Pc=8 then⟨b,k,GU k w j,[]⟩
 else if 9<=j.Pc/\j.Pc<=13 then⟨(jH b k j).1,(jH b k j).2.1,(jH b k j).2.2,[]⟩
 else if j.Pc=14\/j.Pc=16 then⟨b,(wR k j).1,(wR k j).2,[]⟩
 else if j.Pc=15 then⟨(wS b w j).1,k,(wS b w j).2,[]⟩
 else if j.Pc=17 then⟨(wT b w j).1,k,(wT b w j).2,[]⟩
 else if j.Pc=18 then⟨{b with aC:=(H6 b.aC w).1},k,{j with Pc:=19},[]⟩
 else if j.Pc=19 then⟨b,k,cG,[tlE w j]⟩
 else⟨b,k,nZ j 1,[]⟩
def aD(t:Table)(w:Int):aI:=t.aS.getD w.toNat cG
def mF(t:Table)(w:Int):List Batch:=(t.eE.getD w.toNat ⟨[]⟩).List
def gY(b:Batch)(s:Int):aI:=⟨true,b,s,if b.Collect then 20 else 0,0,0,0,0,0,0,aPD,false,0,if b.Collect then yK 3 0 else yK 5 0,[],[],[],[],[],[]⟩
def qQ(t:Table)(w:Int)(b:Batch):Table:=⟨t.aA,t.aR,t.aS.set w.toNat (gY b (t.aG+1)),t.eE.set w.toNat ⟨(mF t w).drop 1⟩,t.Log++[⟨1,w,t.aG+1,0,b.bK,[]⟩],t.aG+1⟩
def yL(t:Table)(w:Int)(r:TR):Table:=⟨r.b,r.k,t.aS.set w.toNat r.j,t.eE,t.Log++r.l,t.aG⟩
def aY(t:Table)(w:Int):Table:=
 if(aD t w).bO then yL t w (dX t.aA t.aR w (aD t w))
 else if(mF t w).length=0\/t.aG=1000000 then t else qQ t w ((mF t w).getD 0 ⟨false,[]⟩)
def QK(c:iP):Prop:=(1<=c.Kind/\c.Kind<=4)/\(0<=c.Key/\c.Key<=99)/\(0<=c.dI/\c.dI<=65535)/\(c.Kind=2\/c.Kind=4\/c.dI=0)
instance (c:iP):Decidable (QK c):=by unfold QK;infer_instance
def ZK(b:Batch):Prop:=(b.Collect=true->b.bK=[])/\b.bK.length<=6/\(∀c∈b.bK,QK c)/\(b.Collect=false->1<=b.bK.length)
instance (b:Batch):Decidable (ZK b):=by unfold ZK;infer_instance
def QuV(q:aN):Prop:=q.List.length<=12/\∀b∈q.List,ZK b
instance (q:aN):Decidable (QuV q):=by unfold QuV;infer_instance
def SJ(l:List aN):Prop:=l.length=3/\∀q∈l,QuV q
instance (l:List aN):Decidable (SJ l):=by unfold SJ;infer_instance
def BkV(b:bR):Prop:=oK b.Head/\(0<=b.eB/\b.eB<=1000000)/\(0<=b.dU/\b.dU<=3)
def WrV(l:List aU):Prop:=l.length<=6/\(∀x∈l,(0<=x.Key/\x.Key<=99)/\(0<=x.dI/\x.dI<=65535))/\l.Pairwise (λx y=>x.Key<y.Key)
structure JB (j:aI):Prop where
 busy:j.bO=true
 V5:ZK j.Batch
 h:oK j.H
 prev:oK j.gR
 bkt:0<=j.bR/\j.bR<=1
 at_:0<=j.At/\j.At<=j.Batch.bK.length
 k:0<=j.K/\j.K<=6
 new:j.gL.length<=6/\∀x∈j.gL,lK x
 old:j.cA.length<=6/\∀x∈j.cA,lK x
 reads:(∀s∈j.Reads,0<=s.bR/\s.bR<=1)/\(j.Reads.map Seen.bR).Nodup
 wr:WrV j.aH
 held:(∀x∈j.bD,0<=x/\x<=1)/\j.bD.Nodup
 res:(j.fY.length:Int)=j.At
 node:0<=j.Node.dI/\j.Node.dI<=4294967295
structure TV (t:Table):Prop where
 base:mP t.aA
 bk:t.aR.length=2/\∀x∈t.aR,BkV x
 yO:t.aS.length=3/\∀j∈t.aS,j=cG\/JB j
 todo:SJ t.eE
 ser:0<=t.aG/\t.aG<=1000000
theorem aPH(hw:j.aH.length<=1000)(x:aU):rU j x=some (kH j x):=by
 unfold rU kH;rw[aE3 hw,aM];by_cases h:6<(vG j.aH x).length
 ·rw[eK,aO h];rfl
 grind
theorem aE9(j:aI)(x:aU):(kH j x).2.fY=j.fY/\(kH j x).2.At=j.At:=by grind[kH,nZ]
theorem aPI(hw:j.aH.length<=1000)(hr:j.fY.length<=1000)(ha:0<=j.At/\j.At<=1000)(c:iP)(v:Int)(is:Bool):rV j c v is=some (lL j c v is):=by
 have key:∀u,mJ j c is u=some (if c.Kind=4 then SI j c u else SH j is u):=λu=>by
  unfold mJ;by_cases hk:c.Kind=4
  ·rw[aO ak,aO hk];unfold aAR SI;rw[aM,show Int.tmod (bB (u+c.dI)) 65536=BQ u c.dI from rfl,aPH hw,aM];obtain⟨e1,e2⟩:=aE9 j ⟨c.Key,false,BQ u c.dI⟩;cases h:(kH j ⟨c.Key,false,BQ u c.dI⟩).1
   ·simp
   ·rw[gJ,aO rfl];grind[mI,qY,SH,bZ,cO]
  ·rw[aP ak,aP hk];grind[mI,qY,SH,bZ,cO]
 unfold rV lL;grind
theorem aLV(hl:j.Batch.bK.length<=1000)(ha:0<=j.At):pP j=some (if sM j then(cH j,true,j) else(⟨0,0,0⟩,false,j)):=by
 unfold pP cH;rw[dN,aM,eG];by_cases hc:sM j
 ·have h:j.At<j.Batch.bK.length:=hc;rw[cV aa,gJ,aO hc,gP ha h,aM];grind
 ·have h:¬j.At<j.Batch.bK.length:=hc;grind
theorem a8T(hl:j.Batch.bK.length<=1000)(hw:j.aH.length<=1000)(hr:j.fY.length<=1000)(ha:0<=j.At/\j.At<=1000):FO j=some (oA j):=by
 unfold FO oA;rw[aLV hl ha.1,aM];by_cases h:sM j
 ·rw[aO h,aO h];have put:kD (cH j,true,j) true j=some (if(kH j ⟨(cH j).Key,(cH j).Kind == 3,(cH j).dI⟩).1 then {(kH j ⟨(cH j).Key,(cH j).Kind == 3,(cH j).dI⟩).2 with At:=j.At+1,fY:=j.fY++[⟨false,0⟩]} else(kH j ⟨(cH j).Key,(cH j).Kind == 3,(cH j).dI⟩).2):=by
   unfold kD;rw[aO rfl,aPH hw,aM];obtain⟨e1,e2⟩:=aE9 j ⟨(cH j).Key,(cH j).Kind == 3,(cH j).dI⟩;cases (kH j ⟨(cH j).Key,(cH j).Kind == 3,(cH j).dI⟩).1
   ·rw[gJ,gJ]
   ·rw[aO rfl,aO rfl,bZ (by rw[e1];simp;omega)];simp only[e1,e2];rw[eG]
  have get:kD (cH j,true,j) false j=some (if(OB j.aH (cH j).Key).2 then lL j (cH j) (OB j.aH (cH j).Key).1.dI (!(OB j.aH (cH j).Key).1.G3) else {j with Pc:=2,bR:=jD (cH j).Key}):=by
   unfold kD FN;rw[gJ,aHX hw,aM];cases (OB j.aH (cH j).Key).2
   ·rw[gJ,gJ,QF];rfl
   ·rw[aO rfl,aO rfl,aPI hw hr ha];rfl
  grind
 ·rw[aP h,aP h];rfl
theorem CX(h3:t.aS.length=3)(hw:0<=w/\w<=2):idx t.aS w=some (aD t w):=by grind[gP,aD]
theorem aFA{k:List bR}(h2:k.length=2)(hi:0<=i/\i<=1):idx k i=some (dL k i):=by grind[gP,dL]
theorem aDL{l:List O}{x:O}(h:0<=i/\i<l.length):idx (l.set i.toNat x) i=some x:=by grind[gP]
theorem zR(h3:t.aS.length=3)(hw:0<=w/\w<=2):aD t w∈t.aS:=by grind[aD]
def aUU(t:Table)(w:Int)(j:aI):Table:={t with aS:=t.aS.set w.toNat j}
section
variable {t:Table} {w:Int} (h3:t.aS.length=3) (h2:t.aR.length=2) (hb:mP t.aA) (hw:0<=w/\w<=2) (hj:JB (aD t w))
include h3 h2 hb hw hj
theorem YE:(aD t w).Batch.bK.length<=1000/\(aD t w).aH.length<=1000/\(aD t w).fY.length<=1000/\(0<=(aD t w).At/\(aD t w).At<=1000)/\(aD t w).Reads.length<=2:=by
 have h1:=hj.V5.2.1;have h4:=hj.at_;have h5:=hj.res;have h6:=hj.wr.1;refine⟨aa,aa,aa,aa,?_⟩;have hn:=hj.reads.2;have hm:∀x∈(aD t w).Reads.map Seen.bR,x=0\/x=1:=λx hx=>by obtain⟨s,hs,rfl⟩:=AU.1 hx;have:=hj.reads.1 s hs;omega
 have hl:((aD t w).Reads.map Seen.bR).length<=2:=by
  match h:(aD t w).Reads.map Seen.bR,hn,hm with
  |[],_,_=>simp
  |[_],_,_=>simp
  |[_,_],_,_=>simp
  |x::y::z::r,hn,hm=>
   (simp_all;omega)
 grind
theorem bDR:B9 t w=some (aUU t w (iB t.aA t.aR w (aD t w))):=by
 obtain⟨s1,s2,s3,s4,s5⟩:=YE h3 h2 hb hw hj;have hjob:=CX h3 hw;unfold B9 C7 iB aUU;rw[hjob,aM,aFA h2 hj.bkt,aM,aM,aLV s1 s4.1,aM];generalize hjj:aD t w=j at *;have e62:(if sM j then(cH j,true,j) else((⟨0,0,0⟩:iP),false,j)).2.2=j:=ak
 have set2:∀x y:aI,(t.aS.set w.toNat x).set w.toNat y=t.aS.set w.toNat y:=λx y=>aSR ..;have iset:∀x:aI,idx (t.aS.set w.toNat x) w=some x:=λx=>aDL ⟨hw.1,aa⟩;simp only[e62];by_cases p2:j.Pc=2
 ·have p2':(j.Pc == 2)=true:=ak
  simp only[p2',bQ,aO p2];by_cases hl:(dL t.aR j.bR).dU=0
  ·have e:((dL t.aR j.bR).dU != 0)=false:=ak
   simp only[e,bU,bS,aP (not_not_intro hl)];by_cases hh:(dL t.aR j.bR).Head=0
   ·have e:((dL t.aR j.bR).Head == 0)=true:=ak
    simp only[e,bQ,aO hh];rfl
   ·have e:((dL t.aR j.bR).Head == 0)=false:=ak
    simp only[e,bU,bS,aP hh];rfl
  ·have e:((dL t.aR j.bR).dU != 0)=true:=ak
   simp only[e,bQ,aO hl];rfl
 ·have p2':(j.Pc == 2)=false:=ak
  simp only[p2',bU,bS,aP p2];by_cases p3:j.Pc=3
  ·have p3':(j.Pc == 3)=true:=ak
   simp only[p3',bQ,aO p3];obtain⟨c,e⟩:=aPE hb.1.1 j.H;rw[e];rfl
  ·have p3':(j.Pc == 3)=false:=ak
   simp only[p3',bU,bS,aP p3];by_cases p4:j.Pc=4
   ·have p4':(j.Pc == 4)=true:=ak
    simp only[p4',bQ,aO p4];rw[SF hb.1.2.1 hw,aM];simp only[C4,nV];have hp:(if(cS t.aA.aC w).On=true then some (!(cS t.aA.aC w).gO) else some false)=some (decide ((cS t.aA.aC w).On=true/\(cS t.aA.aC w).gO=false)):=by cases (cS t.aA.aC w).On<;>cases (cS t.aA.aC w).gO<;>rfl
    rw[hp,aM];by_cases hpin:(cS t.aA.aC w).On=true/\(cS t.aA.aC w).gO=false
    ·simp only[cV hpin,kW,bU,bS,aP (not_not_intro hpin)];by_cases hc:sM j
     ·simp only[aO hc,kW,bU,bS,aRT,aM,C5,tO,iset,set2];grind
     ·simp only[aP hc,SQ,bQ];rfl
    ·simp only[iC hpin,SQ,bQ,aO hpin];rfl
   ·have p4':(j.Pc == 4)=false:=ak
    simp only[p4',bU,bS,aP p4];have tail:jM t w (if sM j then(cH j,true,j) else((⟨0,0,0⟩:iP),false,j)) false=some (aUU t w (if(nS j.Reads j.bR j.eB).2=false then nZ {j with Reads:=(nS j.Reads j.bR j.eB).1} 7
      else if sM j then lL {j with Reads:=(nS j.Reads j.bR j.eB).1} (cH j) j.Node.dI j.Found
      else nZ {j with Reads:=(nS j.Reads j.bR j.eB).1} 1)):=by
     simp only[jM,C6,e62,iset,aM,set2,bU,bS];rw[aHY aa,aM];cases hs:(nS j.Reads j.bR j.eB).2
     ·rfl
     ·simp only[kW,bU,bS,reduceCtorEq];by_cases hc:sM j
      ·simp only[aO hc,kW,bU,bS];rw[aPI (j:={j with Reads:=(nS j.Reads j.bR j.eB).1}) s2 s3 s4];rfl
      ·simp only[aP hc,SQ,bQ];rfl
    have ab:jM t w (if sM j then(cH j,true,j) else((⟨0,0,0⟩:iP),false,j)) true=some (aUU t w (nZ j 7)):=by simp only[jM,e62,iset,aM,set2,bQ];rfl
    by_cases hl:(dL t.aR j.bR).dU=0
    ·have e:((dL t.aR j.bR).dU != 0)=false:=ak
     simp only[e,bU,bS];by_cases hv:(dL t.aR j.bR).eB=j.eB
     ·have e:((dL t.aR j.bR).eB != j.eB)=false:=ak
      rw[e,tail,aP (show ¬((dL t.aR j.bR).dU≠0\/(dL t.aR j.bR).eB≠j.eB) from λq=>q.elim (λh=>h hl) λh=>h hv)];rfl
     ·have e:((dL t.aR j.bR).eB != j.eB)=true:=ak
      rw[e,ab,aO (.inr hv)];rfl
    ·have e:((dL t.aR j.bR).dU != 0)=true:=ak
     simp only[e,bQ];rw[ab,aO (.inl hl)];rfl
end
def YF(t:Table)(w:Int)(p:aA×aI):Table:={t with aA:=p.1,aS:=t.aS.set w.toNat p.2}
section
variable {t:Table} {w:Int} (h3:t.aS.length=3) (h2:t.aR.length=2) (hb:mP t.aA) (hw:0<=w/\w<=2) (hj:JB (aD t w))
include h3 h2 hb hw hj
theorem a8U:tN t w=some (YF t w (lC t.aA w (aD t w))):=by
 unfold tN lC YF;rw[CX h3 hw,aM,aE7 hb hw,aM];generalize aD t w=j at *;generalize gQ t.aA w j.Sub=r;cases hd:r.2.gK
 ·rfl
 ·simp only[hd,kW,bU,bS,reduceCtorEq];by_cases p0:j.Pc=0
  ·grind
  ·have e:(j.Pc == 0)=false:=ak
   simp only[e,bU,bS,aP p0];by_cases p20:j.Pc=20
   ·have e:(j.Pc == 20)=true:=ak
    simp only[e,bQ,aO p20];rfl
   grind
theorem a3M:zA t w=some (YF t w (qP t.aA w (aD t w))):=by
 obtain⟨s1,s2,s3,s4,s5⟩:=YE h3 h2 hb hw hj;have hjob:=CX h3 hw;have hk:=hj.k;have hn:=hj.new.1;unfold zA qP YF;rw[hjob,aM,aDE s2,aM];generalize hjj:aD t w=j at *;have set2:∀x y:aI,(t.aS.set w.toNat x).set w.toNat y=t.aS.set w.toNat y:=λx y=>aSR ..;have iset:∀x:aI,idx (t.aS.set w.toNat x) w=some x:=λx=>aDL ⟨hw.1,aa⟩;unfold AI;by_cases hp:fU j.aH j.aH.length<=j.K
 ·grind
 ·rw[iC hp,gJ,aP hp,hjob,aM,aE7 hb hw,aM];generalize gQ t.aA w j.Sub=r;cases hd:r.2.gK
  ·rfl
  ·have ab:iA w true {t with aA:=r.1,aS:=t.aS.set w.toNat {j with Sub:=r.2}}=some {t with aA:=r.1,aS:=t.aS.set w.toNat (nZ {j with Sub:=r.2} r.2.Code)}:=by simp_all[iA,cM,nZ]
   have go:j.gL.length<6->iA w false {t with aA:=r.1,aS:=t.aS.set w.toNat {j with Sub:=r.2}}=some {t with aA:=r.1,aS:=t.aS.set w.toNat {j with gL:=j.gL++[r.2.Out],K:=j.K+1,Sub:=yK 1 16}}:=λh6=>by simp only[iA,bU,bS,iset,aM,set2,AG,lR,AF];rw[MA,eG];rfl
   simp only[hd,kW,bU,bS,reduceCtorEq];by_cases hc:r.2.Code=0
   ·have e:(r.2.Code != 0)=false:=ak
    simp only[e,bU,bS,g8,aM];grind
   grind
theorem a8V:qZ t w=some (aUU t w (GU t.aR w (aD t w))):=by
 have hjob:=CX h3 hw;have hk:=hj.k;have hr:=hj.reads.1;unfold qZ tS GU aUU;rw[hjob,aM,aM];generalize hjj:aD t w=j at *;by_cases hp:(j.Reads.length:Int)<=j.K
 ·grind
 ·have hi:j.K.toNat<j.Reads.length:=aa
  have er:rdN j=j.Reads[j.K.toNat]:=by grind[rdN]
  have hbk:=hr j.Reads[j.K.toNat] (cY hi);rw[aP ak,aP hp,aM,gP hk.1 aa,aM,<-er];rw[<-er] at hbk;unfold tR tQ;rw[aFA h2 hbk,aM,eG];have ab:fP t w true=some {t with aS:=t.aS.set w.toNat (nZ j 7)}:=by simp_all[fP,cM,nZ]
  have go:fP t w false=some {t with aS:=t.aS.set w.toNat {j with K:=j.K+1}}:=by simp only[fP,bU,bS,hjob,aM];grind[cO]
  grind
theorem aOD{l:List Seen}(hl:l.length<=1000)(f:Seen->Bool)(g:Seen->Option Bool)(hg:∀x,g x=some (f x)):fV l g=some (l.any f):=by
 have e:g=λx=>some (f x):=funext hg;rw[e];unfold fV;rcases aFY (s:=l) (p:=f) aa with ⟨j,h,h1,h2,h3⟩|⟨h1,h3⟩
 ·rw[h3,aM,cV aa];congr 1;exact(List.any_eq_true.2 ⟨l[j],cY h,h2⟩).symm
 ·rw[h3,aM,iC aa];congr 1;refine(aSQ.2 λx hx=>?_).symm;obtain⟨i,hi,rfl⟩:=QP hx;simp[h1 i hi]
def bLP(t:Table)(w:Int)(p:List bR×aI×Bool):Table:={t with aR:=p.1,aS:=t.aS.set w.toNat p.2.1,Log:=t.Log++if p.2.2 then [⟨2,w,(aD t w).aG,0,[],[]⟩] else []}
theorem bDS(hl:t.Log.length<=1000000):CC t w=some (bLP t w (mQ t.aR w (aD t w))):=by
 obtain⟨s1,s2,s3,s4,s5⟩:=YE h3 h2 hb hw hj;have hjob:=CX h3 hw;have hk:=hj.k;have hd:=hj.held;have hwr:=hj.wr;unfold CC mQ bLP;rw[hjob,aM,aHZ (by have:=hwr.1;omega) (λx hx=>(hwr.2.1 x hx).1),aM];generalize hjj:aD t w=j at *;have set2:∀x y:aI,(t.aS.set w.toNat x).set w.toNat y=t.aS.set w.toNat y:=λx y=>aSR ..;have iset:∀x:aI,idx (t.aS.set w.toNat x) w=some x:=λx=>aDL ⟨hw.1,aa⟩;have hheld:j.bD.length<=2:=by
  match h:j.bD,hd with
  |[],_=>simp
  |[_],_=>simp
  |[_,_],_=>simp
  |x::y::z::r,⟨hm,hn⟩=>
   (simp_all;omega)
 by_cases hp:j.K<(m0 j.aH).length
 ·have hi:j.K.toNat<(m0 j.aH).length:=aa
  have er:eV j=(m0 j.aH)[j.K.toNat]:=by grind[eV]
  have hbk:0<=eV j/\eV j<=1:=by grind[NQ,cY]
  rw[aO ak,aO hp,gP hk.1 hp,aM,<-er,aFA h2 hbk,aM];have ab:iJ t w (m0 j.aH) (eV j) true=some {t with aS:=t.aS.set w.toNat (nZ j 7)}:=by simp_all[iJ,cM,nZ]
  have en:∀x:aI,x.K=j.K->x.aG=j.aG->nL t w (m0 j.aH) (eV j) (dL t.aR (eV j)) (t.aS.set w.toNat x) =
    some {t with aR:=t.aR.set (eV j).toNat {dL t.aR (eV j) with dU:=w+1},aS:=t.aS.set w.toNat (if(m0 j.aH).length<=j.K+1 then {x with K:=0,Pc:=8} else {x with K:=j.K+1}),Log:=t.Log++if(m0 j.aH).length<=j.K+1 then [⟨2,w,j.aG,0,[],[]⟩] else []}:=λx hx hs=>by
   simp only[nL,nK,tP,iset,set2,aM,hx,hs];rw[eG,eG];by_cases hq:((m0 j.aH).length:Int)<=j.K+1
   ·rw[aO ak,MA,aO hq,aO hq]
   grind
  have go:iJ t w (m0 j.aH) (eV j) false=some (if(dL t.aR (eV j)).eB=1000000 then {t with aS:=t.aS.set w.toNat (nZ j 3)} else
    {t with aR:=t.aR.set (eV j).toNat {dL t.aR (eV j) with dU:=w+1},aS:=t.aS.set w.toNat (if(m0 j.aH).length<=j.K+1 then {D4 j with K:=0,Pc:=8} else D4 j),Log:=t.Log++if(m0 j.aH).length<=j.K+1 then [⟨2,w,j.aG,0,[],[]⟩] else []}):=by
   unfold iJ;rw[gJ,aFA h2 hbk,aM];by_cases hv:(dL t.aR (eV j)).eB=1000000
   ·simp_all[cM,nZ]
   ·have e:((dL t.aR (eV j)).eB == 1000000)=false:=ak
    simp only[e,bU,bS,aP hv,hjob,aM];rw[contains_eq (by grind[maxLen]),aM];by_cases hm:eV j∈j.bD
    ·rw[cV hm,gJ];have:=en j rfl rfl;rw[show t.aS.set w.toNat j=t.aS by
      rw[<-hjj];unfold aD;rw[I4,iT (show w.toNat<t.aS.length by omega)];simp] at this
     simp_all[D4]
    ·rw[iC hm,aO an,MA];unfold DB;rw[en {j with bD:=j.bD++[eV j]} rfl rfl];unfold D4;rw[aP hm]
  have fin:∀B:Bool,iJ t w (m0 j.aH) (eV j) B=some (if B=true then {t with aS:=t.aS.set w.toNat (nZ j 7)} else if(dL t.aR (eV j)).eB=1000000 then {t with aS:=t.aS.set w.toNat (nZ j 3)} else
    {t with aR:=t.aR.set (eV j).toNat {dL t.aR (eV j) with dU:=w+1},aS:=t.aS.set w.toNat (if(m0 j.aH).length<=j.K+1 then {D4 j with K:=0,Pc:=8} else D4 j),Log:=t.Log++if(m0 j.aH).length<=j.K+1 then [⟨2,w,j.aG,0,[],[]⟩] else []}):=λB=>by
   cases B
   ·simp only[bU,bS];exact go
   ·simp only[bQ];exact ab
  have cf:fV j.Reads (λy0=>wG y0 (eV j) (dL t.aR (eV j)))=some (j.Reads.any λs=>s.bR == eV j && s.eB != (dL t.aR (eV j)).eB):=
   aOD h3 h2 hb hw ak aa _ _ λx=>by unfold wG pR;cases x.bR == eV j<;>rfl
  by_cases hl0:(dL t.aR (eV j)).dU=0
  ·have e:((dL t.aR (eV j)).dU != 0)=false:=ak
   simp only[e,bU,bS];rw[cf,aM,fin];by_cases hany:(j.Reads.any λs=>s.bR == eV j && s.eB != (dL t.aR (eV j)).eB)=true
   ·grind
   ·rw[aP hany,aP (show ¬((dL t.aR (eV j)).dU≠0\/(j.Reads.any λs=>s.bR == eV j && s.eB != (dL t.aR (eV j)).eB)=true) from λq=>q.elim (λa=>a hl0) hany)];by_cases hv:(dL t.aR (eV j)).eB=1000000
    ·rw[aO hv,aO hv];simp
    ·rw[aP hv,aP hv];by_cases hq:((m0 j.aH).length:Int)<=j.K+1
     ·simp only[aO hq];rfl
     ·simp only[aP hq];rfl
  grind
 ·rw[aP ak,aP hp];unfold nK tP;rw[hjob,aM,eK,MA,aM];rfl
end
def aX1(t:Table)(w:Int)(p:aA×List bR×aI):Table:={t with aA:=p.1,aR:=p.2.1,aS:=t.aS.set w.toNat p.2.2}
theorem aLW(hk:0<=j.K/\j.K<=100)(x:aU):oV j x=some (I1 j x):=by
 unfold oV I1;cases x.G3
 ·rfl
 ·simp only[bQ];grind[cO]
theorem a8W(hk:0<=j.K):lT j=some (G4 j):=by
 unfold lT G4;by_cases h:j.K<j.cA.length
 ·have hi:j.K.toNat<j.cA.length:=aa
  rw[aO ak,aO h,gP hk h,aM];simp only[lR,aM,rW,I4,iT hi,aFP];rfl
 grind
theorem aX2(hm:lW m)(hw:0<=w/\w<=2)(x:Int):∃c,LY m w x=some (aUT m w x,c):=by
 obtain⟨hcnt,h3,h9,h1,h2,hsm,hcp,hlo,hsG,hsO⟩:=lW.facts hm;have hbl:m.Heap.Bytes.length<=maxLen:=by grind[maxLen]
 unfold LY aUT;rw[BN hbl aa,cV hm,aM,gJ,pY,cV hw,aM];unfold CE;rw[gJ,GM hm.1.1.1 aa aa aa,aM];by_cases hl:mO m x
 ·obtain⟨m',e1,e2,_,_⟩:=aIP hm hw hl;simp_all[aDI]
 simp_all[PC]
theorem bDT{l:List O}{a b:Nat}(hab:a<=b)(hb:b<=l.length):((cT l a (l.drop b)).take (a+(l.length-b))).drop 0=l.take a++l.drop b:=by
 have h1:(l.take a).length=a:=ak
 have h2:(l.drop b).length=l.length-b:=ae
 unfold cT;rw[UM,aFO (l:=l.drop b) aa,<-o6,show a+(l.length-b)=(l.take a++l.drop b).length by grind];grind
theorem aUV{l:List Int}(h:0<l.length)(hl:l.length<=1000):pS l 0 1=some (l.drop 1):=by
 unfold pS;rw[VH,gJ,VH,VH,bZ ai,bDT ai (show Int.toNat 1<=l.length from h),bZ]
 ·rfl
 ·rw[eX ae];simp only[D6,ZS,UN,Int.toNat_zero];omega
section
variable {t:Table} {w:Int} (h3:t.aS.length=3) (h2:t.aR.length=2) (hb:mP t.aA) (hw:0<=w/\w<=2) (hj:JB (aD t w))
include h3 h2 hb hw hj
theorem a8X:zC t w=some (aX1 t w (jH t.aA t.aR (aD t w))):=by
 obtain⟨s1,s2,s3,s4,s5⟩:=YE h3 h2 hb hw hj;have hjob:=CX h3 hw;have hk:=hj.k;have hwr:=hj.wr;have hol:=hj.old.1;unfold zC AO jH aX1;rw[hjob,aM,aM];generalize hjj:aD t w=j at *;have set2:∀x y:aI,(t.aS.set w.toNat x).set w.toNat y=t.aS.set w.toNat y:=λx y=>aSR ..;have iset:∀x:aI,idx (t.aS.set w.toNat x) w=some x:=λx=>aDL ⟨hw.1,aa⟩;by_cases hp:(j.aH.length:Int)<=j.K
 ·grind
 ·have hi:j.K.toNat<j.aH.length:=aa
  have er:mR j=j.aH[j.K.toNat]:=by grind[mR]
  have hx:=hwr.2.1 j.aH[j.K.toNat] (cY hi);rw[<-er] at hx;have hbk:0<=jD (mR j).Key/\jD (mR j).Key<=1:=by unfold jD;omega
  rw[aP ak,aP hp,aM,gP hk.1 aa,aM,<-er];unfold AN;rw[QF,aM,aFA h2 hbk,aM,hjob,aM];generalize mR j=x at *;generalize hbb:jD x.Key=bi at *;have ex:(⟨x.Key,x.G3,x.dI⟩:aU)=x:=rfl;rw[ex];by_cases p9:j.Pc=9
  ·have e:(j.Pc == 9)=true:=ak
   simp only[e,bQ,aO p9];by_cases hh:(dL t.aR bi).Head=0
   ·have e:((dL t.aR bi).Head == 0)=true:=ak
    simp only[e,bQ,aO hh];grind[aLW]
   grind
  ·have e : (j.Pc == 9) = false:=ak
   simp only[e,bU,bS,aP p9];by_cases p10:j.Pc=10
   ·have e:(j.Pc == 10)=true:=ak
    simp only[e,bQ,aO p10];obtain⟨c,e⟩:=aPE hb.1.1 j.H;rw[e,aM];simp only;by_cases hkey:(V3 t.aA.Mem.Heap j.H).Key=x.Key
    ·grind
    ·have e:((V3 t.aA.Mem.Heap j.H).Key == x.Key)=false:=ak
     simp only[e,bU,bS,aP hkey,aRT,aM];by_cases hs:MD (V3 t.aA.Mem.Heap j.H)=0
     ·have e:(MD (V3 t.aA.Mem.Heap j.H) == 0)=true:=ak
      simp only[e,bQ,aO hs];grind[aLW]
     simp_all[AK]
   ·have e:(j.Pc == 10)=false:=ak
    simp only[e,bU,bS,aP p10];by_cases p11:j.Pc=11
    ·have e:(j.Pc == 11)=true:=ak
     simp only[e,bQ,aO p11];have cut:∀u:Table,u.aS=t.aS->mL w x.Key x.G3 x.dI u=some {u with aS:=t.aS.set w.toNat (I1 (J3 j) x)}:=λu hu=>by
      have hju:idx u.aS w=some j:=ak
      have last:∀v:Table,∀y:aI,idx v.aS w=some y->(0<=y.K/\y.K<=100)->mK w x.Key x.G3 x.dI v=some {v with aS:=v.aS.set w.toNat (I1 y x)}:=λv y hy hyk=>by simp_all[mK,aLW]
      unfold mL rA AL J3;rw[hju,aM,g8,aM];by_cases hh:lK j.H
      ·rw[cV hh,aO rfl];by_cases h6:j.cA.length<6
       ·rw[cV aa,aO rfl,aM,MA,last _ {j with cA:=j.cA++[j.H]} ak ak,aO ⟨hh,h6⟩];grind
       grind
      grind
     by_cases hpv:j.gR=0
     ·simp_all[aRT]
     ·have e:(j.gR == 0)=false:=ak
      simp only[e,bU,bS,aP hpv,aRT,aM];obtain⟨c,e⟩:=a3I hb.1.1 j.gR (MD j.Node);grind[AM]
    ·have e:(j.Pc == 11)=false:=ak
     simp only[e,bU,bS,aP p11];have hpn:0<=fU j.aH j.K:=by grind[fU]
     have hbs:t.aR.set bi.toNat (dL t.aR bi)=t.aR:=by grind[dL,aOK]
     unfold KG;rw[aDE s2,aM];by_cases hn:(j.gL.length:Int)<=fU j.aH j.K
     ·rw[aO ak,aO hn];simp only[cM,aM,hbs];rfl
     ·have hi2:(fU j.aH j.K).toNat<j.gL.length:=aa
      have en:GV j=j.gL[(fU j.aH j.K).toNat]:=by grind[GV]
      rw[aP ak,aP hn,gP hpn aa,<-en];by_cases p12:j.Pc=12
      ·have e:(j.Pc == 12)=true:=ak
       simp only[e,bQ,aO p12,aM];obtain⟨c,e⟩:=aX0 hb.1.1 (GV j) ⟨x.Key,x.dI,(dL t.aR bi).Head⟩;grind[DC]
      ·have e:(j.Pc == 12)=false:=ak
       simp only[e,bU,bS,aP p12,aM];grind[cO]
def a0Z(t:Table)(w:Int)(p:List bR×aI):Table:={t with aR:=p.1,aS:=t.aS.set w.toNat p.2}
theorem a3N(hk1:∀x∈t.aR,BkV x):wH t w=some (a0Z t w (wR t.aR (aD t w))):=by
 have hjob:=CX h3 hw;have hd:=hj.held;unfold wH wR a0Z;rw[hjob,aM];generalize hjj:aD t w=j at *;have hheld:j.bD.length<=2:=by
  match h:j.bD,hd with
  |[],_=>simp
  |[_],_=>simp
  |[_,_],_=>simp
  |x::y::z::r,⟨hm,hn⟩=>
   (simp_all;omega)
 by_cases hp:0<j.bD.length
 ·have er:wN j=j.bD[0]:=by grind[wN]
  have hbk:=hd.1 j.bD[0] (cY hp);rw[<-er] at hbk;have hbv:BkV (dL t.aR (wN j)):=by grind[dL]
  have hver:=hbv.2.1;rw[aO ak,aO hp,show(0:Int)=((0:Nat):Int) from rfl,aW hp,aM,<-er,aFA h2 hbk,aM];have un:∀k,lU t w k=some {t with aR:=k,aS:=t.aS.set w.toNat {j with bD:=j.bD.drop 1}}:=λk=>by grind[lU,aUV]
  by_cases p14:j.Pc=14
  ·have e:(j.Pc == 14)=true:=ak
   simp only[e,bQ,aO p14];grind[cO]
  ·have e:(j.Pc == 14)=false:=by simpa using p14
   simp only[e,bU,bS,aP p14];rw[un]
 ·rw[aP (by simpa using hp),aP hp];by_cases p16:j.Pc=16
  ·have e:(j.Pc == 16)=true:=by simpa using p16
   simp only[e,bQ,aO p16]
  ·have e:(j.Pc == 16)=false:=by simpa using p16
   simp only[e,bU,bS,aP p16];rw[a8W (j:={j with Pc:=15,K:=0}) (I3 _)];rfl
theorem aX3:wI t w=some (YF t w (wS t.aA w (aD t w))):=by
 have hjob:=CX h3 hw;have hk:=hj.k;unfold wI xR wS YF;rw[hjob,aM,aM];generalize hjj:aD t w=j at *;by_cases hp:(j.cA.length:Int)<=j.K
 ·grind
 ·rw[aP ak,aP hp,aM,aE7 hb hw,aM];generalize gQ t.aA w j.Sub=r;cases hd:r.2.gK
  ·simp
  ·simp only[hd,bQ];grind[cO,a8W]
theorem drop_eq:CF t w=some (YF t w (wT t.aA w (aD t w))):=by
 have hjob:=CX h3 hw;have hn:=hj.new;unfold CF wT YF;rw[hjob,aM];generalize hjj:aD t w=j at *;by_cases hp:j.gL.length=0
 ·grind
 ·have hp0:0<j.gL.length:=aa
  have er:j.gL.getD 0 0=j.gL[0]:=ak
  have hh:=hn.2 j.gL[0] (cY hp0);rw[<-er] at hh;rw[aP ak,aP hp,show(0:Int)=((0:Nat):Int) from rfl,aW hp0,aM,<-er,show((0:Nat):Int)=0 from rfl,aUV hp0 aa,aM,(lK.mod hh).1,VN hb.1.2.2.1,aM];by_cases hl:bD t.aA.aQ (j.gL.getD 0 0 % 32)
  ·grind
  ·rw[iC hl,aO an,aP hl];obtain⟨c,e⟩:=aX2 hb.1.1 hw (j.gL.getD 0 0);rw[e];rfl
theorem aX4(hl:t.Log.length<=1000000):tT t w=some {t with aS:=t.aS.set w.toNat cG,Log:=t.Log++[tlE w (aD t w)]}:=by
 have hjob:=CX h3 hw;unfold tT tlE;rw[hjob,aM];generalize hjj:aD t w=j at *;by_cases hc:j.Code=0
 ·have e:(j.Code == 0)=true:=ak
  simp only[e,bQ,aO hc];rw[MA];rfl
 ·have e:(j.Code == 0)=false:=ak
  simp only[e,bU,bS,aP hc];rw[MA];rfl
end
theorem a3O{b:aA}(hb:mP b)(hw:0<=w/\w<=2):∃c,CG b w=some (c,{b with aC:=(H6 b.aC w).1}):=by obtain⟨r,e1,e2,_,_⟩:=aUR hb.1.2.1 hw;rw[aO9 hb.1.2.1 hw] at e1;simp_all[CG]
section
variable {t:Table} {w:Int} (h3:t.aS.length=3) (h2:t.aR.length=2) (hb:mP t.aA) (hw:0<=w/\w<=2)
include h3 h2 hb hw
theorem bDU(hq3:t.eE.length=3)(hqv:∀q∈t.eE,q.List.length<=12/\∀b∈q.List,ZK b)(hs:0<=t.aG/\t.aG<=1000000)(hl:t.Log.length<=1000000) :
  yY t w=some (if(mF t w).length=0\/t.aG=1000000 then t else qQ t w ((mF t w).getD 0 ⟨false,[]⟩)):=by
 have hqi:w.toNat<t.eE.length:=aa
 have hq:idx t.eE w=some ⟨mF t w⟩:=by simp_all[gP,mF]
 have hqm:(⟨mF t w⟩:aN)∈t.eE:=by unfold mF;rw[I4,iT hqi];exact cY _
 have hqq:=hqv _ hqm;simp only at hqq;unfold yY;rw[hq,aM];simp only;by_cases h0:(mF t w).length=0
 ·simp_all[mH]
 ·have e:(((mF t w).length:Int) == 0)=false:=ak
  rw[aP (by rw[e];simp)];unfold mH;by_cases hm:t.aG=1000000
  ·grind
  ·have e:(t.aG == 1000000)=false:=ak
   have hp0:0<(mF t w).length:=aa
   have er:(mF t w).getD 0 ⟨false,[]⟩=(mF t w)[0]:=ak
   have hbv:=hqq.2 (mF t w)[0] (cY hp0);rw[<-er] at hbv;rw[aP (by rw[e];simp),hq,aM];simp only;have i0:idx (mF t w) 0=some ((mF t w)[0]):=aW hp0;rw[i0,aM,<-er,aP (λq=>q.elim h0 hm)];unfold K3;rw[VH,aM];generalize hbb:(mF t w).getD 0 ⟨false,[]⟩=b at *;simp only[lR,aM];unfold AD;have fin:∀x:aI,x.aG=t.aG+1->x.Batch.Collect=b.Collect->mG t w ⟨mF t w⟩ b x=some ⟨t.aA,t.aR,t.aS.set w.toNat {x with Batch:=⟨x.Batch.Collect,b.bK⟩,Reads:=[],aH:=[],fY:=[],gL:=[],bD:=[],cA:=[]},t.eE.set w.toNat ⟨(mF t w).drop 1⟩,t.Log++[⟨1,w,t.aG+1,0,b.bK,[]⟩],t.aG+1⟩:=λx hx _=>by unfold mG kY AB;rw[CX h3 hw,aM,bZ (by have:=hbv.2.1;simp;omega),aM,MA,hx,eG];rfl
   have e1:bB (t.aG+1)=t.aG+1:=eG;unfold qQ gY;cases hc:b.Collect
   ·rw[gJ,fin _ aa ak];simp only[e1,hc,bU,bS];have eb:(⟨false,b.bK⟩:Batch)=b:=by cases b;grind
    rw[eb];rfl
   ·rw[aO rfl];simp only[lR,aM];rw[fin _ aa ak];simp only[e1,hc,bQ];have eb:(⟨true,b.bK⟩:Batch)=b:=by cases b;grind
    rw[eb];rfl
end
theorem UF(t:Table)(w:Int)(p:aA×aI):yL t w ⟨p.1,t.aR,p.2,[]⟩=YF t w p:=by grind[yL,YF]
theorem a8Y(hv:TV t)(hl:t.Log.length<=1000000)(hw:0<=w/\w<=2):CH t w=some (aY t w):=by
 have h3:=hv.yO.1;have h2:=hv.bk.1;have hb:=hv.base;have hjob:=CX h3 hw;have hjv:=hv.yO.2 _ (zR h3 hw);unfold CH aY;rw[hjob,aM];cases hbusy:(aD t w).bO
 ·simp only[SQ,bQ,bU,bS];rw[bDU h3 h2 hb hw hv.todo.1 hv.todo.2 hv.ser hl];rfl
 ·have hj : JB (aD t w):=hjv.resolve_left λe=>by rw[e] at hbusy; cases hbusy
  simp only[kW,bU,bS,bQ];unfold dX;by_cases p0:(aD t w).Pc=0\/(aD t w).Pc=20\/(aD t w).Pc=21
  ·rw[aO p0,UF];have go:jQ t w (aD t w) true=some (YF t w (lC t.aA w (aD t w))):=by simp_all[jQ,a8U]
   grind
  ·rw[aP p0];have e0:((aD t w).Pc == 0)=false:=ah
   have e20:((aD t w).Pc == 20)=false:=ah
   have e21:((aD t w).Pc == 21)=false:=ah
   simp only[e0,e20,e21,bU,bS];unfold jQ;simp only[bU,bS,dN,aM];by_cases p1:(aD t w).Pc=1
   ·have e:((aD t w).Pc == 1)=true:=ak
    simp_all[YE,a8T,yL]
   ·have e : ((aD t w).Pc == 1) = false:=ak
    simp only[e,bU,bS,aP p1];by_cases p2:2<=(aD t w).Pc/\(aD t w).Pc<=5
    ·simp_all[bDR,yL,aUU]
    ·simp only[iC p2,bU,bS,aP p2];by_cases p6:(aD t w).Pc=6
     ·simp_all[a3M,UF]
     ·have e : ((aD t w).Pc == 6) = false:=ak
      simp only[e,bU,bS,aP p6];by_cases p7:(aD t w).Pc=7
      ·have e:((aD t w).Pc == 7)=true:=ak
       simp only[e,bQ,aO p7];rw[bDS h3 h2 hb hw hj hl];rfl
      ·have e : ((aD t w).Pc == 7) = false:=ak
       simp only[e,bU,bS,aP p7];by_cases p8:(aD t w).Pc=8
       ·simp_all[a8V,yL,aUU]
       ·have e : ((aD t w).Pc == 8) = false:=ak
        simp only[e,bU,bS,aP p8];by_cases p9:9<=(aD t w).Pc/\(aD t w).Pc<=13
        ·simp_all[a8X,yL,aX1]
        ·simp only[iC p9,bU,bS,aP p9];by_cases p14:(aD t w).Pc=14\/(aD t w).Pc=16
         ·rw[aO p14];have go:lA t w (aD t w) true=some (a0Z t w (wR t.aR (aD t w))):=by unfold lA;rw[aO rfl,a3N h3 h2 hb hw hj hv.bk.2];rfl
          grind[a0Z,yL]
         ·have e14:((aD t w).Pc == 14)=false:=ah
          have e16:((aD t w).Pc == 16)=false:=ah
          simp only[e14,e16,bU,bS,aP p14];unfold lA;simp only[bU,bS];by_cases p15:(aD t w).Pc=15
          ·simp_all[aX3,UF]
          ·have e:((aD t w).Pc == 15)=false:=ak
           simp only[e,bU,bS,aP p15];by_cases p17:(aD t w).Pc=17
           ·simp_all[drop_eq,UF]
           ·have e:((aD t w).Pc == 17)=false:=ak
            simp only[e,bU,bS,aP p17];by_cases p18:(aD t w).Pc=18
            ·have e:((aD t w).Pc == 18)=true:=ak
             simp only[e,bQ,aO p18];grind[a3O,yL]
            ·have e:((aD t w).Pc == 18)=false:=ak
             simp only[e,bU,bS,aP p18];by_cases p19:(aD t w).Pc=19
             ·have e:((aD t w).Pc == 19)=true:=ak
              simp only[e,bQ,aO p19];rw[aX4 h3 h2 hb hw hj hl];rfl
             simp_all[yL,cM,nZ]
def aRU(o:List aU)(x:aU):List aU:=o.takeWhile (λy=>!decide (x.Key<y.Key))++[x]++o.dropWhile (λy=>!decide (x.Key<y.Key))
theorem aPJ(y:aU)(r:List aU)(x:aU):aRU (y::r) x=if x.Key<y.Key then x::y::r else y::aRU r x:=by grind[aRU,List.takeWhile_cons,List.dropWhile_cons]
theorem aLX(o:List aU)(x z:aU):z∈aRU o x↔z=x\/z∈o:=by
 induction o with
 |nil=>simp[aRU]
 |cons y r ih=>
  grind[aPJ]
theorem aUW{o:List aU}{x:aU}(hs:o.Pairwise (λa b=>a.Key<b.Key))(hx:∀y∈o,y.Key≠x.Key):(aRU o x).Pairwise (λa b=>a.Key<b.Key):=by
 induction o with
 |nil=>simp[aRU]
 |cons y r ih=>
  grind[aPJ,aBR,aLX]
theorem a8Z{l:List aU}(h:WrV l){x:aU}(hx:(0<=x.Key/\x.Key<=99)/\(0<=x.dI/\x.dI<=65535))(hl:(vG l x).length<=6):WrV (vG l x):=by
 refine⟨hl,λy hy=>?_,?_⟩
 ·rcases(aLX _ _ _).1 (show y∈aRU _ x from hy) with rfl|hy
  ·exact hx
  ·exact h.2.1 y (V8.1 hy).1
 ·exact aUW (h.2.2.sublist aOG) λy hy=>ak
theorem a80{a b:Int}(ha:0<=a/\a<=4294967295)(hb:0<=b/\b<=65535):0<=BQ a b/\BQ a b<=65535:=by grind[BQ,cO]
section
variable {j:aI} (hj:JB j)
include hj
theorem JB.ab(c:Int):JB (nZ j c):=⟨hj.busy,hj.V5,hj.h,hj.prev,hj.bkt,hj.at_,hj.k,hj.new,hj.old,hj.reads,hj.wr,hj.held,hj.res,hj.node⟩
theorem JB.pc(p:Int):JB {j with Pc:=p}:=⟨hj.busy,hj.V5,hj.h,hj.prev,hj.bkt,hj.at_,hj.k,hj.new,hj.old,hj.reads,hj.wr,hj.held,hj.res,hj.node⟩
theorem JB.sub(s:Sub):JB {j with Sub:=s}:=⟨hj.busy,hj.V5,hj.h,hj.prev,hj.bkt,hj.at_,hj.k,hj.new,hj.old,hj.reads,hj.wr,hj.held,hj.res,hj.node⟩
theorem JB.kk{k:Int}(h:0<=k/\k<=6):JB {j with K:=k}:=⟨hj.busy,hj.V5,hj.h,hj.prev,hj.bkt,hj.at_,h,hj.new,hj.old,hj.reads,hj.wr,hj.held,hj.res,hj.node⟩
theorem JB.nd{n:gX}(h:0<=n.dI/\n.dI<=4294967295):JB {j with Node:=n}:=⟨hj.busy,hj.V5,hj.h,hj.prev,hj.bkt,hj.at_,hj.k,hj.new,hj.old,hj.reads,hj.wr,hj.held,hj.res,h⟩
theorem JB.hh(h:oK x):JB {j with H:=x}:=⟨hj.busy,hj.V5,h,hj.prev,hj.bkt,hj.at_,hj.k,hj.new,hj.old,hj.reads,hj.wr,hj.held,hj.res,hj.node⟩
theorem JB.pv(h:oK x):JB {j with gR:=x}:=⟨hj.busy,hj.V5,hj.h,h,hj.bkt,hj.at_,hj.k,hj.new,hj.old,hj.reads,hj.wr,hj.held,hj.res,hj.node⟩
theorem JB.rd2:j.Reads.length<=2:=by
 have hn:=hj.reads.2;have hm:∀x∈j.Reads.map Seen.bR,x=0\/x=1:=λx hx=>by obtain⟨s,hs,rfl⟩:=AU.1 hx;have:=hj.reads.1 s hs;omega
 have hl:(j.Reads.map Seen.bR).length<=2:=by
  match h:j.Reads.map Seen.bR,hn,hm with
  |[],_,_=>simp
  |[_],_,_=>simp
  |[_,_],_,_=>simp
  |x::y::z::r,hn,hm=>
   (simp_all;omega)
 grind
theorem JB.cmd(h:sM j):QK (cH j):=by
 have ha:=hj.at_;have hi:j.At.toNat<j.Batch.bK.length:=by grind[sM]
 unfold cH;rw[I4,iT hi];exact hj.V5.2.2.1 _ (cY hi)
theorem JB.SH(h:sM j)(is:Bool)(v:Int):JB (Gv.SH j is v):=by have h':j.At<j.Batch.bK.length:=h;have ha:=hj.at_;have hr:=hj.res;exact⟨hj.busy,hj.V5,hj.h,hj.prev,hj.bkt,⟨by show 0<=j.At+1;omega,by show j.At+1<=(j.Batch.bK.length:Int);omega⟩,hj.k,hj.new,hj.old,hj.reads,hj.wr,hj.held,by show(((j.fY++[_]).length:Nat):Int)=j.At+1;simp;omega,hj.node⟩
theorem JB.rcw{x:aU}(hx:(0<=x.Key/\x.Key<=99)/\(0<=x.dI/\x.dI<=65535)):JB (kH j x).2:=by
 unfold kH;split
 ·exact hj.ab 1
 ·exact⟨hj.busy,hj.V5,hj.h,hj.prev,hj.bkt,hj.at_,hj.k,hj.new,hj.old,hj.reads,a8Z hj.wr hx aa,hj.held,hj.res,hj.node⟩
theorem aLY(x:aU):(kH j x).2.Batch=j.Batch:=by grind[kH,nZ]
theorem JB.ans(h:sM j){c:iP}(hc:QK c){v:Int}(hv:0<=v/\v<=4294967295)(is:Bool):JB (lL j c v is):=by
 unfold lL;split
 ·have hv':0<=(if is then v else 0)/\(if is then v else 0)<=4294967295:=aa
  generalize (if is then v else 0)=u at hv';unfold SI;have hr:=hj.rcw (x:=⟨c.Key,false,BQ u c.dI⟩) ⟨hc.2.1,a80 hv' hc.2.2.1⟩;split
  ·refine hr.SH ?_ _ _;grind[sM,aLY,aE9]
  ·exact hr
 ·exact hj.SH h _ _
theorem JB.jnx:JB (oA j):=by
 unfold oA;split
 ·rename_i h;have hc:=hj.cmd h;have h':j.At<j.Batch.bK.length:=h;have ha:=hj.at_;have hr:=hj.res;split
  ·have hr':=hj.rcw (x:=⟨(cH j).Key,(cH j).Kind == 3,(cH j).dI⟩) ⟨hc.2.1,hc.2.2.1⟩;split
   ·refine⟨hr'.busy,hr'.V5,hr'.h,hr'.prev,hr'.bkt,⟨ak,?_⟩,hr'.k,hr'.new,hr'.old,hr'.reads,hr'.wr,hr'.held,ak,hr'.node⟩;grind[aLY]
   ·exact hr'
  ·split
   ·refine hj.ans h hc ?_ _;unfold OB;split
    ·rename_i x hf;have:=hj.wr.2.1 x (List.mem_of_find?_eq_some hf);grind
    simp
   ·exact⟨hj.busy,hj.V5,hj.h,hj.prev,by show 0<=jD _/\jD _<=1;unfold jD;rw[aO hc.2.1];omega,hj.at_,hj.k,hj.new,hj.old,hj.reads,hj.wr,hj.held,hj.res,hj.node⟩
 ·exact((hj.pc 6).kk (k:=0) aa).sub _
theorem JB.spt(b v:Int)(hb:0<=b/\b<=1):JB {j with Reads:=(nS j.Reads b v).1}:=by
 refine⟨hj.busy,hj.V5,hj.h,hj.prev,hj.bkt,hj.at_,hj.k,hj.new,hj.old,?_,hj.wr,hj.held,hj.res,hj.node⟩;show(∀s∈(nS j.Reads b v).1,0<=s.bR/\s.bR<=1)/\((nS j.Reads b v).1.map Seen.bR).Nodup;unfold nS;split
 ·exact hj.reads
 ·rename_i hf;refine⟨λs hs=>?_,?_⟩
  ·rcases dD.1 hs with hs|hs
   ·exact hj.reads.1 s hs
   grind
  ·rw[o7,aOI];refine⟨hj.reads.2,ae,λa ha c hc=>?_⟩;grind
theorem JB.pl(h:j.K<j.aH.length)(x:aU):JB (I1 j x):=by
 have hk:=hj.k;have hw:=hj.wr.1;unfold I1;split
 ·exact(hj.pc 9).kk (k:=j.K+1) aa
 ·exact hj.pc 12
theorem JB.bNZ:JB (J3 j):=by
 unfold J3;split
 ·rename_i h;refine⟨hj.busy,hj.V5,hj.h,hj.prev,hj.bkt,hj.at_,hj.k,hj.new,⟨ak,λx hx=>?_⟩,hj.reads,hj.wr,hj.held,hj.res,hj.node⟩;rcases dD.1 hx with hx|hx
  ·exact hj.old.2 x hx
  grind
 ·exact hj
theorem JB.rtn:JB (G4 j):=by
 unfold G4;split
 ·exact hj.sub _
 ·exact hj
end
theorem bDV{l:List Int}(h:sU l){a:Nat}(ha:a+4<=l.length):0<=ld l a 4/\ld l a 4<=4294967295:=by
 rw[ld4 ha];have b:∀k,k<l.length->0<=bt l k/\bt l k<=255:=λk hk=>by rw[<-aLK hk];exact h _ (cY hk)
 grind
theorem aUX(hm:lW m)(x:Int):0<=(V3 m.Heap x).dI/\(V3 m.Heap x).dI<=4294967295:=by
 unfold V3;split
 ·rename_i h;have hr:=(DH h.2.1 h.2.2).1;have h1:=hm.1.1.1.1;exact bDV hm.1.1.1.2.2.1 aa
 ·show(0:Int)<=0/\(0:Int)<=4294967295;omega
theorem SK(l:List aU)(n:Int):fU l n<=l.length:=by grind[fU]
theorem aRV{k:List bR}(h2:k.length=2)(hi:0<=i/\i<=1):dL k i∈k:=by grind[dL]
theorem aIS{k:List bR}(h:k.length=2/\∀x∈k,BkV x)(i:Nat){y:bR}(hy:BkV y):(k.set i y).length=2/\∀x∈k.set i y,BkV x:=
 ⟨ak,λx hx=>(o8 hx).elim (h.2 x) λe=>e ▸ hy⟩
theorem bIT{b:aA}(hb:mP b)(hw:0<=w/\w<=2)(hx:lK x)(hn:¬bD b.aQ (x % 32)):mP {b with Mem:=aUT b.Mem w x}:=by
 unfold aUT;by_cases hl:mO b.Mem x
 ·obtain⟨m',e1,e2,_,h⟩:=aIP hb.1.1 hw hl;rw[aDI hb.1.1 hw hl] at e1;injection e1 with e1
  rw[aO hl,e1];refine⟨⟨h.1,hb.1.2⟩,λr hr=>⟨h.live (hb.2 r hr).1 ?_,(hb.2 r hr).2⟩⟩;intro e;exact hn ⟨r,hr,(hb.2 r hr).1.1,e⟩
 simp_all
structure TRV (r:TR):Prop where
 b:mP r.b
 k:r.k.length=2/\∀x∈r.k,BkV x
 j:r.j=cG\/JB r.j
theorem aH3{c:Prop}[Decidable c]{a b:TR}(h1:c->TRV a)(h2:¬c->TRV b):TRV (if c then a else b):=ak
theorem bIU{b:aA}{k:List bR}(hb:mP b)(hk:k.length=2/\∀x∈k,BkV x)(hw:0<=w/\w<=2)(hj:JB j):TRV (dX b k w j):=by
 have hkk:=hj.k;have hwr:=hj.wr;have hrd:=hj.rd2;have hbs:=bDO hb hw j.Sub;have bkv:∀{i},0<=i/\i<=1->BkV (dL k i):=λhi=>hk.2 _ (aRV hk.1 hi);unfold dX;refine aH3 (λ_=>?_) λ_=>?_
 ·refine⟨hbs,hk,.inr ?_⟩;unfold lC;split
  ·exact hj.sub _
  ·split
   ·exact(hj.pc 1).sub _
   ·split
    ·exact(hj.pc 21).sub _
    ·exact(hj.pc 19).sub _
 refine aH3 (λ_=>?_) λ_=>?_
 ·exact⟨hb,hk,.inr hj.jnx⟩
 refine aH3 (λ_=>?_) λ_=>?_
 ·refine⟨hb,hk,.inr ?_⟩;unfold iB;have hbk:=bkv hj.bkt;split
  ·split
   ·exact hj.ab _
   ·have h1:JB {j with eB:=(dL k j.bR).eB}:=⟨hj.busy,hj.V5,hj.h,hj.prev,hj.bkt,hj.at_,hj.k,hj.new,hj.old,hj.reads,hj.wr,hj.held,hj.res,hj.node⟩;have h2:JB {j with eB:=(dL k j.bR).eB,Found:=false}:=⟨hj.busy,hj.V5,hj.h,hj.prev,hj.bkt,hj.at_,hj.k,hj.new,hj.old,hj.reads,hj.wr,hj.held,hj.res,hj.node⟩;exact((h2.hh hbk.1).nd (n:=aPD) (by show(0:Int)<=0/\(0:Int)<=4294967295;omega)).pc _
  ·split
   ·exact(hj.nd (aUX hb.1.1 _)).pc _
   ·split
    ·split
     ·exact hj.ab _
     ·split
      ·have h1:JB {j with Found:=j.Node.Key == (cH j).Key}:=⟨hj.busy,hj.V5,hj.h,hj.prev,hj.bkt,hj.at_,hj.k,hj.new,hj.old,hj.reads,hj.wr,hj.held,hj.res,hj.node⟩;exact(h1.hh (aE6 _)).pc _
      ·exact hj.ab _
    ·split
     ·exact hj.ab _
     ·have hs:=hj.spt j.bR j.eB hj.bkt;split
      ·exact hs.ab _
      ·split
       ·rename_i h;exact hs.ans h (hj.cmd h) hj.node _
       ·exact hs.ab _
 refine aH3 (λ_=>?_) λ_=>?_
 ·unfold qP;split
  ·exact⟨hb,hk,.inr ((hj.pc 7).kk (k:=0) aa)⟩
  ·rename_i hp;have:=SK j.aH j.aH.length;have:=hwr.1;refine⟨hbs,hk,.inr ?_⟩;simp only;split
   ·exact hj.sub _
   ·split
    ·exact(hj.sub _).ab _
    ·rename_i hq;have q1:lK (gQ b w j.Sub).2.Out:=Classical.byContradiction λq=>hq (.inr (.inl q));have q2:j.gL.length<6:=aa
     refine⟨hj.busy,hj.V5,hj.h,hj.prev,hj.bkt,hj.at_,⟨ak,ak⟩,⟨ak,λx hx=>?_⟩,hj.old,hj.reads,hj.wr,hj.held,hj.res,hj.node⟩;rcases dD.1 hx with hx|hx
     ·exact hj.new.2 x hx
     grind
 refine aH3 (λ_=>?_) λ_=>?_
 ·have ht:=aRM j.aH;unfold mQ;split
  ·rename_i hp;have hi:j.K.toNat<(m0 j.aH).length:=aa
   have er:eV j=(m0 j.aH)[j.K.toNat]:=by grind[eV]
   have hbk:0<=eV j/\eV j<=1:=by grind[NQ,cY]
   have hbv:=bkv hbk;have hset:=aIS hk (eV j).toNat (y:={dL k (eV j) with dU:=w+1}) ⟨hbv.1,hbv.2.1,ak⟩;have hlh:JB (D4 j):=by
    refine⟨hj.busy,hj.V5,hj.h,hj.prev,hj.bkt,hj.at_,⟨by show 0<=j.K+1;omega,by show j.K+1<=6;omega⟩,hj.new,hj.old,hj.reads,hj.wr,?_,hj.res,hj.node⟩;show(∀x∈(if eV j∈j.bD then j.bD else j.bD++[eV j]),0<=x/\x<=1)/\(if eV j∈j.bD then j.bD else j.bD++[eV j]).Nodup;split
    ·exact hj.held
    ·rename_i hm;refine⟨λx hx=>?_,?_⟩
     ·rcases dD.1 hx with hx|hx
      ·exact hj.held.1 x hx
      grind
     ·rw[aOI];exact⟨hj.held.2,ae,λa ha c hc e=>ak⟩
   split
   ·exact⟨hb,hk,.inr (hj.ab _)⟩
   ·split
    ·exact⟨hb,hk,.inr (hj.ab _)⟩
    ·split
     ·exact⟨hb,hset,.inr ((hlh.pc 8).kk (k:=0) aa)⟩
     ·exact⟨hb,hset,.inr hlh⟩
  ·exact⟨hb,hk,.inr ((hj.pc 8).kk (k:=0) aa)⟩
 refine aH3 (λ_=>?_) λ_=>?_
 ·refine⟨hb,hk,.inr ?_⟩;unfold GU;split
  ·exact(hj.pc 9).kk (k:=0) aa
  ·split
   ·exact hj.ab _
   ·exact hj.kk (k:=j.K+1) aa
 refine aH3 (λ_=>?_) λ_=>?_
 ·have hwl:=hwr.1;unfold jH;split
  ·exact⟨hb,hk,.inr (hj.pc 14)⟩
  ·rename_i hp;have hi:j.K.toNat<j.aH.length:=aa
   have er:mR j=j.aH[j.K.toNat]:=by grind[mR]
   have hx:=hwr.2.1 j.aH[j.K.toNat] (cY hi);rw[<-er] at hx;have hbk:0<=jD (mR j).Key/\jD (mR j).Key<=1:=by unfold jD;omega
   have hbv:=bkv hbk;have l0:oK 0:=.inl rfl;split
   ·have h1:=((hj.pc 10).hh hbv.1).pv l0;refine⟨hb,hk,.inr ?_⟩;simp only;split
    ·exact h1.pl ak _
    ·exact h1
   ·split
    ·have h1:=hj.nd (aUX hb.1.1 j.H);refine⟨hb,hk,.inr ?_⟩;simp only;split
     ·exact h1.pc 11
     ·split
      ·exact h1.pl ak _
      ·exact(h1.hh (aE6 _)).pv hj.h
    ·split
     ·have h1:=hj.bNZ;have hkl:(J3 j).K<(J3 j).aH.length:=by grind[J3]
      split
      ·exact⟨hb,aIS hk _ ⟨aE6 _,hbv.2⟩,.inr (h1.pl hkl _)⟩
      ·exact⟨hb.mem (a8P hb.1.1 _ _),hk,.inr (h1.pl hkl _)⟩
     ·split
      ·exact⟨hb,hk,.inr (hj.ab _)⟩
      ·rename_i hn;have hpn:0<=fU j.aH j.K:=by grind[fU]
       have hi2:(fU j.aH j.K).toNat<j.gL.length:=aa
       have en:GV j=j.gL[(fU j.aH j.K).toNat]:=by grind[GV]
       have hnew:lK (GV j):=by rw[en];exact hj.new.2 _ (cY hi2)
       split
       ·exact⟨hb.mem (a8O hb.1.1 _ _),hk,.inr (hj.pc 13)⟩
       ·exact⟨hb,aIS hk _ ⟨.inr hnew,hbv.2⟩,.inr ((hj.pc 9).kk (k:=j.K+1) aa)⟩
 refine aH3 (λ_=>?_) λ_=>?_
 ·unfold wR;split
  ·rename_i hp;have er:wN j=j.bD[0]:=by grind[wN]
   have hbk:=hj.held.1 j.bD[0] (cY hp);rw[<-er] at hbk;have hbv:=bkv hbk;have hver:=hbv.2.1;refine⟨hb,aIS hk _ ?_,.inr ⟨hj.busy,hj.V5,hj.h,hj.prev,hj.bkt,hj.at_,hj.k,hj.new,hj.old,hj.reads,hj.wr,⟨λx hx=>hj.held.1 x (QQ hx),hj.held.2.sublist (List.drop_sublist _ _)⟩,hj.res,hj.node⟩⟩;split
   ·refine⟨hbv.1,?_,ae⟩;grind
   ·exact⟨hbv.1,hbv.2.1,ae⟩
  ·split
   ·exact⟨hb,hk,.inr (hj.pc 17)⟩
   ·exact⟨hb,hk,.inr (((hj.pc 15).kk (k:=0) aa).rtn)⟩
 refine aH3 (λ_=>?_) λ_=>?_
 ·have hol:=hj.old.1;unfold wS;split
  ·exact⟨hb,hk,.inr (hj.pc 18)⟩
  ·refine⟨hbs,hk,.inr ?_⟩;simp only;split
   ·exact((hj.kk (k:=j.K+1) aa).sub _).rtn
   ·exact hj.sub _
 refine aH3 (λ_=>?_) λ_=>?_
 ·unfold wT;split
  ·exact⟨hb,hk,.inr (hj.pc 18)⟩
  ·rename_i hp;have hp0:0<j.gL.length:=aa
   have er:j.gL.getD 0 0=j.gL[0]:=ak
   have hh:=hj.new.2 j.gL[0] (cY hp0);rw[<-er] at hh;refine⟨?_,hk,.inr ⟨hj.busy,hj.V5,hj.h,hj.prev,hj.bkt,hj.at_,hj.k,⟨by show(j.gL.drop 1).length<=6;have:=hj.new.1;simp;omega,λx hx=>hj.new.2 x (QQ hx)⟩,hj.old,hj.reads,hj.wr,hj.held,hj.res,hj.node⟩⟩;grind[bIT]
 refine aH3 (λ_=>?_) λ_=>?_
 ·obtain⟨r,e1,e2,h1,h2⟩:=aUR hb.1.2.1 hw;rw[aO9 hb.1.2.1 hw] at e1;injection e1 with e1
  refine⟨hb.clock ak ak,hk,.inr (hj.pc 19)⟩
 refine aH3 (λ_=>?_) λ_=>?_
 ·exact⟨hb,hk,.inl rfl⟩
 ·exact⟨hb,hk,.inr (hj.ab 1)⟩
theorem a81{b:Batch}(hb:ZK b)(s:Int):JB (gY b s):=
 ⟨rfl,hb,.inl rfl,.inl rfl,by simp[gY],by simp[gY],by simp[gY],by simp[gY],by simp[gY],by simp[gY],⟨by simp[gY],by simp[gY],by simp[gY]⟩,by simp[gY],by simp[gY],by show(0:Int)<=0/\(0:Int)<=4294967295;omega⟩
theorem TV.step(hv:TV t)(hw:0<=w/\w<=2):TV (aY t w):=by
 have hjv:=hv.yO.2 _ (zR hv.yO.1 hw);have setj:∀{x:aI},(x=cG\/JB x)->(t.aS.set w.toNat x).length=3/\∀j∈t.aS.set w.toNat x,j=cG\/JB j:=λhx=>
  ⟨by simpa using hv.yO.1,λj hj=>(o8 hj).elim (hv.yO.2 j) λe=>e ▸ hx⟩
 unfold aY;split
 ·rename_i hbusy;have hj:JB (aD t w):=hjv.resolve_left λe=>by rw[e] at hbusy;cases hbusy
  have h:=bIU hv.base hv.bk hw hj;exact⟨h.b,h.k,setj h.j,hv.todo,hv.ser⟩
 ·split
  ·exact hv
  ·rename_i hq;have hqi:w.toNat<t.eE.length:=by have:=hv.todo.1;omega
   have hqm:(⟨mF t w⟩:aN)∈t.eE:=by unfold mF;rw[I4,iT hqi];exact cY _
   have hqq:(mF t w).length<=12/\∀b∈mF t w,ZK b:=hv.todo.2 _ hqm;have hp0:0<(mF t w).length:=aa
   have er:(mF t w).getD 0 ⟨false,[]⟩=(mF t w)[0]:=ak
   have hbv:=hqq.2 (mF t w)[0] (cY hp0);rw[<-er] at hbv;have hs:=hv.ser;have hsn:t.aG≠1000000:=λe=>hq (.inr e);unfold qQ;refine⟨hv.base,hv.bk,setj (.inr (a81 hbv _)),⟨by simpa using hv.todo.1,λq hq'=>?_⟩,⟨ak,ak⟩⟩;rcases o8 hq' with h|h
   ·exact hv.todo.2 q h
   ·subst h;exact⟨ak,λb hb=>hqq.2 b (QQ hb)⟩
theorem aLZ(c:iP):MV c=some (decide (QK c)):=by
 unfold MV IB IA;simp only[fH,aM];by_cases h1:1<=c.Kind/\c.Kind<=4
 ·by_cases h2:0<=c.Key/\c.Key<=99
  ·simp only[cV h1,cV h2,kW,bU,bS];have dv:(c.Kind=2\/c.Kind=4)->decide (0<=c.dI/\c.dI<=65535)=decide (QK c):=λk=>by rw[I2,decide_eq_true_eq,decide_eq_true_eq];exact⟨λh=>⟨h1,h2,h,aa⟩,λh=>h.2.2.1⟩
   by_cases k2:c.Kind=2
   ·grind
   ·have e:(c.Kind == 2)=false:=ak
    by_cases k4:c.Kind=4
    ·grind
    ·have e4:(c.Kind == 4)=false:=ak
     simp only[e,e4,bU,bS];congr 1;rw[I2,beq_iff_eq,decide_eq_true_eq];constructor
     ·intro h;exact⟨h1,h2,aa,.inr (.inr h)⟩
     ·rintro⟨_,_,_,h|h|h⟩<;>omega
  simp_all[iC,QK]
 ·simp only[iC h1,SQ,bQ];grind[QK]
theorem aX5(c:iP):TA c=some (decide (QK c)):=by
 have key:∀B:Bool,vL c B=some (decide ((1<=c.Kind/\c.Kind<=4)/\(0<=c.Key/\c.Key<=99)/\((B=true/\(0<=c.dI/\c.dI<=65535))\/c.dI=0))):=λB=>by unfold vL qE;simp only[dN,aM];grind
 unfold TA;have fin:∀B:Bool,(B=true↔c.Kind=2\/c.Kind=4)->vL c B=some (decide (QK c)):=λB hB=>by rw[key];congr 1;rw[I2,decide_eq_true_eq,decide_eq_true_eq];grind[QK]
 grind
theorem aX6{b:Batch}(hl:b.bK.length<=1000):LG b=some (decide (ZK b)):=by
 unfold LG;cases hc:b.Collect
 ·rw[gJ];have hs:∀k (hk:k<b.bK.length),oQ b (k:Int)=if QK b.bK[k] then some (.next ((k+1:Nat):Int)) else some (.stop (Out.ret false)):=λk hk=>by simp only[oQ];rw[eK,aW hk,aM,aLZ,aM,eG];simp
  have key:loop (oQ b) 0=_:=MJ (f:=oQ b) b.bK (λk=>(k:Int)) QK (Out.brk ()) (Out.ret false) (λk hk hp=>ak) (λk hk hp=>ak) (by simp[oQ]);rw[key];by_cases q:∀x∈b.bK,QK x
  ·rw[aO q];simp only[aM,UU,UT,fH];congr 1;rw[I2,decide_eq_true_eq,decide_eq_true_eq];exact⟨λa=>⟨λh=>ak,aa,q,λ_=>aa⟩,λa=>by have:=a.2.2.2 hc;have:=a.2.1;omega⟩
  ·rw[aP q,iC (show ¬ZK b from λa=>q a.2.2.1)];rfl
 ·rw[aO rfl];congr 1;rw[I2,beq_iff_eq,decide_eq_true_eq];constructor
  ·intro h;have h0:b.bK=[]:=uI aa;exact⟨λ_=>h0,aa,ak,λh=>ak⟩
  ·intro h;rw[h.1 hc];rfl
def BsV(l:List Batch):Prop:=∀b∈l,ZK b
instance (l:List Batch):Decidable (BsV l):=by unfold BsV;infer_instance
theorem aX7{l:List aN}(hl:l.length<=1000)(hb:∀q∈l,∀b∈q.List,b.bK.length<=1000):LH l=some (decide (SJ l)):=by
 unfold LH;have inner:∀k (hk:k<l.length),l[k].List.length<=12->loop (oR l (k:Int)) 0=some (if BsV l[k].List then Out.brk () else Out.ret false):=by
  intro k hk h12;have hs:∀j (hj:j<l[k].List.length),oR l (k:Int) (j:Int)=if ZK l[k].List[j] then some (.next ((j+1:Nat):Int)) else some (.stop (Out.ret false)):=by intro j hj;simp only[oR];rw[aW hk,aM,eK,aM,aW hj,aM,aX6 (hb _ (cY hk) _ (cY hj)),aM,eG];simp
  have:=MJ (f:=oR l (k:Int)) l[k].List (λj=>(j:Int)) ZK (Out.brk ()) (Out.ret false) (λj hj hp=>ak) (λj hj hp=>ak) (by
   simp_all[oR,aW])
  refine Eq.trans this ?_;congr 1
 have hs:∀k (hk:k<l.length),oS l (k:Int)=if QuV l[k] then some (.next ((k+1:Nat):Int)) else some (.stop (Out.ret false)):=by
  intro k hk;simp only[oS];rw[eK,aW hk,aM];by_cases h12:l[k].List.length<=12
  ·rw[aHS,inner k hk h12];by_cases q:BsV l[k].List
   ·rw[aO q,aO (show QuV l[k] from⟨h12,q⟩)];simp only[aM,UY,UX];grind[cO]
   ·rw[aP q,aP (show ¬QuV l[k] from λa=>q a.2)];rfl
  ·rw[eK,aP (show ¬QuV l[k] from λa=>h12 a.1)]
 have key:loop (oS l) 0=_:=MJ (f:=oS l) l (λk=>(k:Int)) QuV (Out.brk ()) (Out.ret false) (λk hk hp=>ak) (λk hk hp=>ak) (by simp[oS]);rw[key];by_cases q:∀x∈l,QuV x
 ·rw[aO q];simp only[aM,UZ,UW];congr 1;rw[I2];simp only[beq_iff_eq,decide_eq_true_eq];exact⟨λa=>⟨aa,q⟩,λa=>by have:=a.1;omega⟩
 ·rw[aP q,iC (show ¬SJ l from λa=>q a.2)];rfl
theorem ML{l:List O}{f:Int->Option (Step Int (Out Unit Int))}{p:O->Bool}{m:(Out Unit Int)->Option Int}(hl:l.length<=4611686018427387904)
  (hf:∀k:Nat,f (k:Int)=if h:k<l.length then(if p l[k] then some (.stop (Out.ret (k:Int))) else some (.next ((k+1:Nat):Int))) else some (.stop (Out.brk ()))) (m1:∀r,m (.ret r)=some r) (m2:m (.brk ())=some (-1)) :
  ((loop f 0).bind m).bind (λx1=>some (decide (0<=x1)))=some (l.any p):=by
 rcases XY (f:=f) (p:=p) hl hf l.length 0 aa with ⟨j,h,_,h2,h3,h4⟩|⟨h1,h2⟩
 ·rw[show(0:Int)=((0:Nat):Int) from rfl,h4,aM,m1,aM,cV aa];grind
 ·rw[show(0:Int)=((0:Nat):Int) from rfl,h2,aM,m2,aM,iC aa];congr 1;refine(aSQ.2 λx hx=>?_).symm;obtain⟨i,hi,rfl⟩:=QP hx;grind
theorem aRW{l:List iP}(hl:l.length<=1000){f:iP->Bool}{g:iP->Option Bool}(hg:∀x∈l,g x=some (f x)):rI l g=some (l.any f):=
 ML (f:=rH l g) (m:=DN) aa (λk=>by
  simp only[rH];by_cases h:k<l.length
  ·rw[dif_pos h,eK,aW h,aM,hg _ (cY h),aM,eG];rfl
  grind) (λ_=>rfl) rfl
theorem aL0{l:List Batch}(hl:l.length<=1000){f:Batch->Bool}{g:Batch->Option Bool}(hg:∀x∈l,g x=some (f x)):oG l g=some (l.any f):=
 ML (f:=oF l g) (m:=zV) aa (λk=>by
  simp only[oF];by_cases h:k<l.length
  ·rw[dif_pos h,eK,aW h,aM,hg _ (cY h),aM,eG];rfl
  grind) (λ_=>rfl) rfl
theorem VO{l:List aN}(hl:l.length<=1000){f:aN->Bool}{g:aN->Option Bool}(hg:∀x∈l,g x=some (f x)):j7 l g=some (l.any f):=
 ML (f:=nH l g) (m:=xC) aa (λk=>by
  simp only[nH];by_cases h:k<l.length
  ·rw[dif_pos h,eK,aW h,aM,hg _ (cY h),aM,eG];rfl
  grind) (λ_=>rfl) rfl
theorem aRX{l:List O}{P:O->Prop}[DecidablePred P]:(!(l.any λx=>!decide (P x)))=decide (∀x∈l,P x):=ak
theorem aL1{b:Batch}(hl:b.bK.length<=1000):E1 b=some (decide (ZK b)):=by
 unfold E1;cases hc:b.Collect
 ·rw[gJ,dN,aM];by_cases h:1<=(b.bK.length:Int)/\(b.bK.length:Int)<=6
  ·rw[cV h,aO rfl,aRW hl (f:=λx=>!decide (QK x)) (λx _=>by grind[MX,aX5]),aM,aRX];unfold uL;congr 1;rw[I2,decide_eq_true_eq,decide_eq_true_eq];exact⟨λa=>⟨λh=>ak,aa,a,λ_=>aa⟩,λa=>a.2.2.1⟩
  ·rw[iC h,gJ];grind[uL,ZK]
 ·rw[aO rfl];congr 1;rw[I2,beq_iff_eq,decide_eq_true_eq];constructor
  ·intro h;have h0:b.bK=[]:=uI aa;exact⟨λ_=>h0,aa,ak,λh=>ak⟩
  ·intro h;rw[h.1 hc];rfl
theorem aL2{l:List aN}(hl:l.length<=1000)(hq:∀q∈l,q.List.length<=1000)(hb:∀q∈l,∀b∈q.List,b.bK.length<=1000):E3 l=some (decide (SJ l)):=by
 have e1:∀q∈l,E2 q=some (!decide (QuV q)):=λq hm=>by
  unfold E2 wD;by_cases h:q.List.length<=12
  ·rw[aHS,aL0 (hq q hm) (f:=λx=>!decide (ZK x)) (λx hx=>by grind[HM,aL1]),aM];congr 1;rw[<-Bool.not_not ((q.List.any λx=>!decide (ZK x))),aRX];congr 1;rw[I2,decide_eq_true_eq,decide_eq_true_eq];exact⟨λa=>⟨h,a⟩,λa=>a.2⟩
  ·rw[eK,iC (show ¬QuV q from λa=>h a.1)];rfl
 unfold E3 BV;by_cases h:l.length=3
 ·rw[eK,VO hl e1,aM,aRX];congr 1;rw[I2,decide_eq_true_eq,decide_eq_true_eq];exact⟨λa=>⟨h,a⟩,λa=>a.2⟩
 ·rw[aHS,iC (show ¬SJ l from λa=>h a.1)]
theorem aRY{b:Batch}(h:b.bK.length<=1000):IC b=some b/\xA b=some b:=by unfold IC xA S9 kY;rw[MA];simp
theorem aL3{l:List aN}(hl:l.length<=1000)(hq:∀q∈l,q.List.length<=1000)(hb:∀q∈l,∀b∈q.List,b.bK.length<=1000):EK l=some l/\xB l=some l:=by
 constructor
 ·unfold EK;rw[aLH l]
  ·rfl
  ·intro k hk;have h1:=hq _ (cY hk);simp only[EJ];rw[eK,Y0 l[k].List]
   ·simp only[aM,OO,ON];rw[MA,eG];rfl
   ·intro i hi;simp only[EI,EH];rw[aW hk,aM,eK,aM,aW hi,aM,(aRY (hb _ (cY hk) _ (cY hi))).1,aM,MA,eG];rfl
   simp_all[EI,aW]
  grind[EJ]
 ·unfold xB;rw[aLH l]
  ·rfl
  ·intro k hk;have h1:=hq _ (cY hk);simp only[EO];rw[eK,aW hk,aM,Y0 l[k].List]
   ·simp only[aM,OS,OR];rw[MA,eG];rfl
   ·intro i hi;simp only[EN,EM];rw[eK,aW hi,aM,(aRY (hb _ (cY hk) _ (cY hi))).2,aM,MA,eG];rfl
   grind[EN]
  grind[EO]
def a00:Table:=⟨⟨⟨⟨[],[]⟩,⟨[],[]⟩⟩,⟨0,[]⟩,[],[]⟩,[],[],[],[],0⟩
def cC(t:List aN):Table:=⟨a0X,List.replicate 2 ⟨0,0,0⟩,List.replicate 3 cG,t,[],0⟩
theorem aF2{t:List aN}(hl:t.length<=1000)(hq:∀q∈t,q.List.length<=1000)(hb:∀q∈t,∀b∈q.List,b.bK.length<=1000):ID t=some (if SJ t then cC t else a00)/\IV t=some (if SJ t then cC t else a00):=by
 unfold ID IV;rw[aX7 hl hb,aL2 hl hq hb];simp only[aM];by_cases h:SJ t
 ·simp only[cV h,kW,bU,bS,aO h,aLT.1,aLT.2,aM,(aL3 hl hq hb).1,(aL3 hl hq hb).2];rw[VH,VH];exact⟨rfl,rfl⟩
 ·simp only[iC h,SQ,bQ,aP h];exact⟨rfl,rfl⟩
theorem aPK{t:List aN}(h:SJ t):TV (cC t):=
 ⟨a8Q,⟨rfl,λx hx=>by simp[cC] at hx;subst hx;exact⟨.inl rfl,ae,ae⟩⟩,⟨rfl,λj hj=>by grind[cC]⟩,h,by show(0:Int)<=0/\(0:Int)<=1000000;omega⟩
def VQ(t:Table)(p:Int):Table:=if 0<=p/\p<=2 then aY t p else t
def K9(t:Table)(l:List Int):Table:=l.foldl VQ t
theorem dM{P:TR->Prop}{c:Prop}[Decidable c]{a b:TR}(h1:c->P a)(h2:¬c->P b):P (if c then a else b):=ak
theorem bDW(b:aA)(k:List bR)(w:Int)(j:aI):(dX b k w j).l.length<=1:=by unfold dX;refine dM (P:=λr=>r.l.length<=1) (λ_=>jK _) λ_=>dM (P:=λr=>r.l.length<=1) (λ_=>jK _) λ_=>dM (P:=λr=>r.l.length<=1) (λ_=>jK _) λ_=>dM (P:=λr=>r.l.length<=1) (λ_=>jK _) λ_=>dM (P:=λr=>r.l.length<=1) (λ_=>?_) λ_=>dM (P:=λr=>r.l.length<=1) (λ_=>jK _) λ_=>dM (P:=λr=>r.l.length<=1) (λ_=>jK _) λ_=>dM (P:=λr=>r.l.length<=1) (λ_=>jK _) λ_=>dM (P:=λr=>r.l.length<=1) (λ_=>jK _) λ_=>dM (P:=λr=>r.l.length<=1) (λ_=>jK _) λ_=>dM (P:=λr=>r.l.length<=1) (λ_=>jK _) λ_=>dM (P:=λr=>r.l.length<=1) (λ_=>iU _) λ_=>jK _;grind
theorem aFB(t:Table)(p:Int):(VQ t p).Log.length<=t.Log.length+1:=by
 unfold VQ aY;split
 ·split
  ·have:=bDW t.aA t.aR p (aD t p);show(t.Log++_).length<=_;grind
  ·split
   ·omega
   ·show(t.Log++_).length<=_;simp
 ·omega
theorem a82(h:TV t)(p:Int):TV (VQ t p):=by
 unfold VQ;split
 ·exact h.step (by assumption)
 ·exact h
theorem aL4{P:Table->Prop}(hs:∀t w,TV t->(0<=w/\w<=2)->P t->P (aY t w)):∀(l:List Int) {t:Table},TV t->P t->TV (K9 t l)/\P (K9 t l)
 |[],t,h,hp=>⟨h,hp⟩
 |p::l,t,h,hp=>aL4 hs l (a82 h p) (by grind[VQ])
def QuS(m:Int)(q:aN):Prop:=(q.List.length:Int)<=m/\∀x∈q.List,x.bK.length<=1000
section
variable {b:List UInt8} {i h:Int} (hc:Cu b i)
include hc
def bDX(l:List aN):Prop:=l.length<=3/\∀q∈l,QuS 100 q
theorem bDY{m:Int}(hm:m<=100):DI (H9 ⟨b,i,h⟩ m) (λx=>x.1.length<=4000/\Cu b x.2.1):=by
 unfold H9;refine .bind (below hc aa) λx1 ⟨hx1,h1⟩=>?_;refine .bind (P:=λx=>x.1.length<=4000/\Cu b x.2.1) (.loop (λs=>s.2.1.toNat) (λs=>(0<=s.2.1/\s.1.length+8*s.2.1<=4000)/\Cu b s.2.2.1) ⟨⟨hx1.1,ah⟩,h1⟩ ?_) λx hx=>.ret hx;rintro⟨l,n,i1,h1⟩ ⟨⟨n0,n1⟩,hi1⟩;simp only at n0 n1 hi1;simp only[RK];refine .ite (λq=>?_) (λq=>?_)
 ·have q':=of_decide_eq_true q;refine .bind (below hi1 aa) λx13 ⟨_,h13⟩=>.bind (below h13 aa) λx14 ⟨hx14,h14⟩=>?_;rw[eG];refine .bind (P:=λx=>(x.length:Int)<=l.length+8) (.loop (λs=>s.2.toNat) (λs=>0<=s.2/\(s.1.length:Int)+s.2<=l.length+8) ⟨aa,ak⟩ ?_) ?_
  ·rintro⟨r,k⟩ ⟨k0,k1⟩;simp only at k0 k1;simp only[RI];refine .ite (λq=>?_) (λq=>?_)
   ·have q2:=of_decide_eq_true q;refine .need ah (.ret ?_);grind[cO]
   ·exact .ret aa
  ·intro r hr;simp only[RJ,RH];refine .ret ?_;grind[cO]
 ·exact .ret ⟨ak,hi1⟩
end
theorem bDX.fit{l:List aN}(h:bDX l):l.length<=1000/\(∀q∈l,q.List.length<=1000)/\∀q∈l,∀b∈q.List,b.bK.length<=1000:=
 ⟨by have:=h.1;omega,λq hq=>by have:=(h.2 q hq).1;omega,λq hq=>(h.2 q hq).2⟩
theorem a3P{x:LC}(hx:bDX x.eE):OQ x=some (decide (SJ x.eE)):=by
 obtain⟨h1,h2,h3⟩:=hx.fit;unfold OQ;rw[(aF2 h1 h2 h3).1,aM];by_cases h:SJ x.eE
 ·rw[aO h,cV h];rfl
 ·rw[aP h,iC h];rfl
def qR(p:Int):Prop:=(7<=p/\p<=14)\/p=16
structure YG (k:List bR) (w:Int) (j:aI):Prop where
 iff:∀b,0<=b/\b<=1->(b∈j.bD↔(dL k b).dU=w+1)
 pc:j.bD≠[]->qR j.Pc
def aX8(k k':List bR)(w:Int):Prop:=∀b,0<=b/\b<=1->(dL k' b).dU=(dL k b).dU\/((dL k b).dU=0/\(dL k' b).dU=w+1)\/((dL k b).dU=w+1/\(dL k' b).dU=0)
theorem qC{k:List bR}{b:Int}{y:bR}(h2:k.length=2)(hi:0<=i/\i<=1)(hb:0<=b/\b<=1):dL (k.set i.toNat y) b=if b=i then y else dL k b:=by unfold dL;grind
def LkR(k:List bR)(w:Int)(r:TR):Prop:=YG r.k w r.j/\aX8 k r.k w
section
variable {k:List bR} {w:Int} {j:aI} (h:YG k w j)
include h
theorem YG.same{j':aI}(e:j'.bD=j.bD)(hp:j.bD≠[]->qR j'.Pc):YG k w j':=⟨λb hb=>by rw[e];exact h.iff b hb,λq=>hp ak⟩
theorem YG.none(hp:¬qR j.Pc):j.bD=[]:=Classical.byContradiction λq=>hp (h.pc q)
end
theorem g9(k:List bR)(w:Int):aX8 k k w:=λ_ _=>.inl rfl
theorem aUY(j:aI)(x:aU):(kH j x).2.bD=j.bD:=by grind[kH,nZ]
theorem aUZ(j:aI)(c:iP)(v:Int)(is:Bool):(lL j c v is).bD=j.bD:=by
 unfold lL;split
 ·generalize (if is then v else 0)=u;unfold SI;have h:=aUY j ⟨c.Key,false,BQ u c.dI⟩;split
  ·exact h
  ·exact h
 ·rfl
theorem a83(j:aI):(oA j).bD=j.bD:=by grind[oA,aUY,aUZ]
theorem a3R(b:aA)(k:List bR)(w:Int)(j:aI):(iB b k w j).bD=j.bD:=by
 unfold iB;split
 ·split<;>rfl
 ·split
  ·rfl
  ·split
   ·split
    ·rfl
    ·split<;>rfl
   ·split
    ·rfl
    ·split
     ·rfl
     ·split
      ·grind[aUZ]
      ·rfl
theorem a84(b:aA)(w:Int)(j:aI):(qP b w j).2.bD=j.bD:=by
 unfold qP;split
 ·rfl
 ·simp only;split
  ·rfl
  ·split<;>rfl
theorem bDZ(j:aI)(x:aU):(I1 j x).bD=j.bD/\((I1 j x).Pc=9\/(I1 j x).Pc=12):=by grind[I1]
theorem a85(j:aI):(J3 j).bD=j.bD:=by grind[J3]
theorem aU0(j:aI):(G4 j).bD=j.bD:=by grind[G4]
theorem a86(b:aA)(w:Int)(j:aI):(wS b w j).2.bD=j.bD:=by grind[wS,aU0]
theorem a87(b:aA)(w:Int)(j:aI):(wT b w j).2.bD=j.bD:=by grind[wT]
theorem a88(b:aA)(w:Int)(j:aI):(lC b w j).2.bD=j.bD:=by grind[lC]
theorem bD0(b:aA){k:List bR}(h2:k.length=2)(hj:JB j)(h:YG k w j)(hpc:9<=j.Pc/\j.Pc<=13):YG (jH b k j).2.1 w (jH b k j).2.2/\aX8 k (jH b k j).2.1 w:=by
 have p14:qR 14:=.inl aa;have pl:∀(j':aI) (x:aU),j'.bD=j.bD->YG k w (I1 j' x):=λj' x e=>by obtain⟨e1,e2⟩:=bDZ j' x;exact h.same (e1.trans e) λ_=>by rcases e2 with e2|e2<;>rw[e2]<;>exact .inl aa
 have head:∀{i:Int} {x:Int} {j':aI},0<=i/\i<=1->YG k w j'->YG (k.set i.toNat {dL k i with Head:=x}) w j'/\aX8 k (k.set i.toNat {dL k i with Head:=x}) w:=λ{i x j'} hi hj'=>by
  have e:∀b,0<=b/\b<=1->(dL (k.set i.toNat {dL k i with Head:=x}) b).dU=(dL k b).dU:=λb hb=>by grind[qC]
  exact⟨⟨λb hb=>by rw[e b hb];exact hj'.iff b hb,hj'.pc⟩,λb hb=>.inl (e b hb)⟩
 unfold jH;by_cases c1:(j.aH.length:Int)<=j.K
 ·rw[aO c1];exact⟨h.same rfl λ_=>p14,g9 _ _⟩
 rw[aP c1];have hk:=hj.k;have hi:j.K.toNat<j.aH.length:=aa
 have er:mR j=j.aH[j.K.toNat]:=by grind[mR]
 have hx:=hj.wr.2.1 j.aH[j.K.toNat] (cY hi);rw[<-er] at hx;have hbk:0<=jD (mR j).Key/\jD (mR j).Key<=1:=by unfold jD;omega
 by_cases c2:j.Pc=9
 ·rw[aO c2];refine⟨?_,g9 _ _⟩;simp only;split
  ·grind
  ·exact h.same rfl λ_=>.inl ae
 rw[aP c2];by_cases c3:j.Pc=10
 ·rw[aO c3];refine⟨?_,g9 _ _⟩;simp only;split
  ·exact h.same rfl λ_=>.inl ae
  ·split
   ·grind
   ·exact h.same rfl λq=>h.pc q
 rw[aP c3];by_cases c4:j.Pc=11
 ·rw[aO c4];grind[a85,g9]
 rw[aP c4];split
 ·exact⟨h.same rfl λ_=>.inr rfl,g9 _ _⟩
 ·split
  ·exact⟨h.same rfl λ_=>.inl ae,g9 _ _⟩
  ·exact head hbk (h.same rfl λ_=>.inl ae)
theorem bD1{k:List bR}(h2:k.length=2)(hw:0<=w)(hj:JB j)(h:YG k w j)(hpc:j.Pc=7):YG (mQ k w j).1 w (mQ k w j).2.1/\aX8 k (mQ k w j).1 w:=by
 have p8:qR 8:=.inl aa;unfold mQ;by_cases c1:j.K<(m0 j.aH).length
 ·rw[aO c1];have hk:=hj.k;have hi:j.K.toNat<(m0 j.aH).length:=aa
  have er:eV j=(m0 j.aH)[j.K.toNat]:=by grind[eV]
  have hbk:0<=eV j/\eV j<=1:=by grind[NQ,cY]
  by_cases c2:(dL k (eV j)).dU≠0\/(j.Reads.any λs=>s.bR == eV j && s.eB != (dL k (eV j)).eB)=true
  ·rw[aO c2];exact⟨h.same rfl λ_=>.inr rfl,g9 _ _⟩
  rw[aP c2];have c0:(dL k (eV j)).dU=0:=Classical.byContradiction λq=>c2 (.inl q);split
  ·exact⟨h.same rfl λ_=>.inr rfl,g9 _ _⟩
  have hnm:eV j∉j.bD:=λq=>by have:=(h.iff _ hbk).1 q;omega
  have hto:aX8 k (k.set (eV j).toNat {dL k (eV j) with dU:=w+1}) w:=λb hb=>by grind[qC]
  have hkeep:∀j':aI,j'.bD=j.bD++[eV j]->qR j'.Pc->YG (k.set (eV j).toNat {dL k (eV j) with dU:=w+1}) w j':=λj' e hp=>⟨λb hb=>by
   rw[e,dD,jJ,qC h2 hbk hb];split
   ·grind
   ·rename_i q;rw[h.iff b hb];omega,λ_=>hp⟩
  have hh:(D4 j).bD=j.bD++[eV j]:=by simp_all[D4]
  split
  ·grind
  ·refine⟨hkeep _ hh ?_,hto⟩;show qR j.Pc;rw[hpc];exact .inl aa
 ·rw[aP c1];exact⟨h.same rfl λ_=>p8,g9 _ _⟩
theorem bD2{k:List bR}(h2:k.length=2)(hw:0<=w)(hj:JB j)(h:YG k w j)(hpc:j.Pc=14\/j.Pc=16):YG (wR k j).1 w (wR k j).2/\aX8 k (wR k j).1 w:=by
 have hp:qR j.Pc:=by rcases hpc with e|e<;>rw[e];exact .inl aa;exact .inr rfl
 unfold wR;by_cases c1:0<j.bD.length
 ·rw[aO c1];have er:wN j=j.bD[0]:=by grind[wN]
  have hm:wN j∈j.bD:=ak
  have hbk:=hj.held.1 _ hm;have hl:=(h.iff _ hbk).1 hm;obtain⟨y,hy,hy0⟩:∃y:bR,(if j.Pc=14 then(⟨(dL k (wN j)).Head,if 1000000<(dL k (wN j)).eB+1 then 1000000 else(dL k (wN j)).eB+1,0⟩:bR) else {dL k (wN j) with dU:=0})=y/\y.dU=0:=ak
  simp only;rw[hy];have hd:j.bD=wN j::j.bD.drop 1:=by rw[er];exact(vY (i:=0) c1)
  have hn:=hj.held.2;rw[hd,ZT] at hn;refine⟨⟨λb hb=>?_,λ_=>hp⟩,λb hb=>?_⟩
  ·show b∈j.bD.drop 1↔_;rw[qC h2 hbk hb];split
   ·grind
   ·rename_i e;have:=h.iff b hb;grind
  grind[qC]
 ·rw[aP c1];have hnil:j.bD=[]:=uI aa;split
  ·exact⟨h.same rfl λq=>absurd hnil q,g9 _ _⟩
  ·exact⟨h.same (aU0 {j with Pc:=15,K:=0}) λq=>absurd hnil q,g9 _ _⟩
theorem bIV{b:aA}{k:List bR}(h2:k.length=2)(hw:0<=w/\w<=2)(hj:JB j)(h:YG k w j):LkR k w (dX b k w j):=by
 have nh:∀{p:Int},¬qR p->j.Pc=p->j.bD=[]:=λhp e=>h.none ak;have no:∀{j':aI},j'.bD=j.bD->j.bD=[]->YG k w j':=λe e0=>h.same e λq=>absurd e0 q;have out:∀{p:Int},j.Pc=p->¬qR p->j.bD=[]:=λe hp=>nh hp e;unfold dX;refine dM (P:=LkR k w) (λp=>⟨no (a88 b w j) (h.none (by grind[qR])),g9 _ _⟩) λ_=>dM (P:=LkR k w) (λp=>⟨no (a83 j) (h.none (by grind[qR])),g9 _ _⟩) λ_=>
  dM (P:=LkR k w) (λp=>⟨no (a3R b k w j) (h.none (by grind[qR])),g9 _ _⟩) λ_=>dM (P:=LkR k w) (λp=>⟨no (a84 b w j) (h.none (by grind[qR])),g9 _ _⟩) λ_=>
  dM (P:=LkR k w) (λp=>bD1 h2 hw.1 hj h p) λ_=>dM (P:=LkR k w) (λp=>⟨?_,g9 _ _⟩) λ_=>
  dM (P:=LkR k w) (λp=>bD0 b h2 hj h p) λ_=>dM (P:=LkR k w) (λp=>bD2 h2 hw.1 hj h p) λ_=>
  dM (P:=LkR k w) (λp=>⟨no (a86 b w j) (h.none (by grind[qR])),g9 _ _⟩) λ_=>dM (P:=LkR k w) (λp=>⟨no (a87 b w j) (h.none (by grind[qR])),g9 _ _⟩) λ_=>
  dM (P:=LkR k w) (λp=>⟨no rfl (h.none (by grind[qR])),g9 _ _⟩) λ_=>dM (P:=LkR k w) (λp=>⟨no (j':=cG) (h.none (by grind[qR])).symm (h.none (by grind[qR])),g9 _ _⟩) λ_=>⟨h.same rfl λ_=>.inr rfl,g9 _ _⟩
 show YG k w (GU k w j);unfold GU;split
 ·exact h.same rfl λ_=>.inl ae
 ·split
  ·exact h.same rfl λ_=>.inr rfl
  ·exact h.same rfl λq=>h.pc q
def aL5(t:Table):Prop:=∀w,0<=w/\w<=2->YG t.aR w (aD t w)
theorem aL6{l:List aI}{v:Int}{x:aI}(h3:t.aS.length=3)(hl:l=t.aS.set w.toNat x)(hw:0<=w/\w<=2)(hv:0<=v/\v<=2):l.getD v.toNat cG=if v=w then x else aD t v:=by subst hl;unfold aD;grind
theorem aL5.step(hv:TV t)(hw:0<=w/\w<=2)(h:aL5 t):aL5 (aY t w):=by
 have h3:=hv.yO.1;have hjv:=hv.yO.2 _ (zR h3 hw);unfold aY;split
 ·rename_i hbusy;have hj:JB (aD t w):=hjv.resolve_left λe=>by rw[e] at hbusy;cases hbusy
  obtain⟨g1,g2⟩:=bIV (b:=t.aA) hv.bk.1 hw hj (h w hw);intro v hv';have ej:aD (yL t w (dX t.aA t.aR w (aD t w))) v=if v=w then(dX t.aA t.aR w (aD t w)).j else aD t v:=aL6 h3 rfl hw hv';rw[ej];show YG (dX t.aA t.aR w (aD t w)).k v _;split
  ·rename_i e;rw[e];exact g1
  ·rename_i e;refine⟨λb hb=>?_,(h v hv').pc⟩;rw[(h v hv').iff b hb];rcases g2 b hb with q|⟨q1,q2⟩|⟨q1,q2⟩
   ·rw[q]
   ·rw[q1,q2];omega
   ·rw[q1,q2];omega
 ·rename_i hbusy;split
  ·exact h
  ·intro v hv';generalize (mF t w).getD 0 ⟨false,[]⟩=b;have ej:aD (qQ t w b) v=if v=w then gY b (t.aG+1) else aD t v:=aL6 h3 rfl hw hv';rw[ej];show YG t.aR v _;split
   ·rename_i e;subst e;have hn:(aD t v).bD=[]:=by
     rcases hjv with e|hj
     ·rw[e];rfl
     ·exact absurd hj.busy hbusy
    exact(h v hv').same hn.symm λq=>absurd hn q
   ·exact h v hv'
theorem aL5.zero(l:List aN):aL5 (cC l):=λw hw=>by
 have e:aD (cC l) w=cG:=by
  have:w=0\/w=1\/w=2:=aa
  rcases this with rfl|rfl|rfl<;>rfl
 rw[e];refine⟨λb hb=>?_,λq=>absurd rfl q⟩;have eb:(dL (cC l).aR b).dU=0:=by
  have:b=0\/b=1:=aa
  rcases this with rfl|rfl<;>rfl
 rw[eb];exact⟨λq=>(by cases q),λq=>aa⟩
def aRZ(l:List mT):Prop:=∀A e B,l=A++e::B->e.Kind=2->(∃c∈A,c.Kind=1/\c.aG=e.aG)/\∀x∈A,x.Kind=3->x.aG≠e.aG
theorem aRZ.nil:aRZ []:=λA e B h=>by simp_all
theorem aX9{l A B:List O}{x e:O}(h:l++[x]=A++e::B):(l=A/\x=e/\B=[])\/∃B',B=B'++[x]/\l=A++e::B':=by
 rcases ZQ B with rfl|⟨B',y,hB⟩
 ·have:=List.append_inj' h rfl;simp at this;exact .inl ⟨this.1,this.2,rfl⟩
 ·rw[aI9] at hB;subst hB;rw[<-D5,<-o6] at h;have:=List.append_inj' h rfl;simp at this;exact .inr ⟨B',by rw[this.2],this.1⟩
theorem aRZ.app{l:List mT}(h:aRZ l){x:mT}(hx:x.Kind=2->(∃c∈l,c.Kind=1/\c.aG=x.aG)/\∀y∈l,y.Kind=3->y.aG≠x.aG):aRZ (l++[x]):=λA e B he hk=>by
 rcases aX9 he with ⟨rfl,rfl,_⟩|⟨B',_,h2⟩
 ·exact hx hk
 ·exact h A e B' h2 hk
structure JL (l:List mT) (s:Int):Prop where
 call:∃c∈l,c.Kind=1/\c.aG=s
 tell:∀x∈l,x.Kind=3->x.aG≠s
structure a3S (t:Table):Prop where
 le:∀e∈t.Log,e.aG<=t.aG
 jle:∀w,0<=w/\w<=2->(aD t w).bO=true->(aD t w).aG<=t.aG
 job:∀w,0<=w/\w<=2->(aD t w).bO=true->JL t.Log (aD t w).aG
 ne:∀v w,0<=v/\v<=2->0<=w/\w<=2->v≠w->(aD t v).bO=true->(aD t w).bO=true->(aD t v).aG≠(aD t w).aG
 pt:aRZ t.Log
theorem a01(j:aI)(x:aU):(kH j x).2.aG=j.aG/\(kH j x).2.bO=j.bO:=by grind[kH,nZ]
theorem a02(j:aI)(c:iP)(v:Int)(is:Bool):(lL j c v is).aG=j.aG/\(lL j c v is).bO=j.bO:=by
 unfold lL;split
 ·generalize (if is then v else 0)=u;unfold SI;have h:=a01 j ⟨c.Key,false,BQ u c.dI⟩;split
  ·exact h
  ·exact h
 ·exact⟨rfl,rfl⟩
theorem aIT(j:aI):(oA j).aG=j.aG/\(oA j).bO=j.bO:=by grind[oA,a01,a02]
theorem aDM(b:aA)(k:List bR)(w:Int)(j:aI):(iB b k w j).aG=j.aG/\(iB b k w j).bO=j.bO:=by
 unfold iB;split
 ·split<;>exact⟨rfl,rfl⟩
 ·split
  ·simp
  ·split
   ·split
    ·exact⟨rfl,rfl⟩
    ·split<;>exact⟨rfl,rfl⟩
   ·split
    ·exact⟨rfl,rfl⟩
    ·split
     ·exact⟨rfl,rfl⟩
     ·split
      ·grind[a02]
      ·exact⟨rfl,rfl⟩
theorem aIU(b:aA)(w:Int)(j:aI):(qP b w j).2.aG=j.aG/\(qP b w j).2.bO=j.bO:=by
 unfold qP;split
 ·simp
 ·simp only;split
  ·simp
  ·split<;>exact⟨rfl,rfl⟩
theorem aIV(k:List bR)(w:Int)(j:aI):(mQ k w j).2.1.aG=j.aG/\(mQ k w j).2.1.bO=j.bO:=by
 unfold mQ;split
 ·split
  ·exact⟨rfl,rfl⟩
  ·split
   ·exact⟨rfl,rfl⟩
   ·split<;>exact⟨rfl,rfl⟩
 simp
theorem aIW(k:List bR)(w:Int)(j:aI):(GU k w j).aG=j.aG/\(GU k w j).bO=j.bO:=by
 unfold GU;split
 ·simp
 ·split<;>exact⟨rfl,rfl⟩
theorem aYA(j:aI)(x:aU):(I1 j x).aG=j.aG/\(I1 j x).bO=j.bO:=by grind[I1]
theorem bD3(j:aI):(J3 j).aG=j.aG/\(J3 j).bO=j.bO:=by grind[J3]
theorem aIX(b:aA)(k:List bR)(j:aI):(jH b k j).2.2.aG=j.aG/\(jH b k j).2.2.bO=j.bO:=by
 unfold jH;split
 ·simp
 ·split
  ·grind[aYA]
  ·split
   ·grind[aYA]
   ·split
    ·grind[aYA,bD3]
    ·split
     ·exact⟨rfl,rfl⟩
     grind
theorem a03(j:aI):(G4 j).aG=j.aG/\(G4 j).bO=j.bO:=by grind[G4]
theorem aIY(k:List bR)(j:aI):(wR k j).2.aG=j.aG/\(wR k j).2.bO=j.bO:=by grind[wR,a03]
theorem aIZ(b:aA)(w:Int)(j:aI):(wS b w j).2.aG=j.aG/\(wS b w j).2.bO=j.bO:=by grind[wS,a03]
theorem aI0(b:aA)(w:Int)(j:aI):(wT b w j).2.aG=j.aG/\(wT b w j).2.bO=j.bO:=by grind[wT]
theorem aI1(b:aA)(w:Int)(j:aI):(lC b w j).2.aG=j.aG/\(lC b w j).2.bO=j.bO:=by grind[lC]
def SL(w:Int)(j:aI)(r:TR):Prop:=
 (r.j.aG=j.aG/\r.j.bO=j.bO/\(r.l=[]\/r.l=[⟨2,w,j.aG,0,[],[]⟩]))\/(r.j=cG/\r.l=[tlE w j])
theorem aU1(b:aA)(k:List bR)(w:Int)(j:aI):SL w j (dX b k w j):=by
 unfold dX;refine dM (P:=SL w j) (λ_=>.inl ⟨(aI1 b w j).1,(aI1 b w j).2,.inl rfl⟩) λ_=>dM (P:=SL w j) (λ_=>.inl ⟨(aIT j).1,(aIT j).2,.inl rfl⟩) λ_=>
  dM (P:=SL w j) (λ_=>.inl ⟨(aDM b k w j).1,(aDM b k w j).2,.inl rfl⟩) λ_=>dM (P:=SL w j) (λ_=>.inl ⟨(aIU b w j).1,(aIU b w j).2,.inl rfl⟩) λ_=>
  dM (P:=SL w j) (λ_=>.inl ⟨(aIV k w j).1,(aIV k w j).2,?_⟩) λ_=>dM (P:=SL w j) (λ_=>.inl ⟨(aIW k w j).1,(aIW k w j).2,.inl rfl⟩) λ_=>
  dM (P:=SL w j) (λ_=>.inl ⟨(aIX b k j).1,(aIX b k j).2,.inl rfl⟩) λ_=>dM (P:=SL w j) (λ_=>.inl ⟨(aIY k j).1,(aIY k j).2,.inl rfl⟩) λ_=>
  dM (P:=SL w j) (λ_=>.inl ⟨(aIZ b w j).1,(aIZ b w j).2,.inl rfl⟩) λ_=>dM (P:=SL w j) (λ_=>.inl ⟨(aI0 b w j).1,(aI0 b w j).2,.inl rfl⟩) λ_=>
  dM (P:=SL w j) (λ_=>.inl ⟨rfl,rfl,.inl rfl⟩) λ_=>dM (P:=SL w j) (λ_=>.inr ⟨rfl,rfl⟩) λ_=>.inl ⟨rfl,rfl,.inl rfl⟩
 simp
theorem aR0{l:List aI}{v:Int}{x:aI}(h3:t.aS.length=3)(hl:l=t.aS.set w.toNat x)(hw:0<=w/\w<=2)(hv:0<=v/\v<=2):l.getD v.toNat cG=if v=w then x else aD t v:=by subst hl;unfold aD;grind
theorem a3S.step(hv:TV t)(hw:0<=w/\w<=2)(h:a3S t):a3S (aY t w):=by
 have h3:=hv.yO.1;unfold aY;split
 ·rename_i hb;have hJ:=h.job w hw hb;have hS:=h.jle w hw hb;rcases aU1 t.aA t.aR w (aD t w) with ⟨s1,s2,hl⟩|⟨s1,hl⟩
  ·
   have hjob:∀v,0<=v/\v<=2->(aD (yL t w (dX t.aA t.aR w (aD t w))) v).aG=(aD t v).aG/\(aD (yL t w (dX t.aA t.aR w (aD t w))) v).bO=(aD t v).bO:=λv hv'=>by grind[aD,yL]
   have hnot:∀x∈(dX t.aA t.aR w (aD t w)).l,x.Kind=2/\x.aG=(aD t w).aG:=λx hx=>ak
   have keepJ:∀s,JL t.Log s->JL (t.Log++(dX t.aA t.aR w (aD t w)).l) s:=λs ⟨⟨c,hc,h1⟩,h2⟩=>⟨⟨c,V7 _ hc,h1⟩,λx hx hk=>by
    grind⟩
   refine⟨λe he=>?_,λv hv' hb'=>?_,λv hv' hb'=>?_,λv u hv' hu hne hb1 hb2=>?_,?_⟩
   ·rcases dD.1 he with he|he
    ·exact h.le e he
    ·rw[(hnot e he).2];exact hS
   ·rw[(hjob v hv').1];exact h.jle v hv' ak
   ·rw[(hjob v hv').1];exact keepJ _ (h.job v hv' ak)
   ·rw[(hjob v hv').1,(hjob u hu).1];exact h.ne v u hv' hu hne ak ak
   ·show aRZ (t.Log++_);rcases hl with hl|hl
    ·rw[hl,rC];exact h.pt
    ·rw[hl];exact h.pt.app λ_=>⟨hJ.call,hJ.tell⟩
  ·
   have hjob:∀v,0<=v/\v<=2->v≠w->aD (yL t w (dX t.aA t.aR w (aD t w))) v=aD t v:=λv hv' hne=>by unfold aD yL;grind
   have hidle:(aD (yL t w (dX t.aA t.aR w (aD t w))) w).bO=false:=by have e:aD (yL t w (dX t.aA t.aR w (aD t w))) w=(dX t.aA t.aR w (aD t w)).j:=(aR0 h3 rfl hw hw).trans (aO rfl);rw[e,s1];rfl
   have hne':∀v,(aD (yL t w (dX t.aA t.aR w (aD t w))) v).bO=true->v≠w:=λv hb' e=>ak
   refine⟨λe he=>?_,λv hv' hb'=>?_,λv hv' hb'=>?_,λv u hv' hu hne hb1 hb2=>?_,?_⟩
   ·rcases dD.1 he with he|he
    ·exact h.le e he
    ·rw[hl,jJ] at he;rw[he];exact hS
   ·have hn:=hne' v hb';rw[hjob v hv' hn] at hb' ⊢;exact h.jle v hv' hb'
   ·have hn:=hne' v hb';rw[hjob v hv' hn] at hb' ⊢;obtain⟨⟨c,hc,h1⟩,h2⟩:=h.job v hv' hb';refine⟨⟨c,V7 _ hc,h1⟩,λx hx hk=>?_⟩;rcases dD.1 hx with hx|hx
    ·grind
    ·rw[hl,jJ] at hx;rw[hx];exact h.ne w v hw hv' (λe=>hn e.symm) hb hb'
   ·have hn1:=hne' v hb1;have hn2:=hne' u hb2;rw[hjob v hv' hn1] at hb1 ⊢;rw[hjob u hu hn2] at hb2 ⊢;exact h.ne v u hv' hu hne hb1 hb2
   ·show aRZ (t.Log++_);rw[hl];exact h.pt.app λq=>by simp[tlE] at q
 ·split
  ·exact h
  ·rename_i hb hq;have hfresh:∀e∈t.Log,e.aG≠t.aG+1:=λe he q=>by have:=h.le e he;omega
   generalize (mF t w).getD 0 ⟨false,[]⟩=b;have hjob:∀v,0<=v/\v<=2->aD (qQ t w b) v=if v=w then gY b (t.aG+1) else aD t v:=λv hv'=>by grind[aD,qQ]
   have hser:(qQ t w b).aG=t.aG+1:=rfl;refine⟨λe he=>?_,λv hv' hb'=>?_,λv hv' hb'=>?_,λv u hv' hu hne hb1 hb2=>?_,?_⟩
   ·rw[hser];rcases dD.1 he with he|he
    ·have:=h.le e he;omega
    grind
   ·rw[hjob v hv'] at hb' ⊢;rw[hser];split
    ·exact I3 _
    ·rename_i e;rw[aP e] at hb';have:=h.jle v hv' hb';omega
   ·rw[hjob v hv'] at hb' ⊢;split
    ·refine⟨⟨_,aBP _ (jJ.2 rfl),rfl,rfl⟩,λx hx hk=>?_⟩;rcases dD.1 hx with hx|hx
     ·exact hfresh x hx
     ·rw[jJ] at hx;rw[hx] at hk;cases hk
    ·rename_i e;rw[aP e] at hb';obtain⟨⟨c,hc,h1⟩,h2⟩:=h.job v hv' hb';refine⟨⟨c,V7 _ hc,h1⟩,λx hx hk=>?_⟩;rcases dD.1 hx with hx|hx
     ·exact h2 x hx hk
     ·rw[jJ] at hx;rw[hx] at hk;cases hk
   ·rw[hjob v hv'] at hb1 ⊢;rw[hjob u hu] at hb2 ⊢;by_cases e1:v=w
    ·rw[aO e1];have e2:u≠w:=λe=>hne (e1.trans e.symm);rw[aP e2] at hb2 ⊢;have:=h.jle u hu hb2;show t.aG+1≠_;omega
    ·rw[aP e1] at hb1 ⊢;by_cases e2:u=w
     ·rw[aO e2];have:=h.jle v hv' hb1;show _≠t.aG+1;omega
     ·rw[aP e2] at hb2 ⊢;exact h.ne v u hv' hu hne hb1 hb2
   ·exact h.pt.app λq=>by cases q
theorem a3S.zero(l:List aN):a3S (cC l):=by
 have hj:∀w,0<=w/\w<=2->(aD (cC l) w).bO=false:=λw hw=>by
  have:w=0\/w=1\/w=2:=aa
  rcases this with rfl|rfl|rfl<;>rfl
 exact⟨λe he=>(by grind[cC]),λw hw h=>ak,λw hw h=>ak,λv w hv _ _ h=>ak,aRZ.nil⟩
theorem aPL:∀(l:List Int) (t:Table),(K9 t l).Log.length<=t.Log.length+l.length
 |[],t=>iU _
 |p::l,t=>by have h1:=aPL l (VQ t p);grind[aFB,K9]
def isE(kind s:Int)(e:mT):Bool:=e.Kind == kind && e.aG == s
def aL7(l:List mT)(kind s:Int):Int:=if l.findIdx (isE kind s)<l.length then(l.findIdx (isE kind s):Int) else -1
theorem a89{l:List mT}{k:Int}(h:0<=aL7 l k s):(aL7 l k s).toNat<l.length:=by unfold aL7 at h ⊢;omega
section
variable {b:aA} (hb:mP b)
include hb
theorem mP.fits:b.Mem.Heap.Bytes.length<=maxLen/\(iE b.Mem.aE).length<=1073741824/\b.aC.cE.length<=maxLen/\b.aQ.length<=maxLen/\(dV b.aQ).length<=1073741824/\b.qU.length<=maxLen:=by obtain⟨h1,h2,h3,h4,_⟩:=lW.facts hb.1.1;have a:=hb.1.2.1.2.1;have c:=hb.1.2.2.1.1;have d:=hb.1.2.2.1.2.1;have e:=hb.1.2.2.2.1;grind[maxLen]
end
def bD4(p:Nat->Bool)(n:Nat):Nat:=((List.range n).filter p).length
theorem yN:∀{l m:List Int},l.Nodup->(∀x∈l,x∈m)->l.length<=m.length
 |[],_,_,_=>jK _
 |a::t,m,hn,h=>by rw[ZT] at hn;have ha:a∈m:=h a (aBQ ..);have ih:=yN (l:=t) (m:=m.erase a) hn.2 (λx hx=>(List.mem_erase_of_ne (λe:x=a=>hn.1 ak)).2 (h x (lD _ hx)));grind
theorem a3T{p:Nat->Bool}{n:Nat}{l:List Int}(hn:l.Nodup)(hr:∀x∈l,0<=x/\x<(n:Int))(hp:∀i:Nat,i<n->(p i=true↔(i:Int)∈l)):bD4 p n=l.length:=by
 have e:bD4 p n=(((List.range n).filter p).map (λi:Nat=>(i:Int))).length:=by simp[bD4]
 have nd:(((List.range n).filter p).map (λi:Nat=>(i:Int))).Nodup:=by rw[List.nodup_iff_pairwise_ne];refine List.Pairwise.map (R:=λa b:Nat=>a≠b) _ (λa b h=>aa) ?_;grind[List.nodup_range]
 have a:=yN (m:=l) nd (λx hx=>by
  grind)
 have b:=yN (l:=l) (m:=((List.range n).filter p).map (λi:Nat=>(i:Int))) hn (λx hx=>by
  have:=hr x hx;refine AU.2 ⟨x.toNat,V8.2 ⟨List.mem_range.2 aa,(hp _ aa).2 ak⟩,aa⟩)
 omega
end Go.Gv
end
