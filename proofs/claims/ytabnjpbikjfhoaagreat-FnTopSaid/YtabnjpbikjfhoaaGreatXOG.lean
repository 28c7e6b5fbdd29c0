import Derived.Test.YtabnjpbikjfhoaaGreatXOF
set_option linter.unusedVariables false
set_option linter.unusedSimpArgs false
set_option linter.unusedSectionVars false
set_option linter.constructorNameAsVariable false
set_option linter.unnecessarySimpa false
noncomputable section
namespace Go.Gv
theorem aP7:∀(n:Nat) (l:List Int),l.Nodup->(∀x∈l,0<=x/\x < (n:Int))->l.length<=n
 | 0, l, _, h => by
  cases l with
  | nil=>simp
  | cons a t=>have:=h a (by simp);omega
 | n + 1, l, hn, h => by
  have ih:=aP7 n (l.erase (n:Int)) (hn.erase _) (fun x hx=>by
   have h1:=(hn.mem_erase_iff).1 hx
   have h2:=h x h1.2
   have:=h1.1
   omega)
  have:=List.length_erase (a:=(n:Int)) (l:=l)
  split at this <;> omega
theorem aL4(a b:List bC):bH (a++b)=bH a++bH b:=by simp [bH]
theorem aL5(a b:List aR):cN (a++b)=cN a++cN b:=by simp [cN]
theorem GO{l:List bC}{k:Nat}(hk:k < l.length)(x:bC):bH (l.set k x)=bH (l.take k)++(x.Rows++bH (l.drop (k+1))):=by
 rw [List.set_eq_take_append_cons_drop,if_pos hk,aL4];simp [bH]
theorem C5{l:List bC}{k:Nat}(hk:k < l.length):bH l=bH (l.take k)++(l[k].Rows++bH (l.drop (k+1))):=by
 conv=>lhs;rw [<-aER hk,GO hk]
theorem GP{l:List aR}{k:Nat}(hk:k < l.length)(x:aR):cN (l.set k x)=cN (l.take k)++(x.aT++cN (l.drop (k+1))):=by
 rw [List.set_eq_take_append_cons_drop,if_pos hk,aL5];simp [cN]
theorem C6{l:List aR}{k:Nat}(hk:k < l.length):cN l=cN (l.take k)++(l[k].aT++cN (l.drop (k+1))):=by
 conv=>lhs;rw [<-aER hk,GP hk]
def CK(l:List bC)(s:Int):Prop:=∃r∈bH l,jN r.Handle/\r.Handle % 32=s
instance (l:List bC) (s:Int):Decidable (CK l s):=by unfold CK;infer_instance
noncomputable section
variable {l:List bC} (hl:pR l)
include hl
theorem pR.small:(bH l).length<=1073741824/\l.length<=maxLen/\l.length<=1048576/\∀s∈l,s.Rows.length<=24:=by
 have:=hl.1;have h2:=hl.2.1
 refine⟨by omega,by simp only [maxLen];omega,by omega,fun s hs=>?_⟩
 have:=PZ hs;omega
theorem B4(s:Int):xU l s=some (decide (CK l s)):=by
 have hm:=hl.small
 unfold xU
 rw [LW hm.1 hm.2.1,aE]
 have key:=kT (f:=nX s (bH l)) (bH l) (fun k=>(k:Int)) (fun r=>¬(jN r.Handle/\r.Handle % 32=s)) (Out.brk ()) (Out.ret true)
  (fun k hk hp=>by
   have hk':=hl.2.1
   simp only [nX,tO]
   rw [if_pos (by simp;omega),aU hk,jS (show k < maxLen by simp only [maxLen];omega)]
   simp only [aE,eP,cQ]
   by_cases q:jN (bH l)[k].Handle
   ·have:((bH l)[k].Handle % 32 == s)=false:=by simpa using fun a=>hp ⟨q,a⟩
    simp [q,this]
   ·simp [q])
  (fun k hk hp=>by
   have hp:=Classical.not_not.1 hp
   simp only [nX,tO]
   rw [if_pos (by simp;omega),aU hk]
   simp [eP,cQ,hp.1,hp.2])
  (by simp [nX])
 have key':loop (nX s (bH l)) 0=_:=key
 rw [key']
 by_cases q:CK l s
 ·rw [if_neg (fun a=>by obtain⟨r,hr,e⟩:=q;exact a r hr e),aZ q];rfl
 ·rw [if_pos (fun r hr e=>q ⟨r,hr,e⟩),bM q];rfl
theorem I7(s:Int):xK l s=some (decide (CK l s)):=by
 have hm:=hl.small
 unfold xK
 have e1:∀(r:dA),qT r s=some (decide (jN r.Handle/\r.Handle % 32=s)):=by
  intro r
  unfold qT p8
  rw [jK]
  by_cases q:jN r.Handle
  ·rw [q.mod.1];simp [q];rfl
  ·simp [q]
 have e2:∀x∈l,D4 x s=some (x.Rows.any fun r=>decide (jN r.Handle/\r.Handle % 32=s)):=by
  intro x hx
  unfold D4
  have:x.Rows.length<=maxLen:=by have:=hm.2.2.2 x hx;simp only [maxLen];omega
  rw [show(fun y0=>qT y0 s)=fun r=>some (decide (jN r.Handle/\r.Handle % 32=s)) from funext e1,W8 this];rfl
 rw [UX hm.2.1 (fun x=>x.Rows.any fun r=>decide (jN r.Handle/\r.Handle % 32=s)) _ e2]
 simp only [aE]
 congr 1
 rw [OR,decide_eq_true_iff]
 simp only [List.any_eq_true,decide_eq_true_eq,CK,bH,aBN]
 constructor
 ·rintro⟨x,hx,r,hr,h⟩;exact⟨r,⟨x,hx,hr⟩,h⟩
 ·rintro⟨r,⟨x,hx,hr⟩,h⟩;exact⟨x,hx,r,hr,h⟩
theorem pR.more{k:Nat}(hk:k < l.length){r:dA}(hr:AY r)(hn:¬CK l (r.Handle % 32)):pR (l.set k ⟨l[k].Rows ++ [r]⟩):=by
 have e:=GO hk (⟨l[k].Rows ++ [r]⟩:bC)
 have p:(bH (l.set k ⟨l[k].Rows ++ [r]⟩)).Perm (r :: bH l):=by
  rw [e,C5 hk]
  refine List.Perm.trans ?_ WB
  simp only [jM]
  exact List.Perm.append_left _ (by simp only [List.singleton_append];exact(WB (l₁:=l[k].Rows) (l₂:=bH (l.drop (k+1))) (a:=r)))
 have h1:∀x∈bH (l.set k ⟨l[k].Rows ++ [r]⟩),AY x:=fun x hx=>by
  rcases fA.1 (p.mem_iff.1 hx) with rfl | h
  ·exact hr
  ·exact hl.2.2.1 x h
 have h2:((bH (l.set k ⟨l[k].Rows ++ [r]⟩)).map lQ).Nodup:=by
  refine(List.Perm.nodup_iff (p.map lQ)).2 ?_
  rw [y8,WA]
  refine⟨fun h=>hn ?_,hl.2.2.2⟩
  obtain⟨x,hx,e⟩:=DD.1 h
  exact⟨x,hx,(hl.2.2.1 x hx).1,e⟩
 refine⟨by simpa using hl.1,?_,h1,h2⟩
 have:=aP7 24 _ h2 (fun x hx=>by
  obtain⟨y,hy,rfl⟩:=DD.1 hx
  have:=(h1 y hy).1.mod
  unfold lQ;omega)
 simpa using this
end
theorem aTQ{b:aA}(hb:mC b)(hs:U0 b){w:Int}(hw:0<=w/\w<=2)(s:Sub) :
  ∃x y,wN b w s=some (x,y)/\qA s b w=some (y,x)/\∃L,x=⟨b.Mem,b.aD,L,b.l7⟩/\pR L/\∀r∈bH L,yI b r:=by
 have hL:=hb.1.2.2.1
 have hm:=hb.1.1
 have hlen:w.toNat < b.aO.length:=by have:=hL.1;omega
 have hx:idx b.aO w=some b.aO[w.toNat]:=fU hw.1 (by omega)
 have hg:b.Mem.aB.Global.length<=maxLen:=by rw [hm.1.2.1];simp [maxLen]
 have ho:b.Mem.aB.Own.length<=maxLen:=by rw [hm.1.2.2.1];simp [maxLen]
 have hall:(dJ b.Mem.aB).length<=1073741824:=by have:=hs.1.2.2.2.2;omega
 have hrow:=hL.small.2.2.2 _ (eN hlen)
 have he:=hb.1.2.1.1
 unfold wN qA mM
 rw [b7,dX,l8 hm.1.1.1 hall hg ho,wY hm.1.1.1 hall hg ho,cQ]
 simp only [bK,bG,aE,vG,EX,mL]
 by_cases p0:s.Pc=0
 ·simp only [p0,beq_self_eq_true,if_true];exact⟨_,_,rfl,rfl,_,rfl,hL,hb.2⟩
 ·have p0' : (s.Pc == 0) = false := by simpa using p0
  simp only [p0',aQ,if_false]
  by_cases p1:s.Pc=1
  ·simp only [p1,beq_self_eq_true,bne_self_eq_false,aQ,if_false,if_true]
   by_cases q1:0<=s.E/\s.E<=b.aD.aJ
   ·simp only [aZ q1,dE,aQ,if_false]
    by_cases q2:hC b.Mem s.A
    ·have hh:=q2.1
     simp only [aZ q2,dE,aQ,if_false,if_pos hh,hh.mod.1,B4 hL,I7 hL,aE]
     by_cases q3:CK b.aO (s.A % 32)
     ·simp only [aZ q3,if_true];exact⟨_,_,rfl,rfl,_,rfl,hL,hb.2⟩
     ·have hmore:=hL.more hlen (r:=⟨s.A,s.E⟩) ⟨hh,q1.1,by simp only;omega⟩ q3
      have e:HE b.aO w s.A s.E=some (b.aO.set w.toNat ⟨b.aO[w.toNat].Rows ++ [⟨s.A,s.E⟩]⟩,true):=by
       unfold HE xL
       rw [BZ hL.small.1,lG,W9 hL.small.2.2.1 (fun s h=>by have:=hL.small.2.2.2 s h;omega)]
       simp only [aZ hL,aZ hw,aE,dE,aQ,if_false,hx]
       rw [aN (by simp;omega),BZ hmore.small.1,aZ hmore];rfl
      simp only [bM q3,aQ,if_false,hx,e,aE]
      rw [aN (by simp;omega)]
      refine⟨_,_,rfl,rfl,_,rfl,hmore,fun r hr=>?_⟩
      rw [GO hlen] at hr
      have hsp:=C5 hlen
      rcases e9.1 hr with h | h
      ·exact hb.2 r (by rw [hsp];exact V9 _ h)
      ·rcases e9.1 h with h | h
       ·rcases e9.1 h with h | h
        ·exact hb.2 r (by rw [hsp];exact aEP _ (V9 _ h))
        ·simp at h;subst h;exact⟨q2,q1.2⟩
       ·exact hb.2 r (by rw [hsp];exact aEP _ (aEP _ h))
    ·simp only [bM q2,iU,if_true];exact⟨_,_,rfl,rfl,_,rfl,hL,hb.2⟩
   ·simp only [bM q1,iU,if_true];exact⟨_,_,rfl,rfl,_,rfl,hL,hb.2⟩
  ·have p1':(s.Pc == 1)=false:=by simpa using p1
   have p1'':(s.Pc != 1)=true:=by simpa using p1
   simp only [p1',p1'',aQ,if_false,if_true];exact⟨_,_,rfl,rfl,_,rfl,hL,hb.2⟩
end Go.Gv
end
noncomputable section
namespace Go.Gv
def st4(b:List Int)(a:Nat)(n:Int):List Int:=(((b.set a 0).set (a+1) 0).set (a+2) 0).set (a+3) n
theorem FK(b:List Int)(a:Nat)(n:Int):(st4 b a n).length=b.length:=by simp [st4]
theorem aOA{b:List Int}(h:vJ b)(a:Nat){n:Int}(hn:0<=n/\n<=255):vJ (st4 b a n):=by
 have key:∀{l:List Int} (i:Nat) (v:Int),vJ l->0<=v/\v<=255->vJ (l.set i v):=fun i v hl hv x hx=>by
  rcases pN hx with h | rfl
  ·exact hl x h
  ·exact hv
 exact key _ _ (key _ _ (key _ _ (key _ _ h (by omega)) (by omega)) (by omega)) hn
theorem aX0{n:Int}(hn:0<=n/\n<=255):((u8 n).toNat:Int)=n:=by
 obtain⟨m,rfl⟩:=aU1 hn.1
 unfold u8
 rw [UInt8.toNat_ofNat'];omega
theorem ZY{l:List Int}(i:Nat){v:Int}(hl:vJ l)(hv:0<=v/\v<=255):vJ (l.set i v):=fun x hx=>by
 rcases pN hx with h | rfl
 ·exact hl x h
 ·exact hv
def GQ(b:List Int)(a:Nat)(n:Int):List Int:=(((b.set a (n / 16777216)).set (a+1) (n / 65536 % 256)).set (a+2) (n / 256 % 256)).set (a+3) (n % 256)
theorem P0(b:List Int)(a:Nat)(n:Int):(GQ b a n).length=b.length:=by simp [GQ]
theorem aTR{b:List Int}(h:vJ b)(a:Nat){n:Int}(hn:0<=n/\n<=4294967295):vJ (GQ b a n):=by
 unfold GQ
 exact ZY _ (ZY _ (ZY _ (ZY _ h (by omega)) (by omega)) (by omega)) (by omega)
theorem aTS(b:List Int)(a:Nat)(x y z u:Int):(((b.set (a+3) u).set (a+2) z).set (a+1) y).set a x=(((b.set a x).set (a+1) y).set (a+2) z).set (a+3) u:=by
 refine List.ext_getElem (by simp) fun j h1 h2=>?_
 simp only [List.getElem_set]
 by_cases j0:a=j
 ·subst j0;simp
 ·by_cases j1:a+1=j
  ·subst j1;simp
  ·by_cases j2:a+2=j
   ·subst j2;simp
   ·by_cases j3:a+3=j
    ·subst j3;simp
    ·simp [j0,j1,j2,j3]
theorem aBI{b:List Int}{a:Nat}(h:a+4<=b.length)(hl:b.length<=100000){n:Int}(hn:0<=n/\n<=4294967295):xY b (a:Int) 4 n=some (GQ b a n):=by
 have st:∀(c:List Int) (m:Int) (i:Nat),c.length=b.length->0<=m->m<=4294967295->i < 4->BU (a:Int) (c,m,(i:Int))=some (.next (c.set (a+i) (m % 256),m / 256,(i:Int) - 1)):=fun c m i hc h0 h1 hi=>by
  simp only [BU]
  rw [if_pos (by simp),aM (x:=(a:Int)+i) (by omega) (by omega),show(a:Int)+i=((a+i:Nat):Int) by omega,aU (by omega),aE,wW h0,FF h0,aM (x:=m / 256) (by omega) (by omega),aM (x:=(i:Int) - 1) (by omega) (by omega),P7]
 unfold xY
 rw [show aY (4 - 1)=((3:Nat):Int) from by rw [aM (by omega) (by omega)];rfl]
 rw [bP (st b n 3 rfl hn.1 hn.2 (by omega)),show((3:Nat):Int) - 1=((2:Nat):Int) by rfl,
  bP (st _ _ 2 (by simp) (by omega) (by omega) (by omega)),show((2:Nat):Int) - 1=((1:Nat):Int) by rfl,
  bP (st _ _ 1 (by simp) (by omega) (by omega) (by omega)),show((1:Nat):Int) - 1=((0:Nat):Int) by rfl,
  bP (st _ _ 0 (by simp) (by omega) (by omega) (by omega)),bL (r:=GQ b a n)]
 ·rfl
 ·simp only [BU]
  rw [if_neg (by simp)]
  have e1:n / 256 / 256=n / 65536:=by omega
  have e2:n / 256 / 256 / 256=n / 16777216:=by omega
  have e3:n / 16777216 % 256=n / 16777216:=by omega
  rw [e1,show n / 65536 / 256=n / 16777216 by omega,e3]
  unfold GQ
  simp only [KX]
  rw [aTS]
def XA(n:Int):List UInt8:=[u8 (n / 16777216),u8 (n / 65536),u8 (n / 256),u8 n]
theorem aG9{n:Int}(hn:0<=n/\n<=4294967295):CC n 4=some (XA n):=by
 have hw:k9 4=some true:=by unfold k9;rw [dX];rfl
 unfold CC
 rw [hw]
 have e1:IntKind.u64.wrap (aY (8 * 4))=32:=by decide
 have e2:aJN .i64 1 32=4294967296:=by decide
 simp only [aE,dE,aQ,if_false,e1,e2]
 rw [if_neg (by simp;omega),aN (by omega),bM (by omega)]
 simp only [zJ,aQ,if_false]
 rw [aN (by omega),show aY (4 - 1)=((3:Nat):Int) from by rw [aM (by omega) (by omega)];rfl]
 have st:∀(m:Int) (c:List UInt8) (i:Nat),i < c.length->i < 4->0<=m->HB (m,c,(i:Int))=some (.next (m / 256,c.set i (u8 m),(i:Int) - 1)):=fun m c i hc hi h0=>by
  simp only [HB]
  rw [if_pos (by simp),aU hc,aE,show(8:Int)=((8:Nat):Int) from rfl,a1D h0 (by omega),aM (by omega) (by omega),P7];rfl
 rw [bP (st n _ 3 (by simp) (by omega) hn.1),show((3:Nat):Int) - 1=((2:Nat):Int) by rfl,
  bP (st _ _ 2 (by simp) (by omega) (by omega)),show((2:Nat):Int) - 1=((1:Nat):Int) by rfl,
  bP (st _ _ 1 (by simp) (by omega) (by omega)),show((1:Nat):Int) - 1=((0:Nat):Int) by rfl,
  bP (st _ _ 0 (by simp) (by omega) (by omega)),bL (r:=XA n)]
 ·rfl
 ·simp only [HB]
  rw [if_neg (by simp)]
  have e1:n / 256 / 256=n / 65536:=by omega
  rw [e1,show n / 65536 / 256=n / 16777216 by omega]
  rfl
theorem aL6{n:Int}(hn:0<=n):((u8 n).toNat:Int)=n % 256:=by
 have:u8 n=u8 (n % 256):=by
  unfold u8
  congr 1
  omega
 rw [this,aX0 (by omega)]
theorem aHA{b:List Int}{a:Nat}(h:a+4<=b.length)(hl:b.length<=100000){n:Int}(hn:0<=n/\n<=4294967295):vY b (a:Int) (XA n)=some (GQ b a n):=by
 have st:∀(c:List Int) (i:Nat) (v:UInt8),c.length=b.length->i < 4->idx (XA n) (i:Int)=some v->D2 b (a:Int) (XA n) (c,(i:Int))=some (.next (c.set (a+i) (v.toNat:Int),((i+1:Nat):Int))):=fun c i v hc hi hv=>by
  simp only [D2]
  rw [aN hc,if_pos (by simp [XA];omega),hv,aE,aM (x:=(a:Int)+i) (by omega) (by omega),show(a:Int)+i=((a+i:Nat):Int) by omega,aU (by omega),aE,aM (by omega) (by omega),P7];rfl
 unfold vY
 rw [show(0:Int)=((0:Nat):Int) from rfl,bP (st b 0 _ rfl (by omega) rfl),bP (st _ 1 _ (by simp) (by omega) rfl),bP (st _ 2 _ (by simp) (by omega) rfl),bP (st _ 3 _ (by simp) (by omega) rfl),bL (r:=GQ b a n)]
 ·simp only [aE,TS,TR]
  rw [aN (P0 b a n)]
 ·simp only [D2]
  rw [aN (by simp),if_neg (by simp [XA])]
  simp only [aL6 hn.1,aL6 (show 0<=n / 16777216 by omega),aL6 (show 0<=n / 65536 by omega),aL6 (show 0<=n / 256 by omega)]
  rw [show n / 16777216 % 256=n / 16777216 by omega]
  rfl
theorem aX1{b:List Int}{a:Nat}{n:Int}(hn:0<=n/\n<=255):GQ b a n=st4 b a n:=by
 unfold GQ st4
 rw [show n / 16777216=0 by omega,show n / 65536 % 256=0 by omega,show n / 256 % 256=0 by omega,show n % 256=n by omega]
theorem I8{b:List Int}{a:Nat}(h:a+4<=b.length)(hl:b.length<=100000){n:Int}(hn:0<=n/\n<=255):xY b (a:Int) 4 n=some (st4 b a n):=by
 rw [aBI h hl ⟨hn.1,by omega⟩,aX1 hn]
theorem a6L{n:Int}(hn:0<=n/\n<=255):XA n=[0,0,0,u8 n]:=by
 unfold XA
 rw [show n / 16777216=0 by omega,show n / 65536=0 by omega,show n / 256=0 by omega];rfl
theorem XB{n:Int}(hn:0<=n/\n<=255):CC n 4=some [0,0,0,u8 n]:=by
 rw [aG9 ⟨hn.1,by omega⟩,a6L hn]
theorem U2{b:List Int}{a:Nat}(h:a+4<=b.length)(hl:b.length<=100000){n:Int}(hn:0<=n/\n<=255):vY b (a:Int) [0,0,0,u8 n]=some (st4 b a n):=by
 rw [<-a6L hn,aHA h hl ⟨hn.1,by omega⟩,aX1 hn]
end Go.Gv
end
noncomputable section
namespace Go.Gv
theorem a2P{x y z:Int}:∀(a:Nat) (l:List Int),a+3<=l.length->dF l a [x,y,z]=((l.set a x).set (a+1) y).set (a+2) z
 | 0, l, h => by
  match l,h with
  | _ :: _ :: _ :: t,_=>simp [dF]
 | a + 1, l, h => by
  match l,h with
  | u :: t, h =>
   have ih:=a2P (x:=x) (y:=y) (z:=z) a t (by simp at h;omega)
   simp only [List.set_cons_succ,<-ih]
   simp [dF,Nat.add_right_comm]
def aX2(p k:Nat)(c:Int):Nat:=(eF ((p:Int) * 4+k) c).toNat
def gB(b:List Int)(p:Nat)(c:Int):Nat->List Int
 | 0=>((b.set (p * 64) 171).set (p * 64+1) c).set (p * 64+2) (bS c)
 | k+1=>st4 (gB b p c k) (aX2 p k c) 1
theorem LZ(b:List Int)(p:Nat)(c:Int):∀k,(gB b p c k).length=b.length
 | 0=>by simp [gB]
 | k+1=>by rw [gB,FK,LZ b p c k]
theorem aHB{l:List Int}(i:Nat){v:Int}(hl:vJ l)(hv:0<=v/\v<=255):vJ (l.set i v):=fun x hx=>by
 rcases pN hx with h | rfl
 ·exact hl x h
 ·exact hv
theorem aL7{b:List Int}(hb:vJ b)(p:Nat){c:Int}(hc:0<=c/\c<=2):∀k,vJ (gB b p c k)
 | 0 => by
  have:=mP c
  exact aHB _ (aHB _ (aHB _ hb (by omega)) (by omega)) (by omega)
 | k+1=>aOA (aL7 hb p hc k) _ (by omega)
def gS(p:Nat)(n:Nat):List Int:=(List.range n).map fun(i:Nat)=>(p:Int) * 4+(i:Int)
theorem L4(p n:Nat):(gS p n).length=n:=by simp [gS]
theorem aSK(p n:Nat):gS p (n+1)=gS p n ++ [(p:Int) * 4+(n:Int)]:=by simp [gS,List.range_succ]
theorem aL8{p k:Nat}{c:Int}(hp:p < 6)(hk:(k:Int) < bS c):eF ((p:Int) * 4+k) c=(aX2 p k c:Int)/\aX2 p k c+4<=384:=by
 have h4:=mP c
 have hm:=LQ (c:=c) (i:=(k:Int)) (by omega) hk
 have hst:4<=aS c:=by
  have:0<=c/\c<=2:=gK.1 (by omega)
  rcases eX this with e | e | e <;> rw [e] <;> decide
 have e:eF ((p:Int) * 4+k) c=(p:Int) * 64+8+(k:Int) * aS c:=by
  unfold eF
  rw [if_pos ⟨by omega,by omega⟩,show((p:Int) * 4+k) / 4=p by omega,show((p:Int) * 4+k) % 4=k by omega]
 unfold aX2
 rw [e];omega
theorem aJ7{p k:Nat}(hp:p < 6)(hk:k < 4):rT (p:Int) (k:Int)=some ((p:Int) * 4+k)/\M3 (p:Int) (k:Int)=some ((p:Int) * 4+k):=by
 have a:0<=(p:Int)/\(p:Int)<=5:=by omega
 have b:0<=(k:Int)/\(k:Int)<=3:=by omega
 have e1:aY ((p:Int) * 4)=(p:Int) * 4:=aM (by omega) (by omega)
 have e2:aY ((p:Int) * 4+k)=(p:Int) * 4+k:=aM (by omega) (by omega)
 constructor
 ·unfold rT wD;rw [b7,b7,aZ a,aZ b,e1,e2];rfl
 ·unfold M3 D3;rw [dX,dX,aZ a,aZ b,e1,e2];rfl
noncomputable section
variable {b:List Int} (hb:b.length=384) {p:Nat} (hp:p < 6) {c:Int} (hc:0<=c/\c<=2)
include hb hp hc
theorem aHC:loop (BV c (p:Int)) ([],0,gB b p c 0)=some (gS p (bS c).toNat,gB b p c (bS c).toNat):=by
 have h4:=mP c
 refine fV (bS c).toNat (fun k=>(gS p k,(k:Int),gB b p c k)) _ (fun k hk=>?_) ?_
 ·have ho:=aL8 (c:=c) hp (k:=k) (by omega)
  simp only [BV,SJ,iL,aE]
  rw [if_pos (by simp;omega),(aJ7 hp (by omega)).1]
  simp only [aE,uN,ho.1]
  rw [I8 (by rw [LZ];omega) (by rw [LZ];omega) (by omega)]
  simp only [aE]
  rw [aN (by rw [L4];simp;omega),aM (by omega) (by omega),aSK];rfl
 ·simp only [BV,iL,aE]
  rw [if_neg (by simp;omega)]
theorem aP8:loop (HC c (p:Int) (bS c)) ([],0,gB b p c 0)=some (gS p (bS c).toNat,gB b p c (bS c).toNat):=by
 have h4:=mP c
 refine fV (bS c).toNat (fun k=>(gS p k,(k:Int),gB b p c k)) _ (fun k hk=>?_) ?_
 ·have ho:=aL8 (c:=c) hp (k:=k) (by omega)
  simp only [HC,NT]
  rw [if_pos (by simp;omega),(aJ7 hp (by omega)).2]
  simp only [aE,AW,ho.1]
  rw [XB (by omega),aE,U2 (by rw [LZ];omega) (by rw [LZ];omega) (by omega)]
  simp only [aE]
  rw [aN (by rw [L4];simp;omega),aM (by omega) (by omega),aSK];rfl
 ·simp only [HC]
  rw [if_neg (by simp;omega)]
end
theorem aX3{h:aC}(hh:W5 h){c:Int}(hc:0<=c/\c<=2) :
  (sM h c=some (h,[])/\GF h c=some (h,[])) \/
  ∃p,p < 6/\bQ h p < 0/\sM h c=some (⟨gB h.Bytes p c (bS c).toNat,h.Class.set p c⟩,gS p (bS c).toNat)/\GF h c=some (⟨gB h.Bytes p c (bS c).toNat,h.Class.set p c⟩,gS p (bS c).toNat):=by
 have hs:=hh.1
 have h6:=hs.2.1
 have h384:=hs.1
 have hp4:=mP c
 have hcp:=RF (h:=h) (by omega) (by omega)
 have hne:∀j (hj:j < 6),j < h.Class.findIdx (fun x=>decide (x = -1))->h.Class[j]≠-1:=fun j hj hlt=>by
  have:=List.not_of_lt_findIdx hlt
  simpa using this
 generalize hq:h.Class.findIdx (fun x=>decide (x = -1))=q at hne
 have hq6:q<=6:=by rw [<-hq,<-h6];exact List.findIdx_le_length
 have s1:∀k (hk:k < q),fK h c (k:Int)=some (.next ((k+1:Nat):Int)):=fun k hk=>by
  have:=hne k (by omega) hk
  have n:(h.Class[k] != -1)=true:=by simpa using this
  simp only [fK,I4]
  rw [if_pos (by simp;omega),aU (by omega),aE,n,if_pos rfl,aM (by omega) (by omega)];rfl
 have s2:∀k (hk:k < q),eZ h.Class (-1) (k:Int)=some (.next ((k+1:Nat):Int)):=fun k hk=>by
  have:=hne k (by omega) hk
  have n:((-1:Int) == h.Class[k])=false:=by simpa using fun a=>this a.symm
  simp only [eZ]
  rw [if_pos (by simp;omega),aU (by omega),aE,n,aM (by omega) (by omega)];rfl
 have hm:h.Bytes.length<=maxLen:=by rw [h384];simp [maxLen]
 by_cases h5:q=6
 ·left
  have a1:loop (fK h c) 0=some (Out.brk ()):=fV q (fun k=>(k:Int)) _ s1 (by simp only [fK];rw [if_neg (by simp;omega)])
  have a2:loop (eZ h.Class (-1)) 0=some (Out.brk ()):=fV q (fun k=>(k:Int)) _ s2 (by simp only [eZ];rw [if_neg (by simp;omega)])
  constructor
  ·unfold sM;rw [a1];rfl
  ·unfold GF mY
   rw [a2,hcp,LS hm,kE,aZ hh,aZ hc];rfl
 ·right
  have hq5:q < 6:=by omega
  have he:h.Class[q] = -1:=by
   have:=List.findIdx_getElem (xs:=h.Class) (p:=fun x=>decide (x = -1)) (w:=by rw [hq];omega)
   simp only [hq,decide_eq_true_eq] at this
   exact this
  refine⟨q,hq5,by rw [<-VW hs hq5,he];omega,?_,?_⟩
  ·have a1:loop (fK h c) 0=some (Out.ret (⟨gB h.Bytes q c (bS c).toNat,h.Class.set q c⟩,gS q (bS c).toNat)):=fV q (fun k=>(k:Int)) _ s1 (by
    have e0:aY ((q:Int) * 64)=((q * 64:Nat):Int):=by rw [aM (by omega) (by omega)];omega
    have e1:aY (((q * 64:Nat):Int)+1)=((q * 64+1:Nat):Int):=by rw [aM (by omega) (by omega)];omega
    have e2:aY (((q * 64:Nat):Int)+2)=((q * 64+2:Nat):Int):=by rw [aM (by omega) (by omega)];omega
    have n:(h.Class[q] != -1)=false:=by simpa using he
    simp only [fK,e0,e1,e2,P7]
    rw [if_pos (by simp;omega),aU (by omega),aE,n,if_neg (by simp),aU (by omega),aE,aU (by simp;omega),aE,iL,aE,aU (by simp;omega),aE]
    have:=aHC h384 hq5 hc
    simp only [gB] at this
    rw [this];rfl)
   unfold sM;rw [a1];rfl
  ·have a2:loop (eZ h.Class (-1)) 0=some (Out.ret (q:Int)):=fV q (fun k=>(k:Int)) _ s2 (by
    have n:((-1:Int) == h.Class[q])=true:=by rw [he];rfl
    simp only [eZ]
    rw [if_pos (by simp;omega),aU (by omega),aE,n];rfl)
   unfold GF mY
   rw [a2,hcp,LS hm,kE,aZ hh,aZ hc]
   have e0:aY ((q:Int) * 64)=((q * 64:Nat):Int):=by rw [aM (by omega) (by omega)];omega
   simp only [aE,pZ,dE,aQ,if_false,zK,e0,BX,NU,P7]
   rw [bM (by omega),if_neg (by simp),aU (by omega),aE,aN (by omega),a2P _ _ (by omega)]
   have:=aP8 h384 hq5 hc
   simp only [gB] at this
   rw [this];rfl
theorem LOk.count{l:aB}(h:LOk l):(dJ l).length<=24:=aP7 24 _ h.2.2.2.2 (fun x hx=>by have:=h.2.2.2.1 x hx;omega)
theorem aTT{m:Mem}(hs:fW m.aC){s:Int}(hc:0<=aW m.aC s):∃h,AN m s=some h/\HD m s=some h:=by
 unfold AN HD N6 NV xZ xJ
 rw [pL hs hc,HX hs hc,aE,aE,b7,b7,wX,dX]
 have h1:=(qH hc).1
 simp only [aZ h1,aE,dE,aQ,if_false]
 by_cases q:1<=iP m.aC s/\iP m.aC s<=6
 ·simp only [aZ q,dE,aQ,if_false];exact⟨_,rfl,rfl⟩
 ·simp only [bM q,iU,if_true];exact⟨_,rfl,rfl⟩
theorem X6{l:List aR}{k:Nat}(hk:k < l.length)(t:List Int):(cN (l.set k ⟨l[k].aT++t⟩)).length=(cN l).length+t.length:=by
 rw [GP hk,C6 hk];simp;omega
end Go.Gv
end
noncomputable section
namespace Go.Gv
def bt(b:List Int)(i:Nat):Int:=b.getD i 0
theorem aHD{b:List Int}{i:Nat}(h:i < b.length):b[i]=bt b i:=by
 unfold bt;rw [gR,eM h];rfl
theorem ld4{b:List Int}{a:Nat}(h:a+4<=b.length):ld b a 4=((bt b a * 256+bt b (a+1)) * 256+bt b (a+2)) * 256+bt b (a+3):=by
 unfold ld
 rw [y6 (by omega),y6 (by omega),y6 (by omega),y6 (by omega)]
 simp only [List.take_succ_cons,aBP,ldF,V8,List.foldl_nil,aHD (b:=b) (i:=a) (by omega),aHD (b:=b) (i:=a+1) (by omega),aHD (b:=b) (i:=a+1+1) (by omega),aHD (b:=b) (i:=a+1+1+1) (by omega)]
 simp only [YN,Nat.reduceAdd];omega
theorem CL{b:List Int}{i j:Nat}{v:Int}(hi:i < b.length):bt (b.set i v) j=if j=i then v else bt b j:=by
 unfold bt
 rw [gR,gR,RO]
 by_cases h:i=j
 ·subst h;simp [hi]
 ·have h':¬j=i:=fun q=>h q.symm
  simp [h,h']
theorem wZ{b:List Int}{a:Nat}{n:Int}(h:a+4<=b.length)(j:Nat):bt (st4 b a n) j=if j=a+3 then n else if a<=j/\j < a+3 then 0 else bt b j:=by
 unfold st4
 rw [CL (by simp;omega),CL (by simp;omega),CL (by simp;omega),CL (by omega)]
 by_cases h1:j=a+3
 ·simp [h1]
 ·rw [if_neg h1,if_neg h1]
  by_cases h2:a<=j/\j < a+3
  ·rw [if_pos h2]
   by_cases h3:j=a+2
   ·simp [h3]
   ·rw [if_neg h3]
    by_cases h4:j=a+1
    ·simp [h4]
    ·rw [if_neg h4,if_pos (by omega)]
  ·rw [if_neg h2,if_neg (by omega),if_neg (by omega),if_neg (by omega)]
theorem aP9{b:List Int}{a:Nat}{n:Int}(h:a+4<=b.length):ld (st4 b a n) a 4=n:=by
 rw [ld4 (by rw [FK];exact h),wZ h,wZ h,wZ h,wZ h,if_neg (by omega),if_pos (by omega),if_neg (by omega),if_pos (by omega),if_neg (by omega),if_pos (by omega),if_pos rfl]
 omega
theorem KO{b b':List Int}{a:Nat}(h:a+4<=b.length)(hl:b'.length=b.length)(hs:∀j,a<=j->j < a+4->bt b' j=bt b j):ld b' a 4=ld b a 4:=by
 rw [ld4 (by omega),ld4 h,hs a (by omega) (by omega),hs (a+1) (by omega) (by omega),hs (a+2) (by omega) (by omega),hs (a+3) (by omega) (by omega)]
def aBJ(h:aC)(p:Nat):Prop:=
 if bQ h p < 0 then ∀k,k < 64->bt h.Bytes (p * 64+k)=0
 else ((bt h.Bytes (p * 64)=171/\bt h.Bytes (p * 64+1)=bQ h p/\bt h.Bytes (p * 64+2)=bS (bQ h p))/\(∀k,3<=k->k < 8->bt h.Bytes (p * 64+k)=0)/\∀i,i < (bS (bQ h p)).toNat->1<=ld h.Bytes (p * 64+8+i * (aS (bQ h p)).toNat) 4/\ld h.Bytes (p * 64+8+i * (aS (bQ h p)).toNat) 4<=7)
theorem aJ8{h:aC}(hs:fW h){p:Nat}(hp:p < 6){k:Nat}(hk:k < 64):(eG h p).getD k 0=bt h.Bytes (p * 64+k):=by
 rw [<-aJ2 hs hp hk,aHD (by have:=hs.1;omega)]
theorem ZZ{l:List Int}{x:Int}:x∈l↔∃k,k < l.length/\l.getD k 0=x:=by
 rw [RP]
 constructor
 ·rintro⟨k,hk,e⟩
  exact⟨k,hk,by rw [gR,eM hk];exact e⟩
 ·rintro⟨k,hk,e⟩
  exact⟨k,hk,by rw [gR,eM hk] at e;exact e⟩
theorem L5{h:aC}(hs:fW h){p:Nat}(hp:p < 6):nE h p↔aBJ h p:=by
 unfold nE aBJ
 have hl:=LR hs hp
 split
 ·constructor
  ·intro q k hk
   rw [<-aJ8 hs hp hk]
   exact q _ (ZZ.2 ⟨k,by omega,rfl⟩)
  ·intro q x hx
   obtain⟨k,hk,rfl⟩:=ZZ.1 hx
   rw [aJ8 hs hp (by omega)];exact q k (by omega)
 ·rw [aJ8 hs hp (by omega),aJ8 hs hp (by omega),aJ8 hs hp (by omega)]
  have e:(∀x∈((eG h p).drop 3).take 5,x=0)↔∀k,3<=k->k < 8->bt h.Bytes (p * 64+k)=0:=by
   have g:∀j,j < 5->(((eG h p).drop 3).take 5).getD j 0=bt h.Bytes (p * 64+(3+j)):=fun j hj=>by
    rw [<-aJ8 hs hp (by omega),gR,gR,H0,if_pos hj,YG]
   constructor
   ·intro q k h3 h8
    have:=q _ (ZZ.2 ⟨k - 3,by simp [hl];omega,rfl⟩)
    rw [g _ (by omega)] at this
    rw [show 3+(k - 3)=k by omega] at this;exact this
   ·intro q x hx
    obtain⟨k,hk,rfl⟩:=ZZ.1 hx
    simp [hl] at hk
    rw [g _ hk];exact q _ (by omega) (by omega)
  rw [e];rfl
theorem aBJ.same{h h':aC}{p:Nat}(hp:p < 6)(hs:fW h)(hl:h'.Bytes.length=h.Bytes.length)(hc:bQ h' p=bQ h p)(hb:∀k,k < 64->bt h'.Bytes (p * 64+k)=bt h.Bytes (p * 64+k))(q:aBJ h p):aBJ h' p:=by
 have h1:=hs.1
 unfold aBJ at q ⊢
 rw [hc]
 split
 ·rename_i q0;rw [if_pos q0] at q
  exact fun k hk=>by rw [hb k hk];exact q k hk
 ·rename_i q0;rw [if_neg q0] at q
  obtain⟨⟨a1,a2,a3⟩,a4,a5⟩:=q
  have b0:=hb 0 (by omega);have b1:=hb 1 (by omega);have b2:=hb 2 (by omega)
  simp only [KX] at b0
  refine⟨⟨by rw [b0];exact a1,by rw [b1];exact a2,by rw [b2];exact a3⟩,fun k k3 k8=>by rw [hb k (by omega)];exact a4 k k3 k8,fun i hi=>?_⟩
  have hz:=uO hs hp (c:=bQ h p) rfl hi
  rw [KO (b:=h.Bytes) (by omega) hl fun j j1 j2=>by
   have:=hb (j - p * 64) (by omega)
   rw [show p * 64+(j - p * 64)=j by omega] at this;exact this]
  exact a5 i hi
theorem nG{h:aC}{s:Int}(hc:0<=aW h s):∃p i,p < 6/\i < (bS (bQ h p)).toNat/\s=(p:Int) * 4+i/\aW h s=bQ h p/\(eF s (aW h s)).toNat=p * 64+8+i * (aS (bQ h p)).toNat/\(s / 4).toNat=p:=by
 obtain⟨h1,h2,h3⟩:=qH hc
 have hle:=mP (bQ h (s / 4).toNat)
 refine⟨(s / 4).toNat,(s % 4).toNat,by omega,by omega,by omega,h3,?_,rfl⟩
 rw [h3]
 unfold eF
 rw [if_pos ⟨h1,by omega⟩]
 have hst:=(X4 (bQ h (s / 4).toNat)).1
 have e:s % 4 * aS (bQ h (s / 4).toNat)=(((s % 4).toNat * (aS (bQ h (s / 4).toNat)).toNat:Nat):Int):=by
  rw [Int.natCast_mul,aSW (by omega),aSW hst]
 omega
theorem RG{c:Int}{i j:Nat}(hi:i < (bS c).toNat)(hj:j < (bS c).toNat)(hn:i≠j):i * (aS c).toNat+4<=j * (aS c).toNat\/j * (aS c).toNat+4<=i * (aS c).toNat:=by
 have hc:0<=c/\c<=2:=gK.1 (by omega)
 have h12:12<=(aS c).toNat:=by rcases eX hc with rfl | rfl | rfl <;> decide
 rcases Nat.lt_or_gt_of_ne hn with q | q
 ·left
  have:(i+1) * (aS c).toNat<=j * (aS c).toNat:=zA _ q
  rw [iD] at this;omega
 ·right
  have:(j+1) * (aS c).toNat<=i * (aS c).toNat:=zA _ q
  rw [iD] at this;omega
theorem W5.aX4{h:aC}(hh:W5 h){s g:Int}(hc:0<=aW h s)(hg:1<=g/\g<=7) :
  W5 ⟨st4 h.Bytes (eF s (aW h s)).toNat g,h.Class⟩/\∀t,0<=aW h t->iP ⟨st4 h.Bytes (eF s (aW h s)).toNat g,h.Class⟩ t=if t=s then g else iP h t:=by
 obtain⟨hs,hp⟩:=hh
 have h384:=hs.1
 have hs':fW ⟨st4 h.Bytes (eF s (aW h s)).toNat g,h.Class⟩:=⟨by rw [FK];exact hs.1,hs.2.1,aOA hs.2.2.1 _ (by omega),hs.2.2.2⟩
 obtain⟨p,i,p6,hi,es,ec,eo,ep⟩:=nG hc
 have hz:=uO hs p6 rfl hi
 have h4:=mP (bQ h p)
 refine⟨⟨hs',fun q hq=>?_⟩,fun t ht=>?_⟩
 ·rw [L5 hs' hq]
  have hold:=(L5 hs hq).1 (hp q hq)
  by_cases e:q=p
  ·subst e
   have hpos:0 < bS (bQ h q):=by omega
   have hcl:¬bQ h q < 0:=by have:=gK.1 hpos;omega
   unfold aBJ at hold ⊢
   have hcl':bQ ⟨st4 h.Bytes (eF s (aW h s)).toNat g,h.Class⟩ q=bQ h q:=rfl
   rw [hcl']
   rw [if_neg hcl] at hold ⊢
   obtain⟨⟨a1,a2,a3⟩,a4,a5⟩:=hold
   have bs:∀k,k < 8->bt (st4 h.Bytes (eF s (aW h s)).toNat g) (q * 64+k)=bt h.Bytes (q * 64+k):=fun k hk=>by
    rw [wZ (by omega),if_neg (by omega),if_neg (by omega)]
   have b0:=bs 0 (by omega);have b1:=bs 1 (by omega);have b2:=bs 2 (by omega)
   simp only [KX] at b0
   refine⟨⟨by rw [b0];exact a1,by rw [b1];exact a2,by rw [b2];exact a3⟩,fun k k3 k8=>by rw [bs k k8];exact a4 k k3 k8,fun j hj=>?_⟩
   have hzj:=uO hs p6 rfl hj
   by_cases ej:j=i
   ·subst ej
    simp only [eo]
    rw [aP9 (by omega)];exact hg
   ·rw [KO (b:=h.Bytes) (by omega) (by simp only [FK]) fun k k1 k2=>?_]
    ·exact a5 j hj
    ·simp only [eo]
     have:=RG hi hj (fun q=>ej q.symm)
     rw [wZ (by omega),if_neg (by omega),if_neg (by omega)]
  ·refine aBJ.same hq hs (by simp only [FK]) rfl (fun k hk=>?_) hold
   rw [wZ (by omega),if_neg (by omega),if_neg (by omega)]
 ·have e2:aW ⟨st4 h.Bytes (eF s (aW h s)).toNat g,h.Class⟩ t=aW h t:=rfl
  unfold iP
  rw [e2]
  by_cases e:t=s
  ·subst e;rw [if_pos rfl];simp only;rw [aP9 (by omega)]
  ·rw [if_neg e]
   obtain⟨p',i',p6',hi',es',ec',eo',ep'⟩:=nG ht
   have hz':=uO hs p6' rfl hi'
   rw [KO (b:=h.Bytes) (by omega) (by simp only [FK]) fun k k1 k2=>?_]
   simp only
   by_cases ee:p'=p
   ·subst ee
    have:=RG hi hi' (fun q=>e (by rw [es,es',q]))
    rw [wZ (by omega),if_neg (by omega),if_neg (by omega)]
   ·have h4':=mP (bQ h p')
    rw [wZ (by omega),if_neg (by omega),if_neg (by omega)]
theorem aEK{p k:Nat}{c:Int}(hp:p < 6)(hk:(k:Int) < bS c):aX2 p k c=p * 64+8+k * (aS c).toNat/\8+k * (aS c).toNat+4<=64:=by
 have hc:0<=c/\c<=2:=gK.1 (by omega)
 have h1:=aL8 (c:=c) hp hk
 have hle:=mP c
 have e:=h1.1
 unfold eF at e
 rw [if_pos (by omega)] at e
 have e1:((p:Int) * 4+k) / 4=p:=by omega
 have e2:((p:Int) * 4+k) % 4=k:=by omega
 rw [e1,e2] at e
 rcases eX hc with rfl | rfl | rfl
 ·rw [show aS 0=12 from rfl] at e ⊢
  rw [show bS 0=4 from rfl] at hk
  rw [show(12:Int).toNat=12 from rfl]
  omega
 ·rw [show aS 1=20 from rfl] at e ⊢
  rw [show bS 1=2 from rfl] at hk
  rw [show(20:Int).toNat=20 from rfl]
  omega
 ·rw [show aS 2=44 from rfl] at e ⊢
  rw [show bS 2=1 from rfl] at hk
  rw [show(44:Int).toNat=44 from rfl]
  omega
theorem aX5{b:List Int}{p:Nat}{c:Int}(hl:b.length=384)(hp:p < 6)(hc:0<=c/\c<=2):∀k:Nat,(k:Int)<=bS c->∀j,(j < p * 64\/p * 64+64<=j->bt (gB b p c k) j=bt b j)/\(3<=j->j < 8->bt (gB b p c k) (p * 64+j)=bt b (p * 64+j))/\bt (gB b p c k) (p * 64)=171/\bt (gB b p c k) (p * 64+1)=c/\bt (gB b p c k) (p * 64+2)=bS c
 | 0, hk, j => by
  have key:∀i,bt (gB b p c 0) i=if i=p * 64+2 then bS c else if i=p * 64+1 then c else if i=p * 64 then 171 else bt b i:=fun i=>by
   unfold gB
   rw [CL (by simp;omega),CL (by simp;omega),CL (by omega)]
  refine⟨fun h=>?_,fun h1 h2=>?_,?_,?_,?_⟩
  ·rw [key,if_neg (by omega),if_neg (by omega),if_neg (by omega)]
  ·rw [key,if_neg (by omega),if_neg (by omega),if_neg (by omega)]
  ·rw [key,if_neg (by omega),if_neg (by omega),if_pos rfl]
  ·rw [key,if_neg (by omega),if_pos rfl]
  ·rw [key,if_pos rfl]
 | k + 1, hk, j => by
  have ih:=aX5 hl hp hc k (by omega)
  have hoff:=aEK (c:=c) hp (by omega:(k:Int) < bS c)
  have hbl:=LZ b p c k
  unfold gB
  refine⟨fun h=>?_,fun h1 h2=>?_,?_,?_,?_⟩
  ·rw [wZ (by omega),if_neg (by omega),if_neg (by omega)];exact(ih j).1 h
  ·rw [wZ (by omega),if_neg (by omega),if_neg (by omega)];exact(ih j).2.1 h1 h2
  ·rw [wZ (by omega),if_neg (by omega),if_neg (by omega)];exact(ih j).2.2.1
  ·rw [wZ (by omega),if_neg (by omega),if_neg (by omega)];exact(ih j).2.2.2.1
  ·rw [wZ (by omega),if_neg (by omega),if_neg (by omega)];exact(ih j).2.2.2.2
theorem aX6{b:List Int}{p:Nat}{c:Int}(hl:b.length=384)(hp:p < 6):∀k:Nat,(k:Int)<=bS c->∀i,i < k->ld (gB b p c k) (p * 64+8+i * (aS c).toNat) 4=1
 | 0,_,i,h=>absurd h (by omega)
 | k + 1, hk, i, h => by
  have hbl:=LZ b p c k
  have ho:=aEK (c:=c) hp (by omega:(k:Int) < bS c)
  unfold gB
  by_cases e:i=k
  ·subst e;rw [<-ho.1];exact aP9 (by omega)
  ·have hoi:=aEK (c:=c) hp (by omega:(i:Int) < bS c)
   have ha:=RG (c:=c) (i:=i) (j:=k) (by omega) (by omega) e
   rw [KO (b:=gB b p c k) (by omega) (by rw [FK]) fun j j1 j2=>by rw [wZ (by omega),if_neg (by omega),if_neg (by omega)]]
   exact aX6 hl hp k (by omega) i (by omega)
theorem U3{h:aC}(hs:fW h){B:List Int}{p q:Nat}(hq:q < 6){c:Int}:bQ ⟨B,h.Class.set p c⟩ q=if q=p then c else bQ h q:=by
 have h6:=hs.2.1
 unfold bQ
 rw [gR,gR,RO]
 by_cases e:p=q
 ·subst e;simp [h6,hq]
 ·have e':¬q=p:=fun z=>e z.symm
  simp [e,e']
theorem W5.a2Q{h:aC}(hh:W5 h){p:Nat}(hp:p < 6)(hun:bQ h p < 0){c:Int}(hc:0<=c/\c<=2) :
  W5 ⟨gB h.Bytes p c (bS c).toNat,h.Class.set p c⟩/\(∀t,(t / 4).toNat≠p->aW ⟨gB h.Bytes p c (bS c).toNat,h.Class.set p c⟩ t=aW h t)/\(∀t,0<=aW h t->(t / 4).toNat≠p/\iP ⟨gB h.Bytes p c (bS c).toNat,h.Class.set p c⟩ t=iP h t) /\
   ∀i,i < (bS c).toNat->aW ⟨gB h.Bytes p c (bS c).toNat,h.Class.set p c⟩ ((p:Int) * 4+i)=c/\iP ⟨gB h.Bytes p c (bS c).toNat,h.Class.set p c⟩ ((p:Int) * 4+i)=1:=by
 obtain⟨hs,hpg⟩:=hh
 have h384:=hs.1
 have hle:=mP c
 have hpn:((bS c).toNat:Int)<=bS c:=by omega
 have hb:=aX5 h384 hp hc (bS c).toNat hpn
 have hbl:=LZ h.Bytes p c (bS c).toNat
 have hs':fW ⟨gB h.Bytes p c (bS c).toNat,h.Class.set p c⟩:=⟨by simp only [hbl];exact h384,by simp only [dM];exact hs.2.1,aL7 hs.2.2.1 p hc _,fun x hx=>by
  rcases pN hx with q | rfl
  ·exact hs.2.2.2 x q
  ·omega⟩
 have hcls:∀t:Int,(t / 4).toNat≠p->aW ⟨gB h.Bytes p c (bS c).toNat,h.Class.set p c⟩ t=aW h t:=fun t ht=>by
  unfold aW
  by_cases q:0<=t/\t<=23
  ·rw [U3 hs (by omega),if_neg ht]
  ·rw [if_neg (fun z=>q z.1),if_neg (fun z=>q z.1)]
 refine⟨⟨hs',fun q hq=>?_⟩,hcls,fun t ht=>?_,fun i hi=>?_⟩
 ·rw [L5 hs' hq]
  have hold:=(L5 hs hq).1 (hpg q hq)
  by_cases e:q=p
  ·subst e
   unfold aBJ at hold ⊢
   rw [if_pos hun] at hold
   rw [U3 hs hq,if_pos rfl,if_neg (by omega)]
   refine⟨(hb 0).2.2,fun k k3 k8=>?_,fun i hi=>?_⟩
   ·simp only;rw [(hb k).2.1 k3 k8];exact hold k (by omega)
   ·simp only;rw [aX6 h384 hp _ hpn i hi];omega
  ·refine aBJ.same hq hs (by simp only [hbl]) (by rw [U3 hs hq,if_neg e]) (fun k hk=>?_) hold
   exact(hb _).1 (by omega)
 ·obtain⟨p',i',p6',hi',es',ec',eo',ep'⟩:=nG ht
  have hne:(t / 4).toNat≠p:=fun z=>by rw [ec',<-ep',z] at ht;omega
  refine⟨hne,?_⟩
  have hz':=uO hs p6' rfl hi'
  unfold iP
  rw [hcls t hne,KO (b:=h.Bytes) (by omega) (by simp only [hbl]) fun k k1 k2=>(hb k).1 (by omega)]
 ·have e1:((p:Int) * 4+i) / 4=p:=by omega
  have e2:((p:Int) * 4+i) % 4=i:=by omega
  have ec:aW ⟨gB h.Bytes p c (bS c).toNat,h.Class.set p c⟩ ((p:Int) * 4+i)=c:=by
   unfold aW
   rw [e1,e2,P7,U3 hs hp,if_pos rfl,if_pos (by omega)]
  refine⟨ec,?_⟩
  unfold iP
  rw [ec]
  have ho:=aEK (c:=c) hp (by omega:(i:Int) < bS c)
  have:(eF ((p:Int) * 4+i) c).toNat=p * 64+8+i * (aS c).toNat:=ho.1
  rw [this]
  exact aX6 h384 hp _ hpn i hi
def yT(m m':Mem)(k:Int):Prop:=nF m'/\∀s,dU m s=3->s≠k->dU m' s=3/\iP m'.aC s=iP m.aC s/\aW m'.aC s=aW m.aC s
theorem yT.refl{m:Mem}(h:nF m)(k:Int):yT m m k:=⟨h,fun _ h _=>⟨h,rfl,rfl⟩⟩
theorem yT.live{m m':Mem}{k h:Int}(q:yT m m' k)(hl:hC m h)(hn:h % 32≠k):hC m' h:=by
 obtain⟨h1,h2,h3⟩:=hl
 obtain⟨a,b,_⟩:=q.2 _ h2 hn
 exact⟨h1,a,by rw [b];exact h3⟩
theorem NI{l:List aR}{k j:Nat}(hk:k < l.length){t:aR}:dS (l.set k t) j=if j=k then t.aT else dS l j:=by
 unfold dS
 rw [gR,gR,RO]
 by_cases e:k=j
 ·subst e;simp [hk]
 ·have e':¬j=k:=fun z=>e z.symm
  simp [e,e']
theorem aJ9{l:List aR}{k:Nat}(hk:k < l.length){t:aR}(ht:t.aT.Sublist l[k].aT):(cN (l.set k t)).Sublist (cN l):=by
 rw [GP hk,C6 hk]
 exact(aO8 _).append (ht.append (aO8 _))
theorem FL{l:List aR}{k:Nat}(hk:k < l.length){xs:List Int}{s:Int}:s∈cN (l.set k ⟨l[k].aT++xs⟩)↔s∈cN l\/s∈xs:=by
 rw [GP hk,C6 hk]
 simp only [e9]
 constructor
 ·rintro(h | (h | h) | h)
  ·exact .inl (.inl h)
  ·exact .inl (.inr (.inl h))
  ·exact .inr h
  ·exact .inl (.inr (.inr h))
 ·rintro((h | h | h) | h)
  ·exact .inl h
  ·exact .inr (.inl (.inl h))
  ·exact .inr (.inr h)
  ·exact .inr (.inl (.inr h))
theorem U4{l:List aR}{k:Nat}(hk:k < l.length){xs r q:List Int}(h:(q++(cN l++r)).Nodup)(hx:xs.Nodup)(hd:∀x∈xs,x∉q++(cN l++r)):(q++(cN (l.set k ⟨l[k].aT++xs⟩)++r)).Nodup:=by
 have hp:(q++(cN (l.set k ⟨l[k].aT++xs⟩)++r)).Perm (xs++(q++(cN l++r))):=by
  rw [GP hk,C6 hk]
  have e1:q++(cN (l.take k)++(l[k].aT++xs++cN (l.drop (k+1)))++r)=(q++cN (l.take k)++l[k].aT)++(xs++(cN (l.drop (k+1))++r)):=by simp
  have e2:xs++(q++(cN (l.take k)++(l[k].aT++cN (l.drop (k+1)))++r))=xs++((q++cN (l.take k)++l[k].aT)++(cN (l.drop (k+1))++r)):=by simp
  rw [e1,e2]
  exact List.perm_append_comm_assoc _ _ _
 rw [hp.nodup_iff,List.nodup_append]
 exact⟨hx,h,fun a ha b hb e=>hd a ha (e ▸ hb)⟩
theorem Z0{m m':Mem}{s:Int}(h1:aW m'.aC s=aW m.aC s)(h2:iP m'.aC s=iP m.aC s)(h3:s∈dJ m'.aB↔s∈dJ m.aB):dU m' s=dU m s:=by
 unfold dU
 rw [h1,h2]
 by_cases q:s∈dJ m.aB
 ·rw [if_pos q,if_pos (h3.2 q)]
 ·rw [if_neg q,if_neg (fun z=>q (h3.1 z))]
theorem iA{m:Mem}{s:Int}:dU m s=3↔0<=aW m.aC s/\s∉dJ m.aB/\iP m.aC s<=6:=by
 unfold dU
 constructor
 ·intro h
  split at h
  ·omega
  ·split at h
   ·omega
   ·split at h
    ·omega
    ·exact⟨by omega,by assumption,by omega⟩
 ·rintro⟨a,b,c⟩
  rw [if_neg (by omega),if_neg b,if_neg (by omega)]
noncomputable section
variable {m:Mem} (hm:nF m)
include hm
theorem nF.a4J{k:Nat}(hk:k < 9){t:aR}(ht:t.aT.Sublist (dS m.aB.Own k)):yT m ⟨m.aC,⟨m.aB.Global,m.aB.Own.set k t⟩⟩ (-1):=by
 obtain⟨⟨hh,h3,h9,h2,hr,hn⟩,hg,ho⟩:=hm
 have hk':k < m.aB.Own.length:=by omega
 have ht':t.aT.Sublist m.aB.Own[k].aT:=by rw [dK hk'];exact ht
 have hsub:(dJ ⟨m.aB.Global,m.aB.Own.set k t⟩).Sublist (dJ m.aB):=(aO8 _).append (aJ9 hk' ht')
 refine⟨⟨⟨hh,h3,by simpa using h9,fun s hs=>?_,fun x hx=>hr x (hsub.subset hx),hsub.nodup hn⟩,hg,fun j hj=>?_⟩,fun s hs _=>⟨?_,rfl,rfl⟩⟩
 ·rcases pN hs with q | rfl
  ·exact h2 s q
  ·have:=ht'.length_le;have:=h2 _ (eN hk');omega
 ·unfold FJ
  simp only [NI hk']
  split
  ·rename_i e;subst e
   exact fun x hx=>ho j hj x (ht.subset hx)
  ·exact ho j hj
 ·rw [iA] at hs ⊢
  exact⟨hs.1,fun q=>hs.2.1 (hsub.subset q),hs.2.2⟩
theorem nF.aTU{k:Nat}(hk:k < 3){t:aR}(ht:t.aT.Sublist (dS m.aB.Global k)):yT m ⟨m.aC,⟨m.aB.Global.set k t,m.aB.Own⟩⟩ (-1):=by
 obtain⟨⟨hh,h3,h9,h2,hr,hn⟩,hg,ho⟩:=hm
 have hk':k < m.aB.Global.length:=by omega
 have ht':t.aT.Sublist m.aB.Global[k].aT:=by rw [dK hk'];exact ht
 have hsub:(dJ ⟨m.aB.Global.set k t,m.aB.Own⟩).Sublist (dJ m.aB):=(aJ9 hk' ht').append (aO8 _)
 refine⟨⟨⟨hh,by simpa using h3,h9,h2,fun x hx=>hr x (hsub.subset hx),hsub.nodup hn⟩,fun j hj=>?_,ho⟩,fun s hs _=>⟨?_,rfl,rfl⟩⟩
 ·unfold MG
  simp only [NI hk']
  split
  ·rename_i e;subst e
   exact fun x hx=>hg j hj x (ht.subset hx)
  ·exact hg j hj
 ·rw [iA] at hs ⊢
  exact⟨hs.1,fun q=>hs.2.1 (hsub.subset q),hs.2.2⟩
theorem nF.a1G{k:Nat}(hk:k < 9){xs:List Int}(hl:(dS m.aB.Own k).length+xs.length<=2)(hx:xs.Nodup)(hf:FI m.aC xs ((k % 3:Nat):Int))(hd:∀x∈xs,x∉dJ m.aB)(hk':k < m.aB.Own.length) :
  nF ⟨m.aC,⟨m.aB.Global,m.aB.Own.set k ⟨m.aB.Own[k].aT++xs⟩⟩⟩/\∀s,s∉xs->dU m s=3->dU ⟨m.aC,⟨m.aB.Global,m.aB.Own.set k ⟨m.aB.Own[k].aT++xs⟩⟩⟩ s=3:=by
 obtain⟨⟨hh,h3,h9,h2,hr,hn⟩,hg,ho⟩:=hm
 have hmem:∀s,s∈dJ ⟨m.aB.Global,m.aB.Own.set k ⟨m.aB.Own[k].aT++xs⟩⟩↔s∈dJ m.aB\/s∈xs:=fun s=>by
  unfold dJ;simp only [e9,FL hk'];rw [or_assoc]
 have hcl:∀x∈xs,0<=x/\x<=23:=fun x h=>by
  have:=(hf x h).1
  exact(qH (h:=m.aC) (s:=x) (by omega)).1
 refine⟨⟨⟨hh,h3,by simpa using h9,fun s hs=>?_,fun x hx=>?_,?_⟩,hg,fun j hj=>?_⟩,fun s hs h3=>?_⟩
 ·rcases pN hs with q | rfl
  ·exact h2 s q
  ·rw [<-dK hk'] at hl;simpa using hl
 ·rcases(hmem x).1 hx with q | q
  ·exact hr x q
  ·exact hcl x q
 ·have:=U4 (q:=cN m.aB.Global) (r:=[]) hk' (by simpa [dJ] using hn) hx (by simpa [dJ] using hd)
  simpa [dJ] using this
 ·unfold FJ
  simp only [NI hk']
  split
  ·rename_i e;subst e
   intro x hx
   rcases e9.1 hx with q | q
   ·rw [dK hk'] at q;exact ho j hj x q
   ·exact hf x q
  ·exact ho j hj
 ·rw [iA] at h3 ⊢
  exact⟨h3.1,fun q=>(((hmem s).1 q).elim h3.2.1 hs),h3.2.2⟩
theorem nF.aHE{k:Nat}(hk:k < 3){xs:List Int}(hx:xs.Nodup)(hf:FI m.aC xs (k:Int))(hd:∀x∈xs,x∉dJ m.aB)(hk':k < m.aB.Global.length) :
  nF ⟨m.aC,⟨m.aB.Global.set k ⟨m.aB.Global[k].aT++xs⟩,m.aB.Own⟩⟩/\∀s,s∉xs->dU m s=3->dU ⟨m.aC,⟨m.aB.Global.set k ⟨m.aB.Global[k].aT++xs⟩,m.aB.Own⟩⟩ s=3:=by
 obtain⟨⟨hh,h3,h9,h2,hr,hn⟩,hg,ho⟩:=hm
 have hmem:∀s,s∈dJ ⟨m.aB.Global.set k ⟨m.aB.Global[k].aT++xs⟩,m.aB.Own⟩↔s∈dJ m.aB\/s∈xs:=fun s=>by
  unfold dJ;simp only [e9,FL hk'];rw [or_right_comm]
 have hcl:∀x∈xs,0<=x/\x<=23:=fun x h=>by
  have:=(hf x h).1
  exact(qH (h:=m.aC) (s:=x) (by omega)).1
 refine⟨⟨⟨hh,by simpa using h3,h9,h2,fun x hx=>?_,?_⟩,fun j hj=>?_,ho⟩,fun s hs h3=>?_⟩
 ·rcases(hmem x).1 hx with q | q
  ·exact hr x q
  ·exact hcl x q
 ·have:=U4 (q:=[]) (r:=cN m.aB.Own) hk' (by simpa [dJ] using hn) hx (by simpa [dJ] using hd)
  simpa [dJ] using this
 ·unfold MG
  simp only [NI hk']
  split
  ·rename_i e;subst e
   intro x hx
   rcases e9.1 hx with q | q
   ·rw [dK hk'] at q;exact hg j hj x q
   ·exact hf x q
  ·exact hg j hj
 ·rw [iA] at h3 ⊢
  exact⟨h3.1,fun q=>(((hmem s).1 q).elim h3.2.1 hs),h3.2.2⟩
theorem nF.pM{x:Int}(hx:x∈dJ m.aB):0<=aW m.aC x/\iP m.aC x<=6:=by
 obtain⟨⟨hh,h3,h9,h2,hr,hn⟩,hg,ho⟩:=hm
 have key:∀(l:List aR),x∈cN l->∃k,k < l.length/\x∈dS l k:=fun l h=>by
  obtain⟨s,h1,h2⟩:=VY.1 h
  obtain⟨k,hk,rfl⟩:=RP.1 h1
  exact⟨k,hk,by rw [<-dK hk];exact h2⟩
 rcases e9.1 hx with q | q
 ·obtain⟨k,hk,h⟩:=key _ q
  have:=hg k (by omega) x h
  exact⟨by omega,this.2⟩
 ·obtain⟨k,hk,h⟩:=key _ q
  have:=ho k (by omega) x h
  exact⟨by omega,this.2⟩
theorem nF.heap{h':aC}(hh:W5 h')(hs:∀x∈dJ m.aB,aW h' x=aW m.aC x/\iP h' x=iP m.aC x):nF ⟨h',m.aB⟩:=by
 obtain⟨⟨_,hl⟩,hg,ho⟩:=hm
 have key:∀(l:List aR) k x,x∈dS l k->x∈cN l:=fun l k x h=>by
  unfold dS at h
  rw [gR] at h
  cases hk:l[k]? with
  | none=>rw [hk] at h;simp at h
  | some s=>rw [hk] at h;exact VY.2 ⟨s,CR hk,h⟩
 refine⟨⟨hh,hl⟩,fun k hk x hx=>?_,fun k hk x hx=>?_⟩
 ·obtain⟨a,b⟩:=hs x (V9 _ (key _ k x hx))
  show aW h' x=_/\iP h' x<=6
  rw [a,b];exact hg k hk x hx
 ·obtain⟨a,b⟩:=hs x (aEP _ (key _ k x hx))
  show aW h' x=_/\iP h' x<=6
  rw [a,b];exact ho k hk x hx
theorem nF.a71{s g:Int}(hu:dU m s=3)(hg:1<=g/\g<=7):yT m ⟨⟨st4 m.aC.Bytes (eF s (aW m.aC s)).toNat g,m.aC.Class⟩,m.aB⟩ s/\iP ⟨st4 m.aC.Bytes (eF s (aW m.aC s)).toNat g,m.aC.Class⟩ s=g:=by
 have hu':=iA.1 hu
 obtain⟨a,b⟩:=W5.aX4 hm.1.1 hu'.1 hg
 refine⟨⟨nF.heap hm a fun x hx=>⟨rfl,?_⟩,fun t ht hn=>?_⟩,by rw [b s hu'.1,if_pos rfl]⟩
 ·rw [b x (nF.pM hm hx).1,if_neg (show ¬x=s from fun e=>hu'.2.1 (e ▸ hx))]
 ·have ht':=iA.1 ht
  have e:iP ⟨st4 m.aC.Bytes (eF s (aW m.aC s)).toNat g,m.aC.Class⟩ t=iP m.aC t:=by rw [b t ht'.1,if_neg hn]
  exact⟨iA.2 ⟨ht'.1,ht'.2.1,by simp only [e];exact ht'.2.2⟩,e,rfl⟩
theorem nF.a6M{p:Nat}(hp:p < 6)(hun:bQ m.aC p < 0){c:Int}(hc:0<=c/\c<=2){xs:List Int}(hxs:∀x∈xs,∃i,i < (bS c).toNat/\x=(p:Int) * 4+(i:Nat))(hx:xs.Nodup)(hk':c.toNat < m.aB.Global.length) :
  yT m ⟨⟨gB m.aC.Bytes p c (bS c).toNat,m.aC.Class.set p c⟩,⟨m.aB.Global.set c.toNat ⟨m.aB.Global[c.toNat].aT++xs⟩,m.aB.Own⟩⟩ (-1):=by
 obtain⟨a,b,d,e⟩:=W5.a2Q hm.1.1 hp hun hc
 have h1:nF ⟨⟨gB m.aC.Bytes p c (bS c).toNat,m.aC.Class.set p c⟩,m.aB⟩:=nF.heap hm a fun x hx=>by
  obtain⟨q,r⟩:=d x (nF.pM hm hx).1
  exact⟨b x q,r⟩
 have hno:∀x∈xs,¬0<=aW m.aC x:=fun x h q=>by
  obtain⟨i,hi,rfl⟩:=hxs x h
  have h4:=mP c
  exact(d _ q).1 (by omega)
 obtain⟨f,g⟩:=nF.aHE h1 (k:=c.toNat) (by omega) hx (fun x h=>by
  obtain⟨i,hi,rfl⟩:=hxs x h
  have:=e i hi
  exact⟨by simp only [this.1];omega,by simp only [this.2];omega⟩) (fun x h q=>hno x h (nF.pM hm q).1) hk'
 refine⟨f,fun s hs _=>?_⟩
 have hs':=iA.1 hs
 obtain⟨q,r⟩:=d s hs'.1
 have h2:dU ⟨⟨gB m.aC.Bytes p c (bS c).toNat,m.aC.Class.set p c⟩,m.aB⟩ s=3:=iA.2 ⟨by simp only [b s q];exact hs'.1,hs'.2.1,by simp only [r];exact hs'.2.2⟩
 exact⟨g s (fun h=>hno s h hs'.1) h2,r,b s q⟩
end
end Go.Gv
end
noncomputable section
namespace Go.Gv
theorem aX7{p n:Nat}{x:Int}(h:x∈gS p n):∃i,i < n/\x=(p:Int) * 4+(i:Nat):=by
 simp only [gS,DD,S9] at h
 obtain⟨i,h1,h2⟩:=h
 exact⟨i,h1,h2.symm⟩
theorem aOB(p n:Nat):(gS p n).Nodup:=by
 unfold gS
 rw [List.Nodup,List.pairwise_map]
 exact List.Pairwise.imp (fun h e=>h (by omega)) (List.nodup_range (n:=n))
theorem aOC{m:Mem}(hm:nF m){c:Int}(hc:0<=c/\c<=2) :
  ∃m' s,EW m c=some (m',s)/\JZ m c=some (m',s)/\yZ m'/\(0<=s->fW m'.aC/\0<=aW m'.aC s)/\yT m m' (-1):=by
 have hl:=hm.1.2
 have hcnt:=hl.count
 have hs:=hm.1.1.1
 have hsl:=hl.aB0 (by omega)
 have hp4:=mP c
 have hpp:0 < bS c:=gK.2 hc
 have hall:=rJ m.aB
 have hsG:∀s∈m.aB.Global,s.aT.length<=24:=fun s h=>by have:=IM h;omega
 have hsO:∀s∈m.aB.Own,s.aT.length<=24:=fun s h=>by have:=IM h;omega
 have h3:=hl.1
 have h9:=hl.2.1
 have hcpl:=OK (l:=m.aB) (by omega) (by omega) (fun s h=>by have:=hsG s h;omega) (fun s h=>by have:=hsO s h;omega)
 unfold EW JZ
 rcases aX3 hm.1.1 hc with ⟨e1,e2⟩ | ⟨p,hp,hun,e1,e2⟩
 ·rw [e1,e2,hcpl]
  have h1:=hs.1;have h2:=hs.2.1
  exact⟨_,_,rfl,rfl,⟨by simp only;omega,by simp only;omega,by simp only;omega,by simp only;omega,by simp only;omega⟩,fun h=>absurd h (by omega),yT.refl hm _⟩
 ·rw [e1,e2,hcpl]
  simp only [aE,IY,IX,I5,L4]
  have hn:(((bS c).toNat:Int) == 0)=false:=by simpa using (by omega:¬((bS c).toNat:Int)=0)
  have hk:c.toNat < m.aB.Global.length:=by omega
  have hg0:=hsG _ (eN hk)
  have hx:idx m.aB.Global c=some m.aB.Global[c.toNat]:=fU hc.1 (by omega)
  have hz:idx (gS p (bS c).toNat) 0=some ((p:Int) * 4):=by
   have:=aU (l:=gS p (bS c).toNat) (k:=0) (by rw [L4];omega)
   rw [show((0:Nat):Int)=0 from rfl] at this
   rw [this];simp [gS]
  have hlen:(List.drop (1:Int).toNat (List.take (bS c).toNat (gS p (bS c).toNat))).length<=4:=by simp [L4];omega
  simp only [hn,aQ,if_false,hx,aE,hz]
  rw [aN (by omega),aN (by omega)]
  have hcl:bQ ⟨gB m.aC.Bytes p c (bS c).toNat,m.aC.Class.set p c⟩ p=c:=by
   have h6:=hs.2.1
   unfold bQ;simp [gR,RO,h6,hp]
  refine⟨_,_,rfl,rfl,⟨by simp only [LZ];have:=hs.1;omega,by simp only [dM];have:=hs.2.1;omega,by simp only [dM];omega,by simp only;omega,?_⟩,fun _=>⟨⟨by simp only [LZ];exact hs.1,by simp only [dM];exact hs.2.1,aL7 hs.2.2.1 p hc _,fun x hx=>?_⟩,?_⟩,?_⟩
  ·rw [rJ];simp only [X6 hk];omega
  ·rcases pN hx with h | rfl
   ·exact hs.2.2.2 x h
   ·omega
  ·unfold aW
   have e4:((p:Int) * 4 / 4).toNat=p:=by omega
   rw [e4]
   simp only [hcl]
   rw [if_pos ⟨by omega,by omega⟩];exact hc.1
  ·exact nF.a6M hm hp hun hc (fun x hx=>aX7 (aQ2 (List.mem_of_mem_drop hx))) ((aOB p _).sublist ((List.drop_sublist _ _).trans (List.take_sublist _ _))) hk
theorem aQA(n:Int):∃c,EV n=some c/\JX n=some c/\(c = -1\/(0<=c/\c<=2)):=by
 have s1:∀k,0<=k/\k<=2->fX n k=some (if 1<=n/\n<=fB k then .stop (Out.ret k) else .next (k+1)):=fun k hk=>by
  simp only [fX]
  rw [if_pos (by simp;omega),rI,aE,b7,aE,aM (by omega) (by omega)]
  by_cases q:1<=n/\n<=fB k
  ·rw [aZ q,if_pos rfl,if_pos q]
  ·rw [bM q,if_neg (by simp),if_neg q]
 have s2:∀k,0<=k/\k<=2->kC n k=some (if 1<=n/\n<=fB k then .stop (Out.ret k) else .next (k+1)):=fun k hk=>by
  simp only [kC,BC]
  rw [if_pos (by simp;omega),LP,aE,aM (by omega) (by omega)]
  by_cases q1:1<=n
  ·by_cases q2:n<=fB k <;> simp [q1,q2]
  ·simp [q1]
 have st:∀k,0<=k/\k<=2->1<=n/\n<=fB k->loop (fX n) k=some (Out.ret k)/\loop (kC n) k=some (Out.ret k):=fun k hk h=>
  ⟨bL (by rw [s1 k hk,if_pos h]),bL (by rw [s2 k hk,if_pos h])⟩
 have nx:∀k,0<=k/\k<=2->¬(1<=n/\n<=fB k)->loop (fX n) k=loop (fX n) (k+1)/\loop (kC n) k=loop (kC n) (k+1):=fun k hk h=>
  ⟨bP (by rw [s1 k hk,if_neg h]),bP (by rw [s2 k hk,if_neg h])⟩
 unfold EV JX
 by_cases q0:1<=n/\n<=fB 0
 ·have:=st 0 (by omega) q0
  rw [this.1,this.2];exact⟨_,rfl,rfl,.inr (by omega)⟩
 ·have h0:=nx 0 (by omega) q0
  rw [h0.1,h0.2,show(0:Int)+1=1 from rfl]
  by_cases q1:1<=n/\n<=fB 1
  ·have:=st 1 (by omega) q1
   rw [this.1,this.2];exact⟨_,rfl,rfl,.inr (by omega)⟩
  ·have h1:=nx 1 (by omega) q1
   rw [h1.1,h1.2,show(1:Int)+1=2 from rfl]
   by_cases q2:1<=n/\n<=fB 2
   ·have:=st 2 (by omega) q2
    rw [this.1,this.2];exact⟨_,rfl,rfl,.inr (by omega)⟩
   ·have h2:=nx 2 (by omega) q2
    rw [h2.1,h2.2,show(2:Int)+1=3 from rfl,bL (body:=fX n) (r:=Out.brk ()) (by simp [fX]),bL (body:=kC n) (r:=Out.brk ()) (by simp [kC])]
    exact⟨_,rfl,rfl,.inl rfl⟩
theorem aX8{s:aR}(hl:s.aT.length<=1048576):∃t x,sL s=some (t,x)/\vX s=some (x,t)/\t.aT.length<=s.aT.length/\(0<=x->x∈s.aT)/\t.aT.Sublist s.aT:=by
 unfold sL vX N5
 rw [aM (by omega) (by omega)]
 by_cases q:s.aT.length=0
 ·rw [if_pos (by simpa using q),if_pos (by simp;omega)]
  exact⟨_,_,rfl,rfl,iE _,fun h=>absurd h (by omega),aO8 _⟩
 ·have hx:idx s.aT ((s.aT.length:Int) - 1)=some (s.aT[s.aT.length - 1]'(by omega)):=by
   rw [show((s.aT.length:Int) - 1)=((s.aT.length - 1:Nat):Int) by omega,aU (by omega)]
  rw [if_neg (by simpa using q),if_neg (by simp;omega),aN (by omega),hx]
  simp only [aE]
  rw [aN (by omega)]
  exact⟨_,_,rfl,rfl,by simp,fun _=>eN _,(List.drop_sublist _ _).trans (List.take_sublist _ _)⟩
theorem P1{w c:Int}(hw:0<=w/\w<=2)(hc:0<=c/\c<=2):wG w c=some (w * 3+c)/\K5 w c=some (w * 3+c):=by
 have e:aY (aY (w * 3)+c)=w * 3+c:=by rw [aM (x:=w * 3) (by omega) (by omega),aM (by omega) (by omega)]
 constructor
 ·unfold wG zZ;rw [b7,b7,aZ hw,aZ hc,e];rfl
 ·unfold K5 HA;rw [lG,kE,aZ hw,aZ hc,e];rfl
theorem aHF{l:List aR}{k:Nat}(hk:k < l.length){t:aR}(ht:t.aT.length<=l[k].aT.length):(cN (l.set k t)).length<=(cN l).length:=by
 rw [GP hk,C6 hk];simp;omega
noncomputable section
variable {m:Mem} (hm:nF m)
include hm
theorem nF.facts:(dJ m.aB).length<=24/\m.aB.Global.length=3/\m.aB.Own.length=9/\m.aC.Bytes.length=384/\m.aC.Class.length=6/\yZ m/\iX m.aB=some m.aB/\kY m.aB=some true /\
  (∀s∈m.aB.Global,s.aT.length<=24)/\(∀s∈m.aB.Own,s.aT.length<=24):=by
 have hl:=hm.1.2
 have hcnt:=hl.count
 have hall:=rJ m.aB
 have hsG:∀s∈m.aB.Global,s.aT.length<=24:=fun s h=>by have:=IM h;omega
 have hsO:∀s∈m.aB.Own,s.aT.length<=24:=fun s h=>by have:=IM h;omega
 have h3:=hl.1;have h9:=hl.2.1
 have h1:=hm.1.1.1.1;have h2:=hm.1.1.1.2.1
 refine⟨hcnt,h3,h9,h1,h2,⟨by omega,by omega,by omega,by omega,by omega⟩,OK (by omega) (by omega) (fun s h=>by have:=hsG s h;omega) (fun s h=>by have:=hsO s h;omega),by rw [SQ (by omega),aZ hl],hsG,hsO⟩
theorem aHG{w c:Int}(hw:0<=w/\w<=2)(hc:0<=c/\c<=2) :
  ∃l t x,idx m.aB.Own (w * 3+c)=some l/\sL l=some (t,x)/\JY m.aB w c=some (⟨m.aB.Global,m.aB.Own.set (w * 3+c).toNat t⟩,x) /\
   yZ ⟨m.aC,⟨m.aB.Global,m.aB.Own.set (w * 3+c).toNat t⟩⟩/\(0<=x->0<=aW m.aC x)/\yT m ⟨m.aC,⟨m.aB.Global,m.aB.Own.set (w * 3+c).toNat t⟩⟩ (-1):=by
 obtain⟨hcnt,h3,h9,h1,h2,hsm,hcp,hlo,hsG,hsO⟩:=nF.facts hm
 have hk:(w * 3+c).toNat < m.aB.Own.length:=by omega
 have hx:idx m.aB.Own (w * 3+c)=some m.aB.Own[(w * 3+c).toNat]:=fU (by omega) (by omega)
 have h24:=hsO _ (eN hk)
 obtain⟨t,x,e1,e2,ht,hmem,hsub⟩:=aX8 (s:=m.aB.Own[(w * 3+c).toNat]) (by omega)
 have hall:=rJ m.aB
 refine⟨_,t,x,hx,e1,?_,⟨by simp only;omega,by simp only;omega,by simp only;omega,by simp only [dM];omega,?_⟩,fun h0=>?_,nF.a4J hm (by omega) (by rw [<-dK hk];exact hsub)⟩
 ·unfold JY BD
  rw [hcp,(P1 hw hc).2,hlo]
  simp only [aE,dE,aQ,if_false]
  rw [bM (by omega),if_neg (by simp),hx,aE,e2];rfl
 ·have:=aHF hk ht
  rw [rJ];simp only;omega
 ·have:=hm.2.2 (w * 3+c).toNat (by omega) x (by rw [<-dK hk];exact hmem h0)
  omega
theorem XC{c:Int}(hc:0<=c/\c<=2) :
  ∃l t x,idx m.aB.Global c=some l/\sL l=some (t,x)/\BE m.aB c=some (⟨m.aB.Global.set c.toNat t,m.aB.Own⟩,x) /\
   yZ ⟨m.aC,⟨m.aB.Global.set c.toNat t,m.aB.Own⟩⟩/\(0<=x->0<=aW m.aC x)/\yT m ⟨m.aC,⟨m.aB.Global.set c.toNat t,m.aB.Own⟩⟩ (-1):=by
 obtain⟨hcnt,h3,h9,h1,h2,hsm,hcp,hlo,hsG,hsO⟩:=nF.facts hm
 have hk:c.toNat < m.aB.Global.length:=by omega
 have hx:idx m.aB.Global c=some m.aB.Global[c.toNat]:=fU (by omega) (by omega)
 have h24:=hsG _ (eN hk)
 obtain⟨t,x,e1,e2,ht,hmem,hsub⟩:=aX8 (s:=m.aB.Global[c.toNat]) (by omega)
 have hall:=rJ m.aB
 refine⟨_,t,x,hx,e1,?_,⟨by simp only;omega,by simp only;omega,by simp only [dM];omega,by simp only;omega,?_⟩,fun h0=>?_,nF.aTU hm (by omega) (by rw [<-dK hk];exact hsub)⟩
 ·unfold BE sH
  rw [hcp,hlo,kE,aZ hc]
  simp only [aE,dE,aQ,if_false]
  rw [hx,aE,e2];rfl
 ·have:=aHF hk ht
  rw [rJ];simp only;omega
 ·have:=hm.2.1 c.toNat (by omega) x (by rw [<-dK hk];exact hmem h0)
  omega
theorem a1H{w h:Int}(hw:0<=w/\w<=2)(hv:hC m h):∃m',IF m w (h % 32)=some m'/\QM m w h=some m'/\yZ m'/\yT m m' (h % 32):=by
 obtain⟨hcnt,h3,h9,h1,h2,hsm,hcp,hlo,hsG,hsO⟩:=nF.facts hm
 have hs:=hm.1.1.1
 have hh:=hv.1
 have hhm:=hh.mod
 have hcl:=hJ hv.2.1
 have hgo:=HW hcl
 have hc2:0<=aW m.aC (h % 32)/\aW m.aC (h % 32)<=2:=by
  obtain⟨_,q,e⟩:=qH hcl
  rw [e];exact gK.1 (by omega)
 have hg6:1<=h / 32/\h / 32<=6:=by unfold jN at hh;omega
 have hbl:m.aC.Bytes.length<=maxLen:=by rw [h1];simp [maxLen]
 have hnot:h % 32∉dJ m.aB:=fun q=>by
  have:=hv.2.1;unfold dU at this;rw [if_neg (by omega),if_pos q] at this;omega
 have hcpH:=RF (h:=m.aC) (by omega) (by omega)
 have eo:eF (h % 32) (aW m.aC (h % 32))=(((eF (h % 32) (aW m.aC (h % 32))).toNat:Nat):Int):=by omega
 have ew:aY (h / 32+1)=h / 32+1:=aM (by omega) (by omega)
 have ed:aY (Int.tdiv h 32)=h / 32:=by rw [FF (by unfold jN at hh;omega),aM (by omega) (by omega)]
 have hall:=rJ m.aB
 obtain⟨hr1,hr2⟩:=nF.a71 hm hv.2.1 (g:=h / 32+1) (by omega)
 have hu:=iA.1 hv.2.1
 unfold IF QM TV r9
 rw [hhm.1,i7 hs,hcpH,FH hbl,aZ hs,kG hs,ed,ew,hcp]
 simp only [aE,dE,aQ,if_false,K7,D8,K6]
 rw [pL hs hcl,hv.2.2,dX,bM (show ¬aW m.aC (h % 32) < 0 by omega),aZ (show 1<=h / 32+1/\h / 32+1<=7 by omega)]
 simp only [aE,dE,aQ,if_false,uN,AW,ew]
 generalize hgn:(eF (h % 32) (aW m.aC (h % 32))).toNat=a at eo
 rw [hgn] at hr1 hr2
 rw [eo,I8 (by omega) (by omega) (by omega),XB (by omega)]
 simp only [aE]
 rw [U2 (by omega) (by omega) (by omega)]
 simp only [aE,LF,NX,ed,ew,hhm.1]
 by_cases q:h / 32+1<=6
 ·have hk:(w * 3+aW m.aC (h % 32)).toNat < m.aB.Own.length:=by omega
  have hx:idx m.aB.Own (w * 3+aW m.aC (h % 32))=some m.aB.Own[(w * 3+aW m.aC (h % 32)).toNat]:=fU (by omega) (by omega)
  have hk2:(aW m.aC (h % 32)).toNat < m.aB.Global.length:=by omega
  have hx2:idx m.aB.Global (aW m.aC (h % 32))=some m.aB.Global[(aW m.aC (h % 32)).toNat]:=fU (by omega) (by omega)
  have b1:=hsO _ (eN hk)
  have b2:=hsG _ (eN hk2)
  rw [aZ q,if_pos rfl,if_pos rfl]
  unfold T6 aAX xM
  rw [kG hs,aE,hcp,(P1 hw hc2).1,(P1 hw hc2).2,hlo,wX,aZ (show 0<=h % 32/\h % 32<=23 by omega),UZ (by omega) (by simp only [maxLen];omega) (by simp only [maxLen];omega),bM hnot]
  simp only [aE,dE,aQ,if_false,hx,hx2]
  have nz:¬w * 3+aW m.aC (h % 32) < 0:=by omega
  simp only [bM nz,aQ,if_false]
  by_cases q2:m.aB.Own[(w * 3+aW m.aC (h % 32)).toNat].aT.length < 2
  ·have y1:(m.aB.Own[(w * 3+aW m.aC (h % 32)).toNat].aT.length:Int) < 2:=by omega
   have y2:¬(2:Int)<=m.aB.Own[(w * 3+aW m.aC (h % 32)).toNat].aT.length:=by omega
   simp only [aZ y1,bM y2,aQ,if_false,if_true]
   rw [aN (by simp;omega),aN (by simp;omega)]
   refine⟨_,rfl,rfl,⟨by simp only [FK];omega,by simp only;omega,by simp only;omega,by simp only [dM];omega,?_⟩,?_⟩
   ·rw [rJ];simp only [X6 hk];simp;omega
   ·have hmod:((w * 3+aW m.aC (h % 32)).toNat % 3:Nat)=(aW m.aC (h % 32)).toNat:=by omega
    obtain⟨z1,z2⟩:=nF.a1G hr1.1 (k:=(w * 3+aW m.aC (h % 32)).toNat) (by omega) (xs:=[h % 32]) (by simp only [<-dK hk,yL,S8];omega) (by simp) (fun x hx=>by
     simp at hx;subst hx
     exact⟨by rw [hmod];show aW m.aC (h % 32)=_;omega,by rw [hr2];omega⟩) (fun x hx=>by simp at hx;subst hx;exact hnot) hk
    refine⟨z1,fun s h1 h2=>?_⟩
    obtain⟨y1,y2,y3⟩:=hr1.2 s h1 h2
    exact⟨z2 s (by simpa using h2) y1,y2,y3⟩
  ·have y1:¬(m.aB.Own[(w * 3+aW m.aC (h % 32)).toNat].aT.length:Int) < 2:=by omega
   have y2:(2:Int)<=m.aB.Own[(w * 3+aW m.aC (h % 32)).toNat].aT.length:=by omega
   simp only [aZ y2,bM y1,aQ,if_false,if_true]
   rw [aN (by simp;omega),aN (by simp;omega)]
   refine⟨_,rfl,rfl,⟨by simp only [FK];omega,by simp only;omega,by simp only [dM];omega,by simp only;omega,?_⟩,?_⟩
   ·rw [rJ];simp only [X6 hk2];simp;omega
   ·obtain⟨z1,z2⟩:=nF.aHE hr1.1 (k:=(aW m.aC (h % 32)).toNat) (by omega) (xs:=[h % 32]) (by simp) (fun x hx=>by
     simp at hx;subst hx
     exact⟨by show aW m.aC (h % 32)=_;omega,by rw [hr2];omega⟩) (fun x hx=>by simp at hx;subst hx;exact hnot) hk2
    refine⟨z1,fun s h1 h2=>?_⟩
    obtain⟨y1,y2,y3⟩:=hr1.2 s h1 h2
    exact⟨z2 s (by simpa using h2) y1,y2,y3⟩
 ·rw [bM q,if_neg (by simp),if_neg (by simp)]
  refine⟨_,rfl,rfl,⟨by simp only [FK];omega,by simp only;omega,by simp only;omega,by simp only;omega,by rw [rJ];simp only;omega⟩,hr1⟩
end
theorem alloc_eq{b:aA}(hm:nF b.Mem){w:Int}(hw:0<=w/\w<=2)(s:Sub) :
  ∃x y,AO b w s=some (x,y)/\sI s b w=some (y,x)/\∃m',x=⟨m',b.aD,b.aO,b.l7⟩/\yZ m'/\yT b.Mem m' (-1):=by
 have hsm:=(nF.facts hm).2.2.2.2.2.1
 have hs:=hm.1.1.1
 obtain⟨c,ec,ei,hcc⟩:=aQA s.A
 unfold AO sI
 rw [ec,ei]
 simp only [aE]
 by_cases c0:c < 0
 ·simp only [aZ c0,if_true,bK,bG];exact⟨_,_,rfl,rfl,_,rfl,hsm,yT.refl hm _⟩
 have hc:0<=c/\c<=2:=by omega
 simp only [bM c0,aQ,if_false]
 have fin:∀(m':Mem) (x:Int),yZ m'->yT b.Mem m' (-1)->(0<=x->fW m'.aC/\0<=aW m'.aC x) ->
   ∃X Y,jI s x ⟨m',b.aD,b.aO,b.l7⟩=some (X,Y)/\iV s x ⟨m',b.aD,b.aO,b.l7⟩=some (Y,X)/\∃m',X=⟨m',b.aD,b.aO,b.l7⟩/\yZ m'/\yT b.Mem m' (-1):=by
  intro m' x hs' hst hx
  unfold jI iV
  simp only [yA,Q0,bK,bG]
  by_cases x0:0<=x
  ·obtain⟨h,e1,e2⟩:=aTT (m:=m') (hx x0).1 (hx x0).2
   rw [bM (show ¬x < 0 by omega),aZ x0]
   simp only [aQ,if_false,if_true,e1,e2,aE]
   exact⟨_,_,rfl,rfl,m',rfl,hs',hst⟩
  ·rw [aZ (show x < 0 by omega),bM x0]
   by_cases p3:s.Pc=3
   ·simp only [p3,beq_self_eq_true,if_true,aQ,if_false,aE];exact⟨_,_,rfl,rfl,m',rfl,hs',hst⟩
   ·have p3':(s.Pc == 3)=false:=by simpa using p3
    simp only [p3',if_true,aQ,if_false,aE];exact⟨_,_,rfl,rfl,m',rfl,hs',hst⟩
 by_cases p0:s.Pc=0
 ·obtain⟨l,t,x,e1,e2,e3,h1,h2,h3⟩:=aHG hm hw hc
  simp only [p0,beq_self_eq_true,if_true,(P1 hw hc).1,aE,e1,e2,e3]
  exact fin _ x h1 h3 (fun h=>⟨hs,h2 h⟩)
 ·have p0':(s.Pc == 0)=false:=by simpa using p0
  simp only [p0',aQ,if_false,yC,nH]
  obtain⟨l,t,x,e1,e2,e3,h1,h2,h3⟩:=XC hm hc
  by_cases p1:s.Pc=1
  ·simp only [p1,beq_self_eq_true,if_true,aE,e1,e2,e3]
   exact fin _ x h1 h3 (fun h=>⟨hs,h2 h⟩)
  ·have p1':(s.Pc == 1)=false:=by simpa using p1
   simp only [p1',aQ,if_false]
   by_cases p3:s.Pc=3
   ·simp only [p3,beq_self_eq_true,if_true,aE,e1,e2,e3]
    exact fin _ x h1 h3 (fun h=>⟨hs,h2 h⟩)
   ·have p3':(s.Pc == 3)=false:=by simpa using p3
    simp only [p3',aQ,if_false]
    by_cases p2:s.Pc=2
    ·obtain⟨m',x,e1,e2,h1,h2,h3⟩:=aOC hm hc
     simp only [p2,beq_self_eq_true,if_true,aE,e1,e2]
     exact fin m' x h1 h3 h2
    ·have p2':(s.Pc == 2)=false:=by simpa using p2
     simp only [p2',aQ,if_false,bK,bG];exact⟨_,_,rfl,rfl,_,rfl,hsm,yT.refl hm _⟩
end Go.Gv
end
noncomputable section
namespace Go.Gv
theorem aSL(r:dA)(e:Int):∃v,KV r e=some v/\PC r e=some v:=by
 unfold KV PC KI J0
 by_cases h:2<=e
 ·simp only [aZ h,if_true];exact⟨_,rfl,rfl⟩
 ·simp only [bM h,aQ,if_false];exact⟨_,rfl,rfl⟩
theorem a1I{b:aA}{w:Int}{l:bC}(hx:idx b.aO w=some l)(hl:l.Rows.length<=1000)(s:Sub) :
  (yE l.Rows s.Row s.E=some (-1)/\oT s b w=(bG s 0).bind fun x=>some (x,b)) \/
  ∃k,∃h:k < l.Rows.length,yE l.Rows s.Row s.E=some (k:Int)/\oT s b w=some (⟨s.Kind,s.A,2,s.E,(k:Int),0,l.Rows[k].Handle,s.Out,s.Code,s.cZ⟩,b):=by
 have key:∀d k,k+d=l.Rows.length ->
   (loop (eR l.Rows s.E) (k:Int)=some (Out.brk ())/\loop (fM s b w) (k:Int)=some (Out.brk ())) \/
   ∃j,∃h:j < l.Rows.length,loop (eR l.Rows s.E) (k:Int)=some (Out.ret (j:Int))/\loop (fM s b w) (k:Int)=some (Out.ret (⟨s.Kind,s.A,2,s.E,(j:Int),0,l.Rows[j].Handle,s.Out,s.Code,s.cZ⟩,b)):=by
  intro d
  induction d with
  | zero =>
   intro k hk
   left
   exact⟨bL (by simp only [eR];rw [if_neg (by simp;omega)]),bL (by simp only [fM,hx,aE];rw [if_neg (by simp;omega)])⟩
  | succ d ih =>
   intro k hk
   have hk':k < l.Rows.length:=by omega
   obtain⟨v,e1,e2⟩:=aSL l.Rows[k] s.E
   cases v with
   | true =>
    right
    refine⟨k,hk',bL ?_,bL ?_⟩
    ·simp only [eR]
     rw [if_pos (by simp;omega),aU hk',aE,e1];rfl
    ·simp only [fM,hx,aE]
     rw [if_pos (by simp;omega),aU hk',aE,e2];rfl
   | false =>
    have n1:eR l.Rows s.E (k:Int)=some (.next ((k+1:Nat):Int)):=by
     simp only [eR]
     rw [if_pos (by simp;omega),aU hk',aE,e1,aE,aM (by omega) (by omega)];rfl
    have n2:fM s b w (k:Int)=some (.next ((k+1:Nat):Int)):=by
     simp only [fM,hx,aE]
     rw [if_pos (by simp;omega),aU hk',aE,e2,aE,aM (by omega) (by omega)];rfl
    rw [bP n1,bP n2]
    exact ih (k+1) (by omega)
 unfold yE oT
 have hst:∃i:Nat,(if 0 < s.Row then s.Row else 0)=(i:Int)/\(if s.Row < 0 then 0 else s.Row)=(i:Int):=by
  refine⟨s.Row.toNat,?_,?_⟩ <;> split <;> omega
 obtain⟨i,i1,i2⟩:=hst
 rw [i1,i2]
 by_cases hi:i<=l.Rows.length
 ·rcases key (l.Rows.length - i) i (by omega) with ⟨a,c⟩ | ⟨j,hj,a,c⟩
  ·left;rw [a,c];exact⟨rfl,rfl⟩
  ·right;rw [a,c];exact⟨j,hj,rfl,rfl⟩
 ·left
  rw [bL (body:=eR l.Rows s.E) (r:=Out.brk ()) (by simp only [eR];rw [if_neg (by simp;omega)]),
   bL (body:=fM s b w) (r:=Out.brk ()) (by simp only [fM,hx,aE];rw [if_neg (by simp;omega)])]
  exact⟨rfl,rfl⟩
theorem del_eq{α:Type}{l:List α}{k:Nat}(h:k < l.length):((dF l k (l.drop (k+1))).take (k+(l.length - (k+1)))).drop 0=l.eraseIdx k:=by
 have h1:(l.take k).length=k:=by rw [FY];omega
 have h2:(l.drop (k+1)).length=l.length - (k+1):=by simp
 unfold dF
 rw [FW,List.eraseIdx_eq_take_drop_succ,aQ3 (l:=l.drop (k+1)) (by rw [h2];omega),<-jM]
 rw [show k+(l.length - (k+1))=(l.take k++l.drop (k+1)).length by rw [FX,h1,h2]]
 exact List.take_left
theorem aHH{α:Type}{l:List α}{k:Nat}(h:k < l.length):l.Perm (l[k] :: l.eraseIdx k):=by
 have e:l=l.take k++l[k] :: l.drop (k+1):=by rw [<-y6 h,TA]
 rw [List.eraseIdx_eq_take_drop_succ]
 refine(List.Perm.of_eq e).trans ?_
 exact WB
theorem pR.drop{b:List bC}(hL:pR b){w:Nat}(hw:w < b.length):∀k (hk:k < b[w].Rows.length),pR (b.set w ⟨b[w].Rows.eraseIdx k⟩)/\∀r∈bH (b.set w ⟨b[w].Rows.eraseIdx k⟩),r∈bH b/\r.Handle % 32≠b[w].Rows[k].Handle % 32:=by
 intro k hk
 have hsub:(bH (b.set w ⟨b[w].Rows.eraseIdx k⟩)).Sublist (bH b):=by
  rw [GO hw,C5 hw]
  exact(aO8 _).append ((List.eraseIdx_sublist _ _).append (aO8 _))
 have hnd:=hL.2.2.2
 refine⟨⟨by simpa using hL.1,yN hsub.length_le hL.2.1,fun r hr=>hL.2.2.1 r (hsub.subset hr),(hsub.map lQ).nodup hnd⟩,fun r hr=>⟨hsub.subset hr,?_⟩⟩
 have hp:(bH b).Perm (b[w].Rows[k] :: bH (b.set w ⟨b[w].Rows.eraseIdx k⟩)):=by
  rw [GO hw,C5 hw]
  refine List.Perm.trans (List.Perm.append_left _ (List.Perm.append_right _ (aHH hk))) ?_
  exact WB
 have:=(hp.map lQ).nodup_iff.1 hnd
 rw [y8,WA] at this
 exact fun e=>this.1 (DD.2 ⟨r,hr,e⟩)
theorem aQB{b:aA}(hb:mC b){w:Int}(hw:0<=w/\w<=2)(s:Sub) :
  ∃x y,uA b w s=some (x,y)/\oV s b w=some (y,x)/\∃m' L,x=⟨m',b.aD,L,b.l7⟩/\yZ m'/\nF m'/\pR L/\∀r∈bH L,hC m' r.Handle/\r.aJ<=b.aD.aJ:=by
 have hm:=hb.1.1
 have hL:=hb.1.2.2.1
 have hZ:=hb.1.2.2.2
 have hsm:=(nF.facts hm).2.2.2.2.2.1
 have hlen:w.toNat < b.aO.length:=by have:=hL.1;omega
 have hx:idx b.aO w=some b.aO[w.toNat]:=fU hw.1 (by omega)
 have hrow:=hL.small.2.2.2 _ (eN hlen)
 have hmemL:b.aO[w.toNat]∈b.aO:=eN hlen
 have hset:=pR.drop hL hlen
 generalize b.aO[w.toNat]=l at hx hrow hset hmemL
 have done:∀y:Sub,∃x z,(some (b,y):Option (aA×Sub))=some (x,z)/\(some (y,b):Option (Sub×aA))=some (z,x)/\∃m' L,x=⟨m',b.aD,L,b.l7⟩/\yZ m'/\nF m'/\pR L/\∀r∈bH L,hC m' r.Handle/\r.aJ<=b.aD.aJ:=
  fun y=>⟨_,_,rfl,rfl,b.Mem,b.aO,rfl,hsm,hm,hL,hb.2⟩
 have hw1:aY ((l.Rows.length:Int) - 1)=(l.Rows.length:Int) - 1:=aM (by omega) (by omega)
 have hhas:IA b.aO w s.Row=some (decide (0<=s.Row/\s.Row<=(l.Rows.length:Int) - 1)):=by
  unfold IA D7
  rw [lG,aZ hw,aE,if_pos rfl,hx,aE,dX,hw1];rfl
 unfold uA oV
 rw [hhas,hx]
 simp only [aE,bK,b7,hw1]
 have hat:∃a:Bool,(if decide (0<=s.Row/\s.Row<=(l.Rows.length:Int) - 1)=true then (idx l.Rows s.Row).bind fun x15=>gC s b w (x15.Handle == s.H) else gC s b w false)=gC s b w a /\
   (if (!decide (0<=s.Row/\s.Row<=(l.Rows.length:Int) - 1))=true then fP b s true else (idx l.Rows s.Row).bind fun x11=>fP b s (x11.Handle != s.H))=fP b s (!a) /\
   (a=true->∃r,r∈l.Rows/\idx l.Rows s.Row=some r/\r.Handle=s.H/\0<=s.Row/\s.Row < l.Rows.length) /\
   (a=false->∀f:dA->Option (aA×Sub),(if (!decide (0<=s.Row/\s.Row<=(l.Rows.length:Int) - 1))=true then fQ b w s l true else (idx l.Rows s.Row).bind fun x=>if (x.Handle != s.H)=true then fQ b w s l true else f x)=fQ b w s l true):=by
  by_cases q:0<=s.Row/\s.Row<=(l.Rows.length:Int) - 1
  ·have hr:idx l.Rows s.Row=some (l.Rows[s.Row.toNat]'(by omega)):=fU q.1 (by omega)
   by_cases q2:(l.Rows[s.Row.toNat]'(by omega)).Handle=s.H
   ·refine⟨true,?_,?_,fun _=>⟨_,eN _,hr,q2,q.1,by omega⟩,fun h=>by cases h⟩
    ·rw [aZ q,if_pos rfl,hr,aE,q2,beq_self_eq_true]
    ·rw [aZ q,if_neg (by simp),hr,aE,q2,bne_self_eq_false];rfl
   ·have n1:((l.Rows[s.Row.toNat]'(by omega)).Handle == s.H)=false:=by simpa using q2
    have n2:((l.Rows[s.Row.toNat]'(by omega)).Handle != s.H)=true:=by simpa using q2
    refine⟨false,?_,?_,(fun h=>by cases h),fun _ f=>?_⟩
    ·rw [aZ q,if_pos rfl,hr,aE,n1]
    ·rw [aZ q,if_neg (by simp),hr,aE,n2];rfl
    ·rw [aZ q,if_neg (by simp),hr,aE,n2,if_pos rfl]
  ·refine⟨false,?_,?_,(fun h=>by cases h),fun _ f=>?_⟩
   ·rw [bM q,if_neg (by simp)]
   ·rw [bM q,if_pos (by simp)];rfl
   ·rw [bM q,if_pos (by simp)]
 obtain⟨a,ha1,ha2,ha3,ha4⟩:=hat
 rw [ha1,ha2]
 unfold gC
 by_cases p0:s.Pc=0
 ·simp only [p0,beq_self_eq_true,if_true];exact done _
 have p0':(s.Pc == 0)=false:=by simpa using p0
 simp only [p0',aQ,if_false]
 by_cases p1:s.Pc=1
 ·simp only [p1,beq_self_eq_true,if_true]
  rcases a1I hx (by omega) s with ⟨e1,e2⟩ | ⟨k,hk,e1,e2⟩
  ·rw [e1,e2,aE,if_pos (by simp)];simp only [bG,p1,aE];exact done _
  ·rw [e1,e2,aE,if_neg (by simp),aU hk];simp only [aE];exact done _
 have p1':(s.Pc == 1)=false:=by simpa using p1
 simp only [p1',aQ,if_false]
 by_cases p2:s.Pc=2
 ·simp only [p2,beq_self_eq_true,if_true,lG,aE]
  by_cases hB:0<=s.B/\s.B<=2
  ·rw [aZ hB]
   simp only [dE,aQ,if_false,if_true]
   cases a with
   | true =>
    have hz:idx b.l7 s.B=some (b.l7[s.B.toNat]'(by have:=hZ.1;omega)):=fU hB.1 (by have:=hZ.1;omega)
    simp only [fP,eW,dE,aQ,if_false,if_true,hz,aE,sP]
    by_cases q:(b.l7[s.B.toNat]'(by have:=hZ.1;omega))=s.H
    ·simp only [q,beq_self_eq_true,if_true];exact done _
    ·have q':((b.l7[s.B.toNat]'(by have:=hZ.1;omega)) == s.H)=false:=by simpa using q
     simp only [q',aQ,if_false]
     by_cases q3:aY (s.B+1)=3
     ·simp only [q3,beq_self_eq_true,if_true];exact done _
     ·have q3':(aY (s.B+1) == 3)=false:=by simpa using q3
      simp only [q3',aQ,if_false];exact done _
   | false =>
    simp only [fP,eW,dL,bK,bG,iU,if_true,aQ,if_false,p2,show((2:Int) == 3)=false from rfl,aE]
    exact done _
  ·rw [bM hB]
   simp only [fP,eW,dL,bK,bG,iU,if_true,aQ,if_false,p2,show((2:Int) == 3)=false from rfl,aE]
   exact done _
 have p2':(s.Pc == 2)=false:=by simpa using p2
 simp only [p2',aQ,if_false,eW]
 by_cases p3:s.Pc=3
 ·simp only [p3,beq_self_eq_true,if_true]
  cases a with
  | false =>
   rw [ha4 rfl]
   simp only [fQ,dL,bK,bG,if_true,aQ,if_false,aE]
   exact done _
  | true =>
   obtain⟨r,hrm,hr,hrH,r0,r1⟩:=ha3 rfl
   obtain⟨v,e1,e2⟩:=aSL r s.E
   rw [aZ (show 0<=s.Row/\s.Row<=(l.Rows.length:Int) - 1 by omega)]
   simp only [dE,aQ,if_false,if_true,hr,aE,hrH,bne_self_eq_false,hx,e1,e2]
   cases v with
   | false =>
    simp only [fQ,dL,bK,bG,iU,if_true,aQ,if_false,aE]
    exact done _
   | true =>
    have hlive:hC b.Mem s.H:=by
     have:r∈bH b.aO:=aBN.2 ⟨l,hmemL,hrm⟩
     have:=(hb.2 r this).1
     rwa [hrH] at this
    obtain⟨m',f1,f2,f3,f4⟩:=a1H hm hw hlive
    have ew:aY (s.Row+1)=s.Row+1:=aM (by omega) (by omega)
    have hdrop:J1 b.aO w s.Row=some (b.aO.set w.toNat ⟨((dF l.Rows s.Row.toNat (l.Rows.drop (s.Row+1).toNat)).take (s.Row.toNat+(l.Rows.length - (s.Row+1).toNat))).drop 0⟩,true):=by
     unfold J1 BF
     rw [W9 hL.small.2.2.1 (fun s h=>by have:=hL.small.2.2.2 s h;omega),BZ hL.small.1,aZ hL,hhas,aZ (show 0<=s.Row/\s.Row<=(l.Rows.length:Int) - 1 by omega)]
     simp only [aE,dE,aQ,if_false,hx,ew]
     unfold CD
     rw [aN (by omega),if_neg (by simp;omega),aN (by omega),aN (by omega),aN (by omega),aN]
     ·rfl
     ·rw [fE (by omega)]
      simp only [FW,FY,fE (show s.Row.toNat<=l.Rows.length by omega)]
      omega
    simp only [fQ,dL,CI,ew,dE,aQ,if_false,if_true]
    rw [aN (by omega),aN (by omega),aN (by omega),cQ,if_pos hlive.1,aE,f1,f2,hdrop]
    have hk:s.Row.toNat < l.Rows.length:=by omega
    have eL:((dF l.Rows s.Row.toNat (l.Rows.drop (s.Row+1).toNat)).take (s.Row.toNat+(l.Rows.length - (s.Row+1).toNat))).drop 0=l.Rows.eraseIdx s.Row.toNat:=by
     rw [show(s.Row+1).toNat=s.Row.toNat+1 by omega];exact del_eq hk
    have er:l.Rows[s.Row.toNat]=r:=by
     have:=aU hk
     rw [show((s.Row.toNat:Nat):Int)=s.Row by omega,hr] at this
     exact(Option.some.inj this).symm
    rw [eL] at hdrop ⊢
    obtain⟨g1,g2⟩:=hset s.Row.toNat hk
    refine⟨_,_,rfl,rfl,m',_,rfl,f3,f4.1,g1,fun q hq=>?_⟩
    obtain⟨g3,g4⟩:=g2 q hq
    obtain⟨g5,g6⟩:=hb.2 q g3
    refine⟨f4.live g5 fun e=>?_,g6⟩
    rw [er,hrH] at g4
    exact g4 e
 ·have p3':(s.Pc == 3)=false:=by simpa using p3
  simp only [p3',aQ,if_false,dL,bG,aE]
  exact done _
end Go.Gv
end
noncomputable section
namespace Go.Gv
theorem U0.fits{b:aA}(h:U0 b):b.Mem.aC.Bytes.length<=maxLen/\(dJ b.Mem.aB).length<=1073741824/\b.aD.b9.length<=maxLen/\b.aO.length<=maxLen/\(bH b.aO).length<=1073741824/\b.l7.length<=maxLen:=by
 have hb:(1048576:Nat)<=maxLen:=by simp [maxLen]
 have g1:=h.1.1;have g2:=h.1.2.2.2.2;have g3:=h.2.1;have g4:=h.2.2.1;have g5:=h.2.2.2.1;have g6:=h.2.2.2.2
 exact⟨by omega,by omega,by omega,by omega,by omega,by omega⟩
theorem step_eq{b:aA}(hb:mC b)(hs:U0 b){w:Int}(hw:0<=w/\w<=2)(s:Sub) :
  ∃x y,wO b w s=some (x,y)/\lA s b w=some (y,x)/\mC x:=by
 have hz:=hb.1.2.2.2.1
 have hl:=hb.1.2.2.1
 unfold wO lA
 cases hd:s.cZ with
 | true=>exact⟨_,_,rfl,rfl,hb⟩
 | false =>
  simp only [aQ,if_false]
  by_cases k1:s.Kind=1
  ·obtain⟨x,y,e1,e2,m,rfl,h1,h2⟩:=alloc_eq hb.1.1 hw s
   simp only [k1,beq_self_eq_true,if_true,e1,e2,aE]
   exact⟨_,_,rfl,rfl,⟨h2.1,hb.1.2⟩,fun r hr=>⟨h2.live (hb.2 r hr).1 (by have:=(hb.2 r hr).1.1;unfold jN at this;omega),(hb.2 r hr).2⟩⟩
  have k1':(s.Kind == 1)=false:=by simpa using k1
  simp only [k1',aQ,if_false]
  by_cases k2:s.Kind=2
  ·obtain⟨x,y,e1,e2,L,rfl,h1,h2⟩:=aTQ hb hs hw s
   simp only [k2,beq_self_eq_true,if_true,e1,e2,aE]
   exact⟨_,_,rfl,rfl,⟨hb.1.1,hb.1.2.1,h1,hb.1.2.2.2⟩,h2⟩
  have k2':(s.Kind == 2)=false:=by simpa using k2
  simp only [k2',aQ,if_false]
  by_cases k3:s.Kind=3
  ·obtain⟨x,y,e1,e2,c,rfl,h1,h2⟩:=aP6 hb.1.2.1 s
   simp only [k3,beq_self_eq_true,if_true,e1,e2,aE]
   exact⟨_,_,rfl,rfl,⟨hb.1.1,h1,hb.1.2.2⟩,fun r hr=>⟨(hb.2 r hr).1,Int.le_trans (hb.2 r hr).2 h2⟩⟩
  have k3':(s.Kind == 3)=false:=by simpa using k3
  simp only [k3',aQ,if_false]
  by_cases k4:s.Kind=4
  ·obtain⟨x,y,e1,e2,m,L,rfl,h1,h2,h3,h4⟩:=aQB hb hw s
   simp only [k4,beq_self_eq_true,if_true,e1,e2,aE]
   exact⟨_,_,rfl,rfl,⟨h2,hb.1.2.1,h3,hb.1.2.2.2⟩,h4⟩
  have k4':(s.Kind == 4)=false:=by simpa using k4
  simp only [k4',aQ,if_false]
  by_cases k5:s.Kind=5
  ·obtain⟨x,y,e1,e2,c,rfl,h1,h2⟩:=a4I hb.1.2.1 hw s
   simp only [k5,beq_self_eq_true,if_true,e1,e2,aE]
   exact⟨_,_,rfl,rfl,⟨hb.1.1,h1,hb.1.2.2⟩,fun r hr=>⟨(hb.2 r hr).1,Int.le_trans (hb.2 r hr).2 h2⟩⟩
  have k5':(s.Kind == 5)=false:=by simpa using k5
  simp only [k5',aQ,if_false,bK,bG,aE]
  exact⟨_,_,rfl,rfl,hb⟩
theorem mC.small{b:aA}(hb:mC b):U0 b:=by
 have h1:=hb.1.2.1.2.1;have h2:=hb.1.2.2.1.1;have h3:=hb.1.2.2.1.2.1;have h4:=hb.1.2.2.2.1
 exact⟨(nF.facts hb.1.1).2.2.2.2.2.1,by omega,by omega,by omega,by omega⟩
end Go.Gv
end
noncomputable section
namespace Go.Gv
theorem Z1{b:List Int}{a:Nat}{n:Int}(h:a+4<=b.length){j:Nat}(hj:j < a\/a+4<=j):bt (GQ b a n) j=bt b j:=by
 unfold GQ
 rw [CL (by simp;omega),CL (by simp;omega),CL (by simp;omega),CL (by omega),if_neg (by omega),if_neg (by omega),if_neg (by omega),if_neg (by omega)]
theorem W5.put{h:aC}(hh:W5 h){s:Int}(hc:0<=aW h s){n:Int}(hn:0<=n/\n<=4294967295) :
  W5 ⟨GQ h.Bytes ((eF s (aW h s)).toNat+4) n,h.Class⟩/\∀t,0<=aW h t->iP ⟨GQ h.Bytes ((eF s (aW h s)).toNat+4) n,h.Class⟩ t=iP h t:=by
 obtain⟨hs,hp⟩:=hh
 have h384:=hs.1
 have hs':fW ⟨GQ h.Bytes ((eF s (aW h s)).toNat+4) n,h.Class⟩:=⟨by rw [P0];exact hs.1,hs.2.1,aTR hs.2.2.1 _ hn,hs.2.2.2⟩
 obtain⟨p,i,p6,hi,es,ec,eo,ep⟩:=nG hc
 have hcl:0<=bQ h p/\bQ h p<=2:=gK.1 (by omega)
 have hroom:8+i * (aS (bQ h p)).toNat+8<=64/\∀j,j < (bS (bQ h p)).toNat->j * (aS (bQ h p)).toNat+4<=i * (aS (bQ h p)).toNat+4\/i * (aS (bQ h p)).toNat+12<=j * (aS (bQ h p)).toNat:=by
  generalize bQ h p=c at hi hcl
  rcases eX hcl with rfl | rfl | rfl
  ·rw [show(bS 0).toNat=4 from rfl] at *;rw [show(aS 0).toNat=12 from rfl]
   exact⟨by omega,fun j hj=>by omega⟩
  ·rw [show(bS 1).toNat=2 from rfl] at *;rw [show(aS 1).toNat=20 from rfl]
   exact⟨by omega,fun j hj=>by omega⟩
  ·rw [show(bS 2).toNat=1 from rfl] at *;rw [show(aS 2).toNat=44 from rfl]
   exact⟨by omega,fun j hj=>by omega⟩
 have hgen:∀q j,q < 6->j < (bS (bQ h q)).toNat->ld (GQ h.Bytes ((eF s (aW h s)).toNat+4) n) (q * 64+8+j * (aS (bQ h q)).toNat) 4=ld h.Bytes (q * 64+8+j * (aS (bQ h q)).toNat) 4:=fun q j hq hj=>by
  have hz:=uO hs hq rfl hj
  refine KO (by omega) (by simp only [P0]) fun k k1 k2=>?_
  by_cases e:q=p
  ·subst e
   have:=hroom.2 j hj
   exact Z1 (by omega) (by omega)
  ·exact Z1 (by omega) (by omega)
 refine⟨⟨hs',fun q hq=>?_⟩,fun t ht=>?_⟩
 ·rw [L5 hs' hq]
  have hold:=(L5 hs hq).1 (hp q hq)
  by_cases e:q=p
  ·subst e
   have hcl':¬bQ h q < 0:=by omega
   unfold aBJ at hold ⊢
   have hcc:bQ ⟨GQ h.Bytes ((eF s (aW h s)).toNat+4) n,h.Class⟩ q=bQ h q:=rfl
   rw [hcc]
   rw [if_neg hcl'] at hold ⊢
   obtain⟨⟨a1,a2,a3⟩,a4,a5⟩:=hold
   have bs:∀k,k < 8->bt (GQ h.Bytes ((eF s (aW h s)).toNat+4) n) (q * 64+k)=bt h.Bytes (q * 64+k):=fun k hk=>Z1 (by omega) (by omega)
   have b0:=bs 0 (by omega);have b1:=bs 1 (by omega);have b2:=bs 2 (by omega)
   simp only [KX] at b0
   refine⟨⟨by rw [b0];exact a1,by rw [b1];exact a2,by rw [b2];exact a3⟩,fun k k3 k8=>by rw [bs k k8];exact a4 k k3 k8,fun j hj=>?_⟩
   rw [hgen q j hq hj];exact a5 j hj
  ·refine aBJ.same hq hs (by simp only [P0]) rfl (fun k hk=>Z1 (by omega) (by omega)) hold
 ·obtain⟨p',i',p6',hi',es',ec',eo',ep'⟩:=nG ht
  have e2:aW ⟨GQ h.Bytes ((eF s (aW h s)).toNat+4) n,h.Class⟩ t=aW h t:=rfl
  unfold iP
  rw [e2,eo']
  exact hgen p' i' p6' hi'
theorem nF.put{m:Mem}(hm:nF m){s:Int}(hc:0<=aW m.aC s){n:Int}(hn:0<=n/\n<=4294967295):yT m ⟨⟨GQ m.aC.Bytes ((eF s (aW m.aC s)).toNat+4) n,m.aC.Class⟩,m.aB⟩ (-1):=by
 obtain⟨a,b⟩:=W5.put hm.1.1 hc hn
 refine⟨nF.heap hm a fun x hx=>⟨rfl,b x (nF.pM hm hx).1⟩,fun t ht _=>?_⟩
 have ht':=iA.1 ht
 have e:=b t ht'.1
 exact⟨iA.2 ⟨ht'.1,ht'.2.1,by simp only [e];exact ht'.2.2⟩,e,rfl⟩
theorem start_eq{h:aC}(hs:fW h){s:Int}(hc:0<=aW h s):KJ s (aW h s)=some (eF s (aW h s)+4)/\J2 s (aW h s)=some (eF s (aW h s)+4):=by
 have hg:=HW hc
 unfold KJ J2
 rw [uN,AW,aE,if_neg (by simp;omega),aM (by omega) (by omega)]
 exact⟨rfl,rfl⟩
theorem aHI{h:aC}(hs:fW h){s:Int}(hc:0<=aW h s):xP h s 0 4=some (eF s (aW h s)+4):=by
 have hg:=HW hc
 have hc2:0<=aW h s/\aW h s<=2:=by
  obtain⟨_,q,e⟩:=qH hc
  rw [e];exact gK.1 (by omega)
 have hz:8<=fB (aW h s)/\fB (aW h s)<=40:=by rcases eX hc2 with e | e | e <;> rw [e] <;> decide
 unfold xP xO
 rw [kG hs,aE,(start_eq hs hc).2,aE,if_neg (by simp;omega),LP]
 simp only [aE,dX]
 rw [aM (x:=eF s (aW h s)+4+fB (aW h s)) (by omega) (by omega),aM (x:=eF s (aW h s)+4+fB (aW h s) - (eF s (aW h s)+4)) (by omega) (by omega),aM (x:=eF s (aW h s)+4+fB (aW h s) - (eF s (aW h s)+4) - 4) (by omega) (by omega),aZ (by omega),aM (by omega) (by omega)]
 simp
theorem aB2{n:Int}(hn:0<=n/\n<=65535):∃t:List UInt8,Q1 n 4=some t/\(t == [])=false:=by
 have st:∀(m:Int) (c:List UInt8) (i:Nat),c.length<=4->i < 4->0<=m->m<=4294967295->HQ 4 (m,c,(i:Int))=some (.next (m / 256,[u8 (m % 256)]++c,((i+1:Nat):Int))):=fun m c i hc hi h0 h1=>by
  simp only [HQ]
  rw [if_pos (by simp;omega),aN (by simp;omega),wW h0,FF h0,aM (x:=m / 256) (by omega) (by omega),aM (by omega) (by omega)];rfl
 unfold Q1
 rw [b7]
 simp only [aE,show(decide ((1:Int)<=4/\(4:Int)<=7))=true from rfl,dE,aQ,if_false,N7,bM (show ¬n < 0 by omega)]
 rw [show(0:Int)=((0:Nat):Int) from rfl,bP (st n [] 0 (by simp) (by omega) hn.1 (by omega)),bP (st _ _ 1 (by simp) (by omega) (by omega) (by omega)),bP (st _ _ 2 (by simp) (by omega) (by omega) (by omega)),bP (st _ _ 3 (by simp) (by omega) (by omega) (by omega)),bL (by simp only [HQ];rw [if_neg (by simp)])]
 simp only [aE,WT,WS]
 rw [if_neg (by simp;omega)]
 exact⟨_,rfl,rfl⟩
theorem aQC{m:Mem}(hm:nF m){h n:Int}(hn:0<=n/\n<=65535):∃x c,E2 m h 0 4 n=some (x,c)/\J3 m h 0 4 n=some (x,c)/\yT m x (-1)/\(c≠0->x=m):=by
 obtain⟨hcnt,h3,h9,h1,h2,hsm,hcp,hlo,hsG,hsO⟩:=nF.facts hm
 have hs:=hm.1.1.1
 have hbl:m.aC.Bytes.length<=maxLen:=by rw [h1];simp [maxLen]
 have hall:(dJ m.aB).length<=1073741824:=by omega
 have hg:m.aB.Global.length<=maxLen:=by rw [h3];simp [maxLen]
 have ho:m.aB.Own.length<=maxLen:=by rw [h9];simp [maxLen]
 have hw4:k9 4=some true:=by unfold k9;rw [dX];rfl
 unfold E2 J3 UA TW
 rw [aB1 hsm,aN9 hsm,OI hbl hall,W7 hbl hall,aZ hm,b7,hw4,aG9 ⟨hn.1,by omega⟩]
 simp only [aE,dE,aQ,if_false,E1,D9,show(decide ((1:Int)<=4/\(4:Int)<=7))=true from rfl,l8 hs hall hg ho,wY hs hall hg ho]
 by_cases hv:hC m h
 ·have hh:=hv.1
  have hcl:=hJ hv.2.1
  have hgo:=HW hcl
  have hc2:0<=aW m.aC (h % 32)/\aW m.aC (h % 32)<=2:=by
   obtain⟨_,q,e⟩:=qH hcl
   rw [e];exact gK.1 (by omega)
  have hz:8<=fB (aW m.aC (h % 32))/\fB (aW m.aC (h % 32))<=40:=by rcases eX hc2 with e | e | e <;> rw [e] <;> decide
  obtain⟨p,i,p6,hi,es,ec,eo,ep⟩:=nG hcl
  have hroom:(eF (h % 32) (aW m.aC (h % 32))).toNat+8<=384:=by
   rw [eo]
   have hcl':0<=bQ m.aC p/\bQ m.aC p<=2:=by rw [<-ec];exact hc2
   generalize bQ m.aC p=c at hi hcl'
   rcases eX hcl' with rfl | rfl | rfl
   ·rw [show(bS 0).toNat=4 from rfl] at hi;rw [show(aS 0).toNat=12 from rfl];omega
   ·rw [show(bS 1).toNat=2 from rfl] at hi;rw [show(aS 1).toNat=20 from rfl];omega
   ·rw [show(bS 2).toNat=1 from rfl] at hi;rw [show(aS 2).toNat=44 from rfl];omega
  simp only [aZ hv,dE,aQ,if_false,cQ,if_pos hh,aE,i7 hs,rI,b7,hh.mod.1,aHI hs hcl]
  rw [aM (x:=fB (aW m.aC (h % 32)) - 1) (by omega) (by omega),aZ (show(0:Int)<=0/\(0:Int)<=fB (aW m.aC (h % 32)) - 1 by omega),aM (x:=fB (aW m.aC (h % 32)) - 0) (by omega) (by omega),bM (show ¬fB (aW m.aC (h % 32)) - 0 < 4 by omega)]
  simp only [dE,aQ,if_false,E0,(start_eq hs hcl).1,aE]
  rw [aM (x:=eF (h % 32) (aW m.aC (h % 32))+4+0) (by omega) (by omega),Int.add_zero,bM (show ¬eF (h % 32) (aW m.aC (h % 32))+4 < 0 by omega)]
  have eo':eF (h % 32) (aW m.aC (h % 32))+4=(((eF (h % 32) (aW m.aC (h % 32))).toNat+4:Nat):Int):=by omega
  have hput:=nF.put hm hcl (n:=n) ⟨hn.1,by omega⟩
  have hspf:∃t:List UInt8,Q1 n 4=some t/\(t == [])=false:=aB2 hn
  obtain⟨t,ht1,ht2⟩:=hspf
  have hld:mF m.aC.Bytes (((eF (h % 32) (aW m.aC (h % 32))).toNat+4:Nat):Int) 4=some (ld m.aC.Bytes ((eF (h % 32) (aW m.aC (h % 32))).toNat+4) 4):=BY hs.2.2.1 (w:=4) (by omega) (by omega) (by omega)
  rw [eo',hld]
  simp only [aE,aQ,if_false,bne_self_eq_false,ht1,ht2,show(XA n == [])=false from rfl]
  rw [aBI (by omega) (by omega) ⟨hn.1,by omega⟩,aHA (by omega) (by omega) ⟨hn.1,by omega⟩]
  exact⟨_,_,rfl,rfl,hput,fun q=>absurd rfl q⟩
 ·simp only [bM hv,iU,if_true,aE,show((4:Int) != 0)=true from rfl]
  exact⟨_,_,rfl,rfl,yT.refl hm _,fun _=>rfl⟩
theorem aQD{b:aA}(hm:nF b.Mem)(h:Int):∃r,NF b.Mem.aC h 0 4=some r/\J4 b h 0 4=some r:=by
 have hs:=hm.1.1.1
 have h1:=hs.1
 have hbl:b.Mem.aC.Bytes.length<=maxLen:=by rw [h1];simp [maxLen]
 have hw4:k9 4=some true:=by unfold k9;rw [dX];rfl
 unfold NF J4 r9
 rw [eP,jK,b7,hw4,FH hbl,aZ hs]
 simp only [aE,E3,tD,show(decide ((1:Int)<=4/\(4:Int)<=7))=true from rfl,dE,aQ,if_false]
 by_cases hh:jN h
 ·simp only [aZ hh,dE,aQ,if_false,cQ,if_pos hh,aE,i7 hs,kG hs,hh.mod.1]
  by_cases hcl:aW b.Mem.aC (h % 32) < 0
  ·simp only [aZ hcl,if_true,nC];exact⟨_,rfl,rfl⟩
  ·have hcl':0<=aW b.Mem.aC (h % 32):=by omega
   have hgo:=HW hcl'
   have hc2:0<=aW b.Mem.aC (h % 32)/\aW b.Mem.aC (h % 32)<=2:=by
    obtain⟨_,q,e⟩:=qH hcl'
    rw [e];exact gK.1 (by omega)
   have hz:8<=fB (aW b.Mem.aC (h % 32))/\fB (aW b.Mem.aC (h % 32))<=40:=by rcases eX hc2 with e | e | e <;> rw [e] <;> decide
   obtain⟨p,i,p6,hi,es,ec,eo,ep⟩:=nG hcl'
   have hroom:(eF (h % 32) (aW b.Mem.aC (h % 32))).toNat+8<=384:=by
    rw [eo]
    have hcl'':0<=bQ b.Mem.aC p/\bQ b.Mem.aC p<=2:=by rw [<-ec];exact hc2
    generalize bQ b.Mem.aC p=c at hi hcl''
    rcases eX hcl'' with rfl | rfl | rfl
    ·rw [show(bS 0).toNat=4 from rfl] at hi;rw [show(aS 0).toNat=12 from rfl];omega
    ·rw [show(bS 1).toNat=2 from rfl] at hi;rw [show(aS 1).toNat=20 from rfl];omega
    ·rw [show(bS 2).toNat=1 from rfl] at hi;rw [show(aS 2).toNat=44 from rfl];omega
   simp only [bM hcl,aQ,if_false,rI,b7,aE,aHI hs hcl']
   rw [aM (x:=fB (aW b.Mem.aC (h % 32)) - 1) (by omega) (by omega),aZ (show(0:Int)<=0/\(0:Int)<=fB (aW b.Mem.aC (h % 32)) - 1 by omega),aM (x:=fB (aW b.Mem.aC (h % 32)) - 0) (by omega) (by omega),bM (show ¬fB (aW b.Mem.aC (h % 32)) - 0 < 4 by omega)]
   simp only [dE,aQ,if_false,nC,cQ,if_pos hh,(start_eq hs hcl').1,aE]
   rw [aM (x:=eF (h % 32) (aW b.Mem.aC (h % 32))+4+0) (by omega) (by omega),Int.add_zero,bM (show ¬eF (h % 32) (aW b.Mem.aC (h % 32))+4 < 0 by omega)]
   have eo':eF (h % 32) (aW b.Mem.aC (h % 32))+4=(((eF (h % 32) (aW b.Mem.aC (h % 32))).toNat+4:Nat):Int):=by omega
   have hld:mF b.Mem.aC.Bytes (((eF (h % 32) (aW b.Mem.aC (h % 32))).toNat+4:Nat):Int) 4=some (ld b.Mem.aC.Bytes ((eF (h % 32) (aW b.Mem.aC (h % 32))).toNat+4) 4):=BY hs.2.2.1 (w:=4) (by omega) (by omega) (by omega)
   have hls:wB b.Mem.aC.Bytes (((eF (h % 32) (aW b.Mem.aC (h % 32))).toNat+4:Nat):Int) 4=some (ld b.Mem.aC.Bytes ((eF (h % 32) (aW b.Mem.aC (h % 32))).toNat+4) 4):=FG hs.2.2.1 (w:=4) (by omega) (by omega) (by omega)
   rw [eo',hld,hls]
   exact⟨_,rfl,rfl⟩
 ·simp only [bM hh,iU,if_true];exact⟨_,rfl,rfl⟩
end Go.Gv
end
noncomputable section
namespace Go.Gv
theorem aOD{l:List dY}(hl:l.length<=maxLen)(f:dY->Bool)(g:dY->Option Bool)(hg:∀x∈l,g x=some (f x)):mK l g=some (l.any f):=by
 obtain⟨o,e,h⟩:=LX l f (body:=mJ l g) (fun k hk=>by
  simp only [mJ]
  rw [if_pos (by simp;omega),aU hk,jS (qJ hk hl)]
  simp only [aE,hg _ (eN hk)]) (by simp [mJ])
 unfold mK yW
 rw [e]
 cases o with
 | brk u=>simp only at h;simp [sG,DY,h]
 | ret r=>simp only at h;simp [sG,h]
theorem aHJ{l:List Queue}(hl:l.length<=maxLen)(f:Queue->Bool)(g:Queue->Option Bool)(hg:∀x∈l,g x=some (f x)):kM l g=some (l.any f):=by
 obtain⟨o,e,h⟩:=LX l f (body:=kL l g) (fun k hk=>by
  simp only [kL]
  rw [if_pos (by simp;omega),aU hk,jS (qJ hk hl)]
  simp only [aE,hg _ (eN hk)]) (by simp [kL])
 unfold kM sD
 rw [e]
 cases o with
 | brk u=>simp only at h;simp [nM,yR,h]
 | ret r=>simp only at h;simp [nM,h]
theorem aL9{l:List bE}(hl:l.length<=maxLen)(f:bE->Bool)(g:bE->Option Bool)(hg:∀x∈l,g x=some (f x)):lN l g=some (l.any f):=by
 obtain⟨o,e,h⟩:=LX l f (body:=lM l g) (fun k hk=>by
  simp only [lM]
  rw [if_pos (by simp;omega),aU hk,jS (qJ hk hl)]
  simp only [aE,hg _ (eN hk)]) (by simp [lM])
 unfold lN vW
 rw [e]
 cases o with
 | brk u=>simp only at h;simp [qS,C2,h]
 | ret r=>simp only at h;simp [qS,h]
def FM(k:Int):Prop:=k=1\/k=2\/k=3\/k=7
instance (k:Int):Decidable (FM k):=by unfold FM;infer_instance
def lR(o:dY):Prop:=(1<=o.Kind/\o.Kind<=7)/\(FM o.Kind\/o.Cell=0)/\(0<=o.Cell/\o.Cell<=1)/\if o.Kind=1 then (0<=o.iI/\o.iI<=100)/\0<=o.dQ/\o.dQ<=65535 else o.iI=0/\o.dQ=0
instance (o:dY):Decidable (lR o):=by unfold lR;infer_instance
theorem hb0(x:Int):(x == 0)=decide (x=0):=by rw [OR];simp
theorem aQE:FM 1:=.inl rfl
theorem aKA(k:Int):vM k=some (decide (FM k)):=by
 unfold vM lJ FM
 by_cases h1:k=1
 ·simp [h1]
 ·by_cases h2:k=2
  ·simp [h2]
  ·by_cases h3:k=3
   ·simp [h3]
   ·by_cases h7:k=7
    ·simp [h7]
    ·simp [h1,h2,h3,h7]
theorem Z2(o:dY):KT o=some (decide (lR o)):=by
 unfold KT DK JM JN lR
 rw [b7,aKA,b7,b7,b7]
 by_cases h1:1<=o.Kind/\o.Kind<=7
 ·by_cases h2:FM o.Kind
  ·by_cases h3:0<=o.Cell/\o.Cell<=1
   ·by_cases h4:o.Kind=1
    ·by_cases h5:0<=o.iI/\o.iI<=100 <;> simp [h1,h2,h3,h4,h5,aQE] <;> exact hb0 _
    ·by_cases h5:o.iI=0 <;> simp [h1,h2,h3,h4,h5,aQE] <;> exact hb0 _
   ·simp [h1,h2,h3]
  ·by_cases h0:o.Cell=0
   ·by_cases h4:o.Kind=1
    ·exact absurd (.inl h4) h2
    ·by_cases h5:o.iI=0 <;> simp [h1,h2,h0,h4,h5,aQE] <;> exact hb0 _
   ·simp [h1,h2,h0]
 ·simp [h1]
theorem Z3(o:dY):KU o=some (decide (lR o)):=by
 have key:∀x,oP o x=if 1<=o.Kind/\o.Kind<=7 then (if x then some (decide ((0<=o.Cell/\o.Cell<=1)/\if o.Kind=1 then (0<=o.iI/\o.iI<=100)/\0<=o.dQ/\o.dQ<=65535 else o.iI=0/\o.dQ=0):Bool) else some (decide (o.Cell=0/\if o.Kind=1 then (0<=o.iI/\o.iI<=100)/\0<=o.dQ/\o.dQ<=65535 else o.iI=0/\o.dQ=0))) else some false:=fun x=>by
  unfold oP DZ JV JW
  rw [dX,dX,dX,dX]
  by_cases h1:1<=o.Kind/\o.Kind<=7
  ·cases x
   ·by_cases h0:o.Cell=0
    ·by_cases h4:o.Kind=1
     ·by_cases h5:0<=o.iI/\o.iI<=100 <;> simp [h1,h0,h4,h5,aQE] <;> exact hb0 _
     ·by_cases h5:o.iI=0 <;> simp [h1,h0,h4,h5,aQE] <;> exact hb0 _
    ·simp [h1,h0]
   ·by_cases h3:0<=o.Cell/\o.Cell<=1
    ·by_cases h4:o.Kind=1
     ·by_cases h5:0<=o.iI/\o.iI<=100 <;> simp [h1,h3,h4,h5,aQE] <;> exact hb0 _
     ·by_cases h5:o.iI=0 <;> simp [h1,h3,h4,h5,aQE] <;> exact hb0 _
    ·simp [h1,h3]
  ·simp [h1]
 have key2:KU o=oP o (decide (FM o.Kind)):=by
  unfold KU FM
  by_cases h1:o.Kind=1
  ·simp [h1]
  ·by_cases h2:o.Kind=2
   ·simp [h2]
   ·by_cases h3:o.Kind=3
    ·simp [h3]
    ·have h7:(o.Kind == 7)=decide (o.Kind=1\/o.Kind=2\/o.Kind=3\/o.Kind=7):=by rw [OR];simp [h1,h2,h3]
     rw [if_neg (by simpa using h1),if_neg (by simpa using h2),if_neg (by simpa using h3),h7]
 rw [key2,key]
 unfold lR
 by_cases h1:1<=o.Kind/\o.Kind<=7
 ·by_cases h2:FM o.Kind
  ·simp only [h1,h2,and_self,decide_true,if_true,true_or,true_and]
  ·by_cases h0:o.Cell=0
   ·simp [h1,h2,h0]
   ·simp [h1,h2,h0]
 ·simp [h1]
theorem Z4(h:Int):i6 h=some (decide (cX h)):=by
 unfold i6 BQ cX
 rw [eP]
 by_cases q:h=0 <;> simp [q]
theorem RH(h:Int):rR h=some (decide (cX h)):=by
 unfold rR vT cX
 rw [jK]
 by_cases q:h=0 <;> simp [q]
def aOE(l:List dY):Prop:=∀o∈l,lR o
instance (l:List dY):Decidable (aOE l):=by unfold aOE;infer_instance
def QOk(q:Queue):Prop:=q.jQ.length<=12/\aOE q.jQ
instance (q:Queue):Decidable (QOk q):=by unfold QOk;infer_instance
def OL(l:List Queue):Prop:=l.length=3/\∀q∈l,QOk q
instance (l:List Queue):Decidable (OL l):=by unfold OL;infer_instance
theorem Z5{l:List Queue}(hl:l.length<=maxLen):DL l=some (decide (OL l)):=by
 unfold DL
 have inner:∀k (hk:k < l.length),l[k].jQ.length<=12->loop (nP l (k:Int)) 0=some (if aOE l[k].jQ then Out.brk () else Out.ret false):=by
  intro k hk h12
  have hb:∀j (hj:j < l[k].jQ.length),nP l (k:Int) (j:Int)=if lR l[k].jQ[j] then some (.next ((j+1:Nat):Int)) else some (.stop (Out.ret false)):=by
   intro j hj
   simp only [nP]
   rw [aU hk,aE,if_pos (by simp;omega),aE,aU hj,aE,Z2,aE,aM (by omega) (by omega)]
   by_cases q:lR l[k].jQ[j] <;> simp [q]
  have:=kT (f:=nP l (k:Int)) l[k].jQ (fun j=>(j:Int)) lR (Out.brk ()) (Out.ret false) (fun j hj hp=>by rw [hb j hj,if_pos hp]) (fun j hj hp=>by rw [hb j hj,if_neg hp]) (by
   simp only [nP]
   rw [aU hk,aE,if_neg (by simp)])
  refine Eq.trans this ?_
  congr 1
 have hs:∀k (hk:k < l.length),nQ l (k:Int)=if QOk l[k] then some (.next ((k+1:Nat):Int)) else some (.stop (Out.ret false)):=by
  intro k hk
  simp only [nQ]
  rw [if_pos (by simp;omega),aU hk,aE]
  by_cases h12:l[k].jQ.length<=12
  ·rw [if_neg (by simp;omega),inner k hk h12]
   by_cases q:aOE l[k].jQ
   ·rw [if_pos q,if_pos ⟨h12,q⟩]
    simp only [aE,RV,RU]
    rw [jS (qJ hk hl)]
   ·rw [if_neg q,if_neg (fun a=>q a.2)];rfl
  ·rw [if_pos (by simp;omega),if_neg (fun a=>h12 a.1)]
 have key:loop (nQ l) 0=_:=kT (f:=nQ l) l (fun k=>(k:Int)) QOk (Out.brk ()) (Out.ret false) (fun k hk hp=>by rw [hs k hk,if_pos hp]) (fun k hk hp=>by rw [hs k hk,if_neg hp]) (by simp [nQ])
 rw [key]
 by_cases q:∀x∈l,QOk x
 ·rw [if_pos q]
  simp only [aE,RW,RT]
  congr 1;rw [OR];simp only [beq_iff_eq,decide_eq_true_eq]
  exact⟨fun a=>⟨by omega,q⟩,fun a=>by have:=a.1;omega⟩
 ·rw [if_neg q,bM (show ¬OL l from fun a=>q a.2)];rfl
theorem Z6{l:List Queue}(hl:l.length<=maxLen)(hq:∀q∈l,q.jQ.length<=maxLen):H9 l=some (decide (OL l)):=by
 have e1:∀q∈l,G9 q=some (!decide (QOk q)):=by
  intro q hm
  unfold G9 xG
  have e:∀x∈q.jQ,BA x=some (!decide (lR x)):=fun x _=>by
   unfold BA;rw [Z3];rfl
  rw [aOD (hq q hm) (fun x=>!decide (lR x)) _ e,HV]
  by_cases h:q.jQ.length<=12
  ·rw [if_neg (by simp;omega)]
   by_cases h2:∀x∈q.jQ,lR x
   ·rw [aZ h2,aZ (show QOk q from ⟨h,h2⟩)];rfl
   ·rw [bM h2,bM (show ¬QOk q from fun a=>h2 a.2)];rfl
  ·rw [if_pos (by simp;omega),bM (show ¬QOk q from fun a=>h a.1)];rfl
 unfold H9 D0
 rw [aHJ hl (fun q=>!decide (QOk q)) _ e1,HV]
 by_cases h:l.length=3
 ·rw [if_pos (by simp;omega)]
  by_cases h2:∀x∈l,QOk x
  ·rw [aZ h2,aZ (show OL l from ⟨h,h2⟩)];rfl
  ·rw [bM h2,bM (show ¬OL l from fun a=>h2 a.2)];rfl
 ·rw [if_neg (by simp;omega),bM (show ¬OL l from fun a=>h a.1)]
def L6:bE:=⟨false,⟨0,0,0,0⟩,0,0,⟨0,0,0,0,0,0,0,0,0,false⟩,0,0,0,0⟩
def JOk(j:bE):Prop:=if j.eT then lR j.Op/\cX j.H/\cX j.Old else j=L6
instance (j:bE):Decidable (JOk j):=by unfold JOk;infer_instance
theorem A0{j:bE}(hb:j.eT=true):JOk j↔lR j.Op/\cX j.H/\cX j.Old:=by unfold JOk;rw [if_pos hb]
theorem U5{j:bE}(hb:j.eT=false):JOk j↔j=L6:=by unfold JOk;rw [if_neg (by simp [hb])]
theorem aOF(j:bE):QL j=some (decide (JOk j)):=by
 unfold QL zI
 rw [Z3,RH,RH]
 cases hb:j.eT
 ·rw [show decide (JOk j)=decide (j=L6) from decide_eq_decide.2 (U5 hb)];rfl
 ·rw [show decide (JOk j)=decide (lR j.Op/\cX j.H/\cX j.Old) from decide_eq_decide.2 (A0 hb)]
  by_cases h1:lR j.Op
  ·by_cases h2:cX j.H <;> simp [h1,h2]
  ·simp [h1]
def DA(s:aG):Prop:=mC s.aA/\s.Cells.length=2/\s.aX.length=3/\OL s.dT/\(0<=s.aI/\s.aI<=1000000)/\(∀h∈s.Cells,cX h)/\∀j∈s.aX,JOk j
instance (s:aG):Decidable (DA s):=by unfold DA;infer_instance
noncomputable section
variable {s:aG} (hf:s.aA.Mem.aC.Bytes.length<=maxLen/\(dJ s.aA.Mem.aB).length<=1073741824/\s.aA.aD.b9.length<=maxLen/\s.aA.aO.length<=maxLen/\(bH s.aA.aO).length<=1073741824/\s.aA.l7.length<=maxLen) (ht:s.dT.length<=maxLen) (hq:∀q∈s.dT,q.jQ.length<=maxLen) (hcl:s.Cells.length<=maxLen) (hjl:s.aX.length<=maxLen)
include hf ht
theorem aDX:o7 s=some (decide (DA s)):=by
 unfold o7 l6
 rw [U1 hf,Z5 ht,b7]
 by_cases h1:mC s.aA
 ·by_cases h2:s.Cells.length=2
  ·by_cases h3:s.aX.length=3
   ·by_cases h4:OL s.dT
    ·by_cases h5:0<=s.aI/\s.aI<=1000000
     ·have c2:((s.Cells.length:Int) != 2)=false:=by simp;omega
      have c3:((s.aX.length:Int) != 3)=false:=by simp;omega
      simp only [aZ h1,aZ h4,aZ h5,c2,c3,aE,dE,aQ,if_false]
      have k2:loop (oA s) 0=some (if ∀h∈s.Cells,cX h then Out.brk () else Out.ret false):=by
       have hb:∀k (hk:k < s.Cells.length),oA s (k:Int)=if cX s.Cells[k] then some (.next ((k+1:Nat):Int)) else some (.stop (Out.ret false)):=fun k hk=>by
        simp only [oA]
        rw [if_pos (by simp;omega),aU hk,aE,Z4,aE,aM (by omega) (by omega)]
        by_cases q:cX s.Cells[k] <;> simp [q]
       exact kT (f:=oA s) s.Cells (fun k=>(k:Int)) cX _ _ (fun k hk hp=>by rw [hb k hk,if_pos hp]) (fun k hk hp=>by rw [hb k hk,if_neg hp]) (by simp [oA,h2])
      have k3:loop (nZ s) 0=some (if ∀j∈s.aX,JOk j then Out.brk () else Out.ret false):=by
       have hb:∀k (hk:k < s.aX.length),nZ s (k:Int)=if JOk s.aX[k] then some (.next ((k+1:Nat):Int)) else some (.stop (Out.ret false)):=fun k hk=>by
        simp only [nZ]
        rw [if_pos (by simp;omega),aU hk]
        generalize s.aX[k]=j
        simp only [aE,fH,Z2,Z4,aM (show -9223372036854775808<=(k:Int)+1 by omega) (show(k:Int)+1<=9223372036854775807 by omega)]
        cases hb:j.eT
        ·by_cases e:j=L6
         ·have a1:cX j.H:=by rw [e];exact .inl rfl
          have a2:cX j.Old:=by rw [e];exact .inl rfl
          have e':j=(⟨false,(⟨0,0,0,0⟩:dY),0,0,(⟨0,0,0,0,0,0,0,0,0,false⟩:Sub),0,0,0,0⟩:bE):=e
          simp only [iU,if_true,aZ e',dE,aQ,if_false,aZ a1,aZ a2,if_pos ((U5 hb).2 e)];rfl
         ·have e':¬j=(⟨false,(⟨0,0,0,0⟩:dY),0,0,(⟨0,0,0,0,0,0,0,0,0,false⟩:Sub),0,0,0,0⟩:bE):=e
          simp only [iU,if_true,bM e',aQ,if_false,if_neg (fun q=>e ((U5 hb).1 q))]
        ·by_cases a0:lR j.Op
         ·by_cases a1:cX j.H
          ·by_cases a2:cX j.Old <;> simp [a0,a1,a2,A0 hb]
          ·simp [a0,a1,A0 hb]
         ·simp [a0,A0 hb]
       exact kT (f:=nZ s) s.aX (fun k=>(k:Int)) JOk _ _ (fun k hk hp=>by rw [hb k hk,if_pos hp]) (fun k hk hp=>by rw [hb k hk,if_neg hp]) (by simp [nZ,h3])
      rw [k2]
      by_cases q2:∀h∈s.Cells,cX h
      ·rw [if_pos q2]
       simp only [aE,SB,SA]
       rw [k3]
       by_cases q3:∀j∈s.aX,JOk j
       ·rw [if_pos q3,aZ (show DA s from ⟨h1,h2,h3,h4,h5,q2,q3⟩)];rfl
       ·rw [if_neg q3,bM (fun a:DA s=>q3 a.2.2.2.2.2.2)];rfl
      ·rw [if_neg q2,bM (fun a:DA s=>q2 a.2.2.2.2.2.1)];rfl
     ·rw [bM (fun a:DA s=>h5 a.2.2.2.2.1)]
      simp [h1,h2,h3,h4,h5]
    ·rw [bM (fun a:DA s=>h4 a.2.2.2.1)]
     simp [h1,h2,h3,h4]
   ·rw [bM (fun a:DA s=>h3 a.2.2.1)]
    have c3:((s.aX.length:Int) != 3)=true:=by simp;omega
    simp [h1,h2,h3,c3]
  ·rw [bM (fun a:DA s=>h2 a.2.1)]
   have c2:((s.Cells.length:Int) != 2)=true:=by simp;omega
   simp [h1,h2,c2]
 ·rw [bM (fun a:DA s=>h1 a.1)];simp [h1]
include hq hcl hjl
theorem aDY:oQ s=some (decide (DA s)):=by
 have e1:vV=fun x=>some (!decide (cX x)):=funext fun x=>by unfold vV;rw [RH];rfl
 have e2:∀x∈s.aX,D1 x=some (!decide (JOk x)):=fun x _=>by unfold D1;rw [aOF];rfl
 unfold oQ i5
 rw [LY hf,Z6 ht hq,dX,show(fun y0=>vV y0)=fun x=>some (!decide (cX x)) from e1,sT hcl,HV,aL9 hjl _ _ e2,HV]
 by_cases h1:mC s.aA
 ·by_cases h2:s.Cells.length=2
  ·by_cases h3:s.aX.length=3
   ·have c2:((s.Cells.length:Int) == 2)=true:=by simp;omega
    have c3:((s.aX.length:Int) == 3)=true:=by simp;omega
    by_cases h4:OL s.dT
    ·by_cases h5:0<=s.aI/\s.aI<=1000000
     ·by_cases q2:∀h∈s.Cells,cX h
      ·by_cases q3:∀j∈s.aX,JOk j
       ·rw [aZ (show DA s from ⟨h1,h2,h3,h4,h5,q2,q3⟩)]
        simp only [aZ h1,aZ h4,aZ h5,aZ q2,aZ q3,c2,c3,aE,dE,iU,aQ,if_false,if_true]
       ·rw [bM (fun a:DA s=>q3 a.2.2.2.2.2.2)]
        simp only [aZ h1,aZ h4,aZ h5,aZ q2,bM q3,c2,c3,aE,dE,iU,aQ,if_false,if_true]
      ·rw [bM (fun a:DA s=>q2 a.2.2.2.2.2.1)]
       simp only [aZ h1,aZ h4,aZ h5,bM q2,c2,c3,aE,dE,iU,aQ,if_false,if_true]
     ·rw [bM (fun a:DA s=>h5 a.2.2.2.2.1)]
      simp only [aZ h1,aZ h4,bM h5,c2,c3,aE,aQ,if_false,if_true]
    ·rw [bM (fun a:DA s=>h4 a.2.2.2.1)]
     simp only [aZ h1,bM h4,c2,c3,aE,aQ,if_false,if_true]
   ·rw [bM (fun a:DA s=>h3 a.2.2.1)]
    have c2:((s.Cells.length:Int) == 2)=true:=by simp;omega
    have c3:((s.aX.length:Int) == 3)=false:=by simp;omega
    simp only [aZ h1,c2,c3,aE,aQ,if_false,if_true]
  ·rw [bM (fun a:DA s=>h2 a.2.1)]
   have c2:((s.Cells.length:Int) == 2)=false:=by simp;omega
   simp only [aZ h1,c2,aE,aQ,if_false,if_true]
 ·rw [bM (fun a:DA s=>h1 a.1)];simp only [bM h1,aE,aQ,if_false]
end
end Go.Gv
end
noncomputable section
namespace Go.Gv
theorem L7{α:Type}{l:List α}{w:Int}(h0:0<=w)(h1:w < l.length)(x:α):idx (l.set w.toNat x) w=some x:=by
 unfold idx
 rw [if_pos h0,YI (by omega)]
theorem hQ{a b:Int}(h:¬a=b):(a == b)=false:=by simpa using h
theorem RI{a b:Int}(h:¬a=b):(a != b)=true:=by simpa using h
theorem aOG{c:aD}(hc:LU c){w:Int}(hw:0<=w/\w<=2):∃r,GJ c w=some r/\QO c w=some r/\LU r.1/\r.1.aJ=c.aJ:=by
 obtain⟨p,hp,hpk⟩:=aBG hc hw
 unfold GJ QO
 rw [mU hc.small.1,HY hc.small.1,jA,uC hc.small.2,lG,b7,aZ hc,aZ hw]
 simp only [aE,dE,aQ,if_false,hp,AQ,zN]
 cases p.On with
 | true =>
  simp only [dE,aQ,if_false]
  have h0:=hc.1
  exact⟨_,rfl,rfl,hc.aL3 ⟨by simp only;omega,by simp,fun _=>rfl⟩,rfl⟩
 | false=>simp only [iU,if_true];exact⟨_,rfl,rfl,hc,rfl⟩
theorem KN.set{z:List Int}(hz:KN z)(k:Nat){h:Int}(hh:cX h):KN (z.set k h):=⟨by simpa using hz.1,fun q hq=>(pN hq).elim (hz.2 q) (fun e=>e ▸ hh)⟩
theorem aQF{z:List Int}(hz:KN z){w:Int}(hw:0<=w/\w<=2)(h:Int):∃r,E4 z w h=some r/\J5 z w h=some r/\KN r.1:=by
 have h3:=hz.1
 have hx:idx z w=some (z[w.toNat]'(by omega)):=fU hw.1 (by omega)
 unfold E4 J5
 rw [GN (by omega),sU (by omega),AZ (by simp only [maxLen];omega),OJ (by simp only [maxLen];omega),aZ hz,b7,lG,aZ hw,eP,jK]
 simp only [aE,dE,aQ,if_false,uB,tF,hx]
 by_cases q:jN h
 ·simp only [aZ q,dE,aQ,if_false];exact⟨_,rfl,rfl,hz.set _ (.inr q)⟩
 ·simp only [bM q,iU,if_true];exact⟨_,rfl,rfl,hz⟩
theorem aX9{z:List Int}(hz:KN z){w:Int}(hw:0<=w/\w<=2):∃r,LI z w=some r/\QP z w=some r/\KN r.1:=by
 have h3:=hz.1
 have hx:idx z w=some (z[w.toNat]'(by omega)):=fU hw.1 (by omega)
 unfold LI QP
 rw [GN (by omega),sU (by omega),AZ (by simp only [maxLen];omega),OJ (by simp only [maxLen];omega),aZ hz,b7,lG,aZ hw]
 simp only [aE,dE,aQ,if_false,AR,zO,hx]
 by_cases q:(z[w.toNat]'(by omega))=0
 ·simp only [q,beq_self_eq_true,if_true];exact⟨_,rfl,rfl,hz⟩
 ·simp only [hQ q,aQ,if_false];exact⟨_,rfl,rfl,hz.set _ (.inl rfl)⟩
theorem mC.clock{b:aA}(hb:mC b){cl:aD}(h:LU cl)(e:b.aD.aJ<=cl.aJ):mC ⟨b.Mem,cl,b.aO,b.l7⟩:=⟨⟨hb.1.1,h,hb.1.2.2⟩,fun r hr=>⟨(hb.2 r hr).1,Int.le_trans (hb.2 r hr).2 e⟩⟩
theorem mC.haz{b:aA}(hb:mC b){z:List Int}(h:KN z):mC ⟨b.Mem,b.aD,b.aO,z⟩:=⟨⟨hb.1.1,hb.1.2.1,hb.1.2.2.1,h⟩,hb.2⟩
theorem mC.mem{b:aA}(hb:mC b){m:Mem}(h:yT b.Mem m (-1)):mC ⟨m,b.aD,b.aO,b.l7⟩:=⟨⟨h.1,hb.1.2⟩,fun r hr=>⟨h.live (hb.2 r hr).1 (by have:=(hb.2 r hr).1.1;unfold jN at this;omega),(hb.2 r hr).2⟩⟩
theorem DA.put{s:aG}(hs:DA s){w:Int}{b:aA}(hb:mC b){c:List Int}(hc:c.length=2/\∀h∈c,cX h){j:bE}(hj:JOk j)(l:List Ev):DA ⟨b,c,s.aX.set w.toNat j,s.dT,l,s.aI⟩:=
 ⟨hb,hc.1,by simpa using hs.2.2.1,hs.2.2.2.1,hs.2.2.2.2.1,hc.2,fun q hq=>(pN hq).elim (hs.2.2.2.2.2.2 q) (fun e=>e ▸ hj)⟩
theorem cT{j:bE}(h:j.eT=true)(h1:lR j.Op/\cX j.H/\cX j.Old):JOk j:=(A0 h).2 h1
noncomputable section
variable {s:aG} (hs:DA s) (hl:s.Log.length<=1000000000) {w:Int} (hw:0<=w/\w<=2) {j:bE} (hj:idx s.aX w=some j) (hb:j.eT=true) (hjo:lR j.Op/\cX j.H/\cX j.Old)
include hs hl hw hj hb hjo
theorem a4L(hk:j.Op.Kind=1):∃x,((IH s w j).bind fun q=>cJ w q.1 q.2)=some x/\ED s w=some x/\DA x/\x.Log.length<=s.Log.length+1:=by
 have h3:=hs.2.2.1
 have hset:∀x,idx (s.aX.set w.toNat x) w=some x:=L7 hw.1 (by omega)
 have hn:∀(e:Ev) {α:Type} (k:Option α),need (s.Log.length + [e].length<=1073741824) k=k:=fun e _ k=>aN (by simp;omega) k
 have hcs:s.Cells.length=2/\∀h∈s.Cells,cX h:=⟨hs.2.1,hs.2.2.2.2.2.1⟩
 have hcell:idx s.Cells j.Op.Cell=some (s.Cells[j.Op.Cell.toNat]'(by have:=hjo.1.2.2.1;omega)):=fU hjo.1.2.2.1.1 (by have:=hjo.1.2.2.1;omega)
 have hcm:cX (s.Cells[j.Op.Cell.toNat]'(by have:=hjo.1.2.2.1;omega)):=hcs.2 _ (eN _)
 generalize (s.Cells[j.Op.Cell.toNat]'(by have:=hjo.1.2.2.1;omega))=cell at hcell hcm
 have hval:0<=j.Op.dQ/\j.Op.dQ<=65535:=by have:=hjo.1.2.2.2;rw [if_pos hk] at this;exact this.2
 unfold IH ED
 rw [hj]
 simp only [aE,bD,bO,dI,cJ,iH,kB]
 by_cases p0:j.Pc=0
 ·obtain⟨x,y,e1,e2,hx⟩:=step_eq hs.1 hs.1.small hw j.Sub
  simp only [p0,beq_self_eq_true,if_true,e1,e2,aE]
  cases hd:y.cZ with
  | false=>simp only [iU,if_true,aE,hj];exact⟨_,rfl,rfl,hs.put hx hcs (by exact cT hb hjo) _,iT _⟩
  | true =>
   simp only [dE,aQ,if_false]
   by_cases c0:y.Code=0
   ·simp only [c0,bne_self_eq_false,aQ,if_false,eP,jK,aE]
    by_cases o0:jN y.Out
    ·simp only [aZ o0,dE,aQ,if_false,aE,hj];exact⟨_,rfl,rfl,hs.put hx hcs (by exact cT hb ⟨hjo.1,.inr o0,hjo.2.2⟩) _,iT _⟩
    ·simp only [bM o0,iU,if_true,aE,hj];exact⟨_,rfl,rfl,hs.put hx hcs (by exact cT hb hjo) _,iT _⟩
   ·simp only [RI c0,if_true,aE,hj];exact⟨_,rfl,rfl,hs.put hx hcs (by exact cT hb hjo) _,iT _⟩
 simp only [hQ p0,aQ,if_false]
 by_cases p1:j.Pc=1
 ·obtain⟨x,c,e1,e2,h1,h2⟩:=aQC hs.1.1.1 (h:=j.H) hval
  simp only [p1,beq_self_eq_true,if_true,e1,e2,aE,EA,hj,bO,dI]
  by_cases c0:c=0
  ·simp only [c0,bne_self_eq_false,aQ,if_false,aE,hj];exact⟨_,rfl,rfl,hs.put (hs.1.mem h1) hcs (by exact cT hb hjo) _,iT _⟩
  ·have:=h2 c0
   subst this
   simp only [RI c0,if_true,aE,hj];exact⟨_,rfl,rfl,hs.put hs.1 hcs (by exact cT hb hjo) _,iT _⟩
 simp only [hQ p1,aQ,if_false]
 by_cases p2:j.Pc=2
 ·have hc2:(s.Cells.set j.Op.Cell.toNat j.H).length=2/\∀h∈s.Cells.set j.Op.Cell.toNat j.H,cX h:=⟨by simpa using hcs.1,fun q hq=>(pN hq).elim (hcs.2 q) (fun e=>e ▸ hjo.2.1)⟩
  simp only [p2,beq_self_eq_true,if_true,hcell,aE,hset,hn,EC,cY,dN,EB,bO,dI,kB]
  by_cases c0:cell=0
  ·simp only [c0,beq_self_eq_true,if_true,aE,hj,OT];exact⟨_,rfl,rfl,hs.put hs.1 hc2 (by exact cT hb ⟨hjo.1,hjo.2.1,.inl rfl⟩) _,by simp⟩
  ·simp only [hQ c0,aQ,if_false,aE,hj,OT];exact⟨_,rfl,rfl,hs.put hs.1 hc2 (by exact cT hb ⟨hjo.1,hjo.2.1,hcm⟩) _,by simp⟩
 simp only [hQ p2,aQ,if_false]
 by_cases p3:j.Pc=3
 ·obtain⟨x,y,e1,e2,hx⟩:=step_eq hs.1 hs.1.small hw j.Sub
  simp only [p3,beq_self_eq_true,if_true,e1,e2,aE]
  cases hd:y.cZ with
  | false=>simp only [iU,if_true,aQ,if_false,aE,hj];exact⟨_,rfl,rfl,hs.put hx hcs (by exact cT hb hjo) _,iT _⟩
  | true=>simp only [dE,if_true,aQ,if_false,aE,hj];exact⟨_,rfl,rfl,hs.put hx hcs (by exact cT hb hjo) _,iT _⟩
 simp only [hQ p3,aQ,if_false,aE,hj]
 exact⟨_,rfl,rfl,hs.put hs.1 hcs (by exact cT hb hjo) _,iT _⟩
theorem get_eq(hk:j.Op.Kind=2):∃x,((II s w j).bind fun q=>cJ w q.1 q.2)=some x/\EE s w=some x/\DA x/\x.Log.length<=s.Log.length+1:=by
 have h3:=hs.2.2.1
 have hset:∀x,idx (s.aX.set w.toNat x) w=some x:=L7 hw.1 (by omega)
 have hn:∀(e:Ev) {α:Type} (k:Option α),need (s.Log.length + [e].length<=1073741824) k=k:=fun e _ k=>aN (by simp;omega) k
 have hcs:s.Cells.length=2/\∀h∈s.Cells,cX h:=⟨hs.2.1,hs.2.2.2.2.2.1⟩
 have hcell:idx s.Cells j.Op.Cell=some (s.Cells[j.Op.Cell.toNat]'(by have:=hjo.1.2.2.1;omega)):=fU hjo.1.2.2.1.1 (by have:=hjo.1.2.2.1;omega)
 have hcm:cX (s.Cells[j.Op.Cell.toNat]'(by have:=hjo.1.2.2.1;omega)):=hcs.2 _ (eN _)
 generalize (s.Cells[j.Op.Cell.toNat]'(by have:=hjo.1.2.2.1;omega))=cell at hcell hcm
 obtain⟨pn,hpn,_⟩:=aBG hs.1.1.2.1 hw
 unfold II EE
 rw [hj]
 simp only [aE,bD,bO,dI,cJ]
 by_cases p0:j.Pc=0
 ·obtain⟨x,y,e1,e2,hx⟩:=step_eq hs.1 hs.1.small hw j.Sub
  simp only [p0,beq_self_eq_true,if_true,e1,e2,aE]
  cases hd:y.cZ with
  | false=>simp only [iU,if_true,aQ,if_false,aE,hj];exact⟨_,rfl,rfl,hs.put hx hcs (by exact cT hb hjo) _,iT _⟩
  | true=>simp only [dE,if_true,aQ,if_false,aE,hj];exact⟨_,rfl,rfl,hs.put hx hcs (by exact cT hb hjo) _,iT _⟩
 simp only [hQ p0,aQ,if_false]
 by_cases p1:j.Pc=1
 ·simp only [p1,beq_self_eq_true,if_true,hcell,aE,jX,hn,vZ,hj,cY,dN,hset]
  by_cases c0:cell=0
  ·simp only [c0,beq_self_eq_true,if_true,aE,hj,OT];exact⟨_,rfl,rfl,hs.put hs.1 hcs (by exact cT hb ⟨hjo.1,.inl rfl,hjo.2.2⟩) _,by simp⟩
  ·simp only [hQ c0,aQ,if_false,aE,hj,OT];exact⟨_,rfl,rfl,hs.put hs.1 hcs (by exact cT hb ⟨hjo.1,hcm,hjo.2.2⟩) _,by simp⟩
 simp only [hQ p1,aQ,if_false]
 by_cases p2:j.Pc=2
 ·obtain⟨r,e1,e2⟩:=aQD hs.1.1.1 j.H
  simp only [p2,beq_self_eq_true,if_true,pB,lZ,hj,e1,e2,aE,hset,OT]
  exact⟨_,rfl,rfl,hs.put hs.1 hcs (by exact cT hb hjo) _,iT _⟩
 simp only [hQ p2,aQ,if_false]
 by_cases p3:j.Pc=3
 ·simp only [p3,beq_self_eq_true,if_true,uM,mB,hj,hpn,aE,dI,kS,iW,m3,bD]
  cases pn.On with
  | false=>simp only [aQ,if_false,aE,iU,if_true,hj];exact⟨_,rfl,rfl,hs.put hs.1 hcs (by exact cT hb hjo) _,iT _⟩
  | true =>
   simp only [if_true,aE]
   cases pn.dB with
   | false=>simp only [aQ,if_false,aE,iU,dE,if_true,hj];exact⟨_,rfl,rfl,hs.put hs.1 hcs (by exact cT hb hjo) _,iT _⟩
   | true=>simp only [aQ,if_false,aE,iU,dE,if_true,hj];exact⟨_,rfl,rfl,hs.put hs.1 hcs (by exact cT hb hjo) _,iT _⟩
 simp only [hQ p3,aQ,if_false]
 by_cases p4:j.Pc=4
 ·obtain⟨r,e1,e2,h1,h2⟩:=aOG hs.1.1.2.1 hw
  simp only [p4,beq_self_eq_true,if_true,e1,e2,tE,aE,hj]
  exact⟨_,rfl,rfl,hs.put (hs.1.clock h1 (by rw [h2];exact uQ _)) hcs (by exact cT hb hjo) _,iT _⟩
 simp only [hQ p4,aQ,if_false,aE,hj]
 exact⟨_,rfl,rfl,hs.put hs.1 hcs (by exact cT hb hjo) _,iT _⟩
theorem a4M(hk:j.Op.Kind=3):∃x,((IJ s w j).bind fun q=>cJ w q.1 q.2)=some x/\EH s w=some x/\DA x/\x.Log.length<=s.Log.length+1:=by
 have h3:=hs.2.2.1
 have hset:∀x,idx (s.aX.set w.toNat x) w=some x:=L7 hw.1 (by omega)
 have hn:∀(e:Ev) {α:Type} (k:Option α),need (s.Log.length + [e].length<=1073741824) k=k:=fun e _ k=>aN (by simp;omega) k
 have hcs:s.Cells.length=2/\∀h∈s.Cells,cX h:=⟨hs.2.1,hs.2.2.2.2.2.1⟩
 have hcell:idx s.Cells j.Op.Cell=some (s.Cells[j.Op.Cell.toNat]'(by have:=hjo.1.2.2.1;omega)):=fU hjo.1.2.2.1.1 (by have:=hjo.1.2.2.1;omega)
 have hcm:cX (s.Cells[j.Op.Cell.toNat]'(by have:=hjo.1.2.2.1;omega)):=hcs.2 _ (eN _)
 generalize (s.Cells[j.Op.Cell.toNat]'(by have:=hjo.1.2.2.1;omega))=cell at hcell hcm
 unfold IJ EH
 rw [hj]
 simp only [aE,bD,bO,dI,cJ,EF,EG]
 by_cases p0:j.Pc=0
 ·simp only [p0,beq_self_eq_true,if_true,hcell,aE,jX,hn,hj,cY,dN,hset]
  by_cases c0:cell=0
  ·simp only [c0,beq_self_eq_true,if_true,aE,hj,OT,hn];exact⟨_,rfl,rfl,hs.put hs.1 hcs (by exact cT hb ⟨hjo.1,.inl rfl,hjo.2.2⟩) _,by simp⟩
  ·simp only [hQ c0,aQ,if_false,aE,hj,OT];exact⟨_,rfl,rfl,hs.put hs.1 hcs (by exact cT hb ⟨hjo.1,hcm,hjo.2.2⟩) _,iT _⟩
 simp only [hQ p0,aQ,if_false]
 by_cases p1:j.Pc=1
 ·obtain⟨r,e1,e2,h1⟩:=aQF hs.1.1.2.2.2 hw j.H
  simp only [p1,beq_self_eq_true,if_true,e1,e2,aE,hj]
  exact⟨_,rfl,rfl,hs.put (hs.1.haz h1) hcs (by exact cT hb hjo) _,iT _⟩
 simp only [hQ p1,aQ,if_false]
 by_cases p2:j.Pc=2
 ·simp only [p2,beq_self_eq_true,if_true,hcell,aE,jX,hn,hj,cY,dN]
  by_cases c0:cell=j.H
  ·simp only [c0,bne_self_eq_false,aQ,if_false,aE,hj];exact⟨_,rfl,rfl,hs.put hs.1 hcs (by exact cT hb hjo) _,by simp⟩
  ·simp only [RI c0,if_true,aE,hj];exact⟨_,rfl,rfl,hs.put hs.1 hcs (by exact cT hb hjo) _,iT _⟩
 simp only [hQ p2,aQ,if_false]
 by_cases p3:j.Pc=3
 ·obtain⟨r,e1,e2⟩:=aQD hs.1.1.1 j.H
  simp only [p3,beq_self_eq_true,if_true,pB,lZ,hj,e1,e2,aE,hset,OT]
  exact⟨_,rfl,rfl,hs.put hs.1 hcs (by exact cT hb hjo) _,iT _⟩
 simp only [hQ p3,aQ,if_false]
 by_cases p4:j.Pc=4
 ·obtain⟨r,e1,e2,h1⟩:=aX9 hs.1.1.2.2.2 hw
  simp only [p4,beq_self_eq_true,if_true,e1,e2,aE,hj]
  exact⟨_,rfl,rfl,hs.put (hs.1.haz h1) hcs (by exact cT hb hjo) _,iT _⟩
 simp only [hQ p4,aQ,if_false,aE,hj]
 exact⟨_,rfl,rfl,hs.put hs.1 hcs (by exact cT hb hjo) _,iT _⟩
theorem a1J(hk:j.Op.Kind=7):∃x,((E5 s w j).bind fun q=>cJ w q.1 q.2)=some x/\BG s w=some x/\DA x/\x.Log.length<=s.Log.length+1:=by
 have h3:=hs.2.2.1
 have hset:∀x,idx (s.aX.set w.toNat x) w=some x:=L7 hw.1 (by omega)
 have hn:∀(e:Ev) {α:Type} (k:Option α),need (s.Log.length + [e].length<=1073741824) k=k:=fun e _ k=>aN (by simp;omega) k
 have hcs:s.Cells.length=2/\∀h∈s.Cells,cX h:=⟨hs.2.1,hs.2.2.2.2.2.1⟩
 have hcell:idx s.Cells j.Op.Cell=some (s.Cells[j.Op.Cell.toNat]'(by have:=hjo.1.2.2.1;omega)):=fU hjo.1.2.2.1.1 (by have:=hjo.1.2.2.1;omega)
 have hcm:cX (s.Cells[j.Op.Cell.toNat]'(by have:=hjo.1.2.2.1;omega)):=hcs.2 _ (eN _)
 generalize (s.Cells[j.Op.Cell.toNat]'(by have:=hjo.1.2.2.1;omega))=cell at hcell hcm
 obtain⟨pn,hpn,_⟩:=aBG hs.1.1.2.1 hw
 unfold E5 BG
 rw [hj,hpn]
 simp only [aE,bD,bO,dI,cJ,CE,sK,sJ,hj]
 by_cases p0:j.Pc=0
 ·simp only [p0,beq_self_eq_true,if_true]
  cases pn.On with
  | false=>simp only [iU,if_true,aE,hj];exact⟨_,rfl,rfl,hs.put hs.1 hcs (by exact cT hb hjo) _,iT _⟩
  | true =>
   simp only [dE,aQ,if_false]
   cases pn.dB with
   | true=>simp only [if_true,aE,hj];exact⟨_,rfl,rfl,hs.put hs.1 hcs (by exact cT hb hjo) _,iT _⟩
   | false =>
    simp only [aQ,if_false,hcell,aE,jX,hn,vZ,hj,cY,dN,hset]
    by_cases c0:cell=0
    ·simp only [c0,beq_self_eq_true,if_true,aE,hj,OT];exact⟨_,rfl,rfl,hs.put hs.1 hcs (by exact cT hb ⟨hjo.1,.inl rfl,hjo.2.2⟩) _,by simp⟩
    ·simp only [hQ c0,aQ,if_false,aE,hj,OT];exact⟨_,rfl,rfl,hs.put hs.1 hcs (by exact cT hb ⟨hjo.1,hcm,hjo.2.2⟩) _,by simp⟩
 simp only [hQ p0,aQ,if_false,hj,aE]
 by_cases p1:j.Pc=1
 ·obtain⟨r,e1,e2⟩:=aQD hs.1.1.1 j.H
  simp only [p1,beq_self_eq_true,if_true,pB,lZ,hj,e1,e2,aE,hset,OT]
  exact⟨_,rfl,rfl,hs.put hs.1 hcs (by exact cT hb hjo) _,iT _⟩
 simp only [hQ p1,aQ,if_false]
 by_cases p2:j.Pc=2
 ·simp only [p2,beq_self_eq_true,if_true,uM,mB,hj,hpn,aE,dI,kS,iW,m3,bD]
  cases pn.On with
  | false=>simp only [aQ,if_false,aE,iU,if_true,hj];exact⟨_,rfl,rfl,hs.put hs.1 hcs (by exact cT hb hjo) _,iT _⟩
  | true =>
   simp only [if_true,aE]
   cases pn.dB with
   | false=>simp only [aQ,if_false,aE,iU,dE,if_true,hj];exact⟨_,rfl,rfl,hs.put hs.1 hcs (by exact cT hb hjo) _,iT _⟩
   | true=>simp only [aQ,if_false,aE,iU,dE,if_true,hj];exact⟨_,rfl,rfl,hs.put hs.1 hcs (by exact cT hb hjo) _,iT _⟩
 simp only [hQ p2,aQ,if_false,aE,hj]
 exact⟨_,rfl,rfl,hs.put hs.1 hcs (by exact cT hb hjo) _,iT _⟩
theorem aYA(hk:j.Op.Kind=4\/j.Op.Kind=5\/j.Op.Kind=6):∃x,((AS s w j).bind fun q=>cJ w q.1 q.2)=some x/\xQ s w=some x/\DA x/\x.Log.length<=s.Log.length+1:=by
 have h3:=hs.2.2.1
 have hset:∀x,idx (s.aX.set w.toNat x) w=some x:=L7 hw.1 (by omega)
 have hcs:s.Cells.length=2/\∀h∈s.Cells,cX h:=⟨hs.2.1,hs.2.2.2.2.2.1⟩
 obtain⟨x,y,e1,e2,hx⟩:=step_eq hs.1 hs.1.small hw j.Sub
 unfold AS xQ
 rw [hj]
 simp only [aE,bD,bO,dI,cJ,iH,kB,yF,iO,qG,qB,qF,qE,qD,hj,e1,e2]
 rcases hk with k4 | k5 | k6
 ·simp only [k4,show((4:Int) == 6)=false from rfl,show((4:Int) == 5)=false from rfl,show((4:Int) == 4)=true from rfl,aQ,if_false,if_true]
  by_cases p0:j.Pc=0
  ·simp only [p0,bne_self_eq_false,beq_self_eq_true,aQ,if_false,if_true]
   cases hd:y.cZ with
   | false=>simp only [iU,if_true,aQ,if_false,aE,hj];exact⟨_,rfl,rfl,hs.put hx hcs (by exact cT hb hjo) _,iT _⟩
   | true=>simp only [dE,if_true,aQ,if_false,aE,hj];exact⟨_,rfl,rfl,hs.put hx hcs (by exact cT hb hjo) _,iT _⟩
  ·simp only [RI p0,hQ p0,aQ,if_false,if_true]
   by_cases p1:j.Pc=1
   ·simp only [p1,bne_self_eq_false,beq_self_eq_true,aQ,if_false,if_true,show((1:Int) == 0)=false from rfl]
    cases hd:y.cZ with
    | false=>simp only [iU,if_true,aQ,if_false,aE,hj];exact⟨_,rfl,rfl,hs.put hx hcs (by exact cT hb hjo) _,iT _⟩
    | true=>simp only [dE,if_true,aQ,if_false,aE,hj];exact⟨_,rfl,rfl,hs.put hx hcs (by exact cT hb hjo) _,iT _⟩
   ·simp only [RI p1,hQ p1,aQ,if_false,if_true,aE,hj]
    exact⟨_,rfl,rfl,hs.put hs.1 hcs (by exact cT hb hjo) _,iT _⟩
 ·simp only [k5,show((5:Int) == 6)=false from rfl,show((5:Int) == 5)=true from rfl,show((5:Int) == 4)=false from rfl,aQ,if_false,if_true]
  by_cases p0:j.Pc=0
  ·simp only [p0,bne_self_eq_false,beq_self_eq_true,aQ,if_false,if_true]
   cases hd:y.cZ with
   | false=>simp only [iU,if_true,aQ,if_false,aE,hj];exact⟨_,rfl,rfl,hs.put hx hcs (by exact cT hb hjo) _,iT _⟩
   | true=>simp only [dE,if_true,aQ,if_false,aE,hj];exact⟨_,rfl,rfl,hs.put hx hcs (by exact cT hb hjo) _,iT _⟩
  ·simp only [RI p0,hQ p0,aQ,if_false,if_true]
   by_cases p1:j.Pc=1
   ·simp only [p1,bne_self_eq_false,aQ,if_false,if_true,aE,hj]
    exact⟨_,rfl,rfl,hs.put hs.1 hcs (by exact cT hb hjo) _,iT _⟩
   ·simp only [RI p1,if_true,aE,hj]
    exact⟨_,rfl,rfl,hs.put hs.1 hcs (by exact cT hb hjo) _,iT _⟩
 ·simp only [k6,beq_self_eq_true,show((6:Int) == 5)=false from rfl,show((6:Int) == 4)=false from rfl,aQ,if_false,if_true]
  by_cases p0:j.Pc=0
  ·obtain⟨r,f1,f2,h1,h2⟩:=aOG hs.1.1.2.1 hw
   simp only [p0,beq_self_eq_true,if_true,f1,f2,tE,aE]
   cases hr:r.2 with
   | false=>simp only [iU,if_true,aE,hj];exact⟨_,rfl,rfl,hs.put (hs.1.clock h1 (by rw [h2];exact uQ _)) hcs (by exact cT hb hjo) _,iT _⟩
   | true=>simp only [dE,aQ,if_false,aE,hj];exact⟨_,rfl,rfl,hs.put (hs.1.clock h1 (by rw [h2];exact uQ _)) hcs (by exact cT hb hjo) _,iT _⟩
  ·simp only [hQ p0,aQ,if_false,aE,hj]
   exact⟨_,rfl,rfl,hs.put hs.1 hcs (by exact cT hb hjo) _,iT _⟩
end
theorem aQG{l:List dY}(h:0 < l.length)(hl:l.length<=1000):xH l 0 1=some (l.drop 1):=by
 have e:=del_eq (l:=l) (k:=0) h
 unfold xH
 rw [aN (by omega),if_neg (by simp),aN (by omega),aN (by omega),aN (by omega),aN]
 ·simp only [Int.toNat_zero,Int.toNat_one] at e ⊢
  rw [FZ] at e
  rw [FZ,e,List.eraseIdx_zero,List.drop_one]
 ·rw [fE (by omega)]
  simp only [FW,FY,fE (show(0:Int).toNat<=l.length by simp)]
  omega
theorem aHK{o:dY}(ho:lR o)(ser pc:Int)(sub:Sub)(code:Int):JOk ⟨true,o,ser,pc,sub,0,0,0,code⟩:=(A0 rfl).2 ⟨ho,.inl rfl,.inl rfl⟩
theorem aYB{s:aG}(hs:DA s)(hl:s.Log.length<=1000000000){w:Int}(hw:0<=w/\w<=2){j:bE}(hj:idx s.aX w=some j):∃x,AM s w=some x/\xI s w=some x/\DA x/\x.Log.length<=s.Log.length+1:=by
 have h3:=hs.2.2.1
 have ht:=hs.2.2.2.1
 have hser:=hs.2.2.2.2.1
 have hset:∀x,idx (s.aX.set w.toNat x) w=some x:=L7 hw.1 (by omega)
 have hn:∀(e:Ev) {α:Type} (k:Option α),need (s.Log.length + [e].length<=1073741824) k=k:=fun e _ k=>aN (by simp;omega) k
 have hq:idx s.dT w=some (s.dT[w.toNat]'(by have:=ht.1;omega)):=fU hw.1 (by have:=ht.1;omega)
 have hqk:QOk (s.dT[w.toNat]'(by have:=ht.1;omega)):=ht.2 _ (eN _)
 generalize (s.dT[w.toNat]'(by have:=ht.1;omega))=q at hq hqk
 obtain⟨pn,hpn,_⟩:=aBG hs.1.1.2.1 hw
 have ew:aY (s.aI+1)=s.aI+1:=aM (by omega) (by omega)
 unfold AM xI
 rw [hq]
 simp only [aE,xX,p7]
 by_cases l0:q.jQ.length=0
 ·simp only [show((q.jQ.length:Int) == 0)=true by rw [l0];rfl,if_true]
  exact⟨_,rfl,rfl,hs,iT _⟩
 ·simp only [show((q.jQ.length:Int) == 0)=false from hQ (by omega),aQ,if_false]
  by_cases s0:s.aI=1000000
  ·simp only [s0,beq_self_eq_true,if_true]
   exact⟨_,rfl,rfl,hs,iT _⟩
  ·simp only [hQ s0,aQ,if_false,hq,aE]
   have hx:idx q.jQ 0=some (q.jQ[0]'(by omega)):=by have:=aU (l:=q.jQ) (k:=0) (by omega);simpa using this
   have ho:lR (q.jQ[0]'(by omega)):=hqk.2 _ (eN _)
   have h12:=hqk.1
   have hdel:=aQG (l:=q.jQ) (by omega) (by omega)
   generalize (q.jQ[0]'(by omega))=o at hx ho
   have etk:(q.jQ.take q.jQ.length).drop (1:Int).toNat=q.jQ.drop 1:=by rw [OU];rfl
   have hT:OL (s.dT.set w.toNat ⟨q.jQ.drop 1⟩):=⟨by simpa using ht.1,fun z hz=>(pN hz).elim (ht.2 z) (fun e=>by
    subst e
    exact⟨by simp only [MK];omega,fun a ha=>hqk.2 a (List.mem_of_mem_drop ha)⟩)⟩
   have fin:∀(jb:bE) (l:List Ev),JOk jb->DA ⟨s.aA,s.Cells,s.aX.set w.toNat jb,s.dT.set w.toNat ⟨q.jQ.drop 1⟩,l,s.aI+1⟩:=fun jb l hjb=>
    ⟨hs.1,hs.2.1,by simpa using h3,hT,by simp only;omega,hs.2.2.2.2.2.1,fun z hz=>(pN hz).elim (hs.2.2.2.2.2.2 z) (fun e=>e ▸ hjb)⟩
   simp only [hx,hdel,aE,iH,kB,ew]
   rw [aN (by omega)]
   by_cases k1:o.Kind=1
   ·simp only [k1,beq_self_eq_true,if_true,fJ,eD,hj,cY,dN,aE,hset,hn,etk,ew]
    exact⟨_,rfl,rfl,fin _ _ (aHK ho _ _ _ _),by simp⟩
   simp only [hQ k1,aQ,if_false]
   have pin:∀z,z=true->∃x,jH s w q o z=some x/\j5 s w o (q.jQ.drop 1) z=some x/\DA x/\x.Log.length<=s.Log.length+1:=fun z hz=>by
    subst hz
    simp only [jH,j5,if_true,iH,kB,hpn,aE,bO]
    cases pn.On with
    | true =>
     simp only [if_true,fJ,eD,hj,cY,dN,aE,hset,hn,etk,ew]
     exact⟨_,rfl,rfl,fin _ _ (aHK ho _ _ _ _),by simp⟩
    | false =>
     simp only [aQ,if_false,fJ,eD,hj,cY,dN,aE,hset,hn,etk,ew]
     exact⟨_,rfl,rfl,fin _ _ (aHK ho _ _ _ _),by simp⟩
   by_cases k2:o.Kind=2
   ·simp only [k2,beq_self_eq_true,if_true];exact pin true rfl
   simp only [hQ k2,aQ,if_false]
   by_cases k5:o.Kind=5
   ·simp only [k5,beq_self_eq_true];exact pin true rfl
   simp only [hQ k5,jH,j5,aQ,if_false,iH,kB,aE]
   by_cases k4:o.Kind=4
   ·simp only [k4,beq_self_eq_true,if_true,fJ,eD,hj,cY,dN,aE,hset,hn,etk,ew]
    exact⟨_,rfl,rfl,fin _ _ (aHK ho _ _ _ _),by simp⟩
   ·simp only [hQ k4,aQ,if_false,fJ,eD,hj,cY,dN,aE,hset,hn,etk,ew]
    exact⟨_,rfl,rfl,fin _ _ (aHK ho _ _ _ _),by simp⟩
theorem aMA{s:aG}(hs:DA s)(hl:s.Log.length<=1000000000){w:Int}(hw:0<=w/\w<=2):∃x,Q2 s w=some x/\tG s w=some x/\DA x/\x.Log.length<=s.Log.length+1:=by
 have h3:=hs.2.2.1
 have hset:∀x,idx (s.aX.set w.toNat x) w=some x:=L7 hw.1 (by omega)
 have hn:∀(e:Ev) {α:Type} (k:Option α),need (s.Log.length + [e].length<=1073741824) k=k:=fun e _ k=>aN (by simp;omega) k
 have hj:idx s.aX w=some (s.aX[w.toNat]'(by omega)):=fU hw.1 (by omega)
 have hjk:JOk (s.aX[w.toNat]'(by omega)):=hs.2.2.2.2.2.2 _ (eN _)
 generalize (s.aX[w.toNat]'(by omega))=j at hj hjk
 unfold Q2 tG
 rw [hj]
 simp only [aE]
 cases hb:j.eT with
 | false =>
  obtain⟨x,e1,e2,e3,e4⟩:=aYB hs hl hw hj
  simp only [iU,if_true,e1,e2,aE]
  exact⟨_,rfl,rfl,e3,e4⟩
 | true =>
  have hjo:=(A0 hb).1 hjk
  simp only [dE,aQ,if_false]
  by_cases p9:j.Pc=9
  ·simp only [p9,beq_self_eq_true,if_true,hn,cY,dN,hj,aE]
   exact⟨_,rfl,rfl,hs.put hs.1 ⟨hs.2.1,hs.2.2.2.2.2.1⟩ ((U5 rfl).2 rfl) _,by simp⟩
  simp only [hQ p9,aQ,if_false]
  have close:∀{A B:Option aG} {x:aG},A=some x->B=some x->DA x->x.Log.length<=s.Log.length+1->∃x,A=some x/\(B.bind fun z=>some z)=some x/\DA x/\x.Log.length<=s.Log.length+1:=fun h1 h2 h3 h4=>⟨_,h1,by rw [h2];rfl,h3,h4⟩
  by_cases k1:j.Op.Kind=1
  ·obtain⟨x,e1,e2,e3,e4⟩:=a4L hs hl hw hj hb hjo k1
   simp only [k1,beq_self_eq_true,if_true];exact close e1 e2 e3 e4
  simp only [hQ k1,aQ,if_false]
  by_cases k2:j.Op.Kind=2
  ·obtain⟨x,e1,e2,e3,e4⟩:=get_eq hs hl hw hj hb hjo k2
   simp only [k2,beq_self_eq_true,if_true];exact close e1 e2 e3 e4
  simp only [hQ k2,aQ,if_false]
  by_cases k3:j.Op.Kind=3
  ·obtain⟨x,e1,e2,e3,e4⟩:=a4M hs hl hw hj hb hjo k3
   simp only [k3,beq_self_eq_true,if_true];exact close e1 e2 e3 e4
  simp only [hQ k3,aQ,if_false]
  by_cases k7:j.Op.Kind=7
  ·obtain⟨x,e1,e2,e3,e4⟩:=a1J hs hl hw hj hb hjo k7
   simp only [k7,beq_self_eq_true,if_true];exact close e1 e2 e3 e4
  simp only [hQ k7,aQ,if_false]
  have hkr:=hjo.1.1
  obtain⟨x,e1,e2,e3,e4⟩:=aYA hs hl hw hj hb hjo (by omega)
  exact close e1 e2 e3 e4
end Go.Gv
end
noncomputable section
namespace Go.Gv
def CM(s:Sub)(code:Int):Sub:={s with Code:=code,cZ:=true}
def y4(n:Int):Int:=if 1<=n/\n<=8 then 0 else if 1<=n/\n<=16 then 1 else if 1<=n/\n<=40 then 2 else -1
theorem aHL(n:Int):-1<=y4 n/\y4 n<=2:=by unfold y4;split <;> (try split) <;> (try split) <;> omega
theorem aTW(n:Int):EV n=some (y4 n):=by
 have s1:∀k,0<=k/\k<=2->fX n k=some (if 1<=n/\n<=fB k then .stop (Out.ret k) else .next (k+1)):=fun k hk=>by
  simp only [fX]
  rw [if_pos (by simp;omega),rI,aE,b7,aE,aM (by omega) (by omega)]
  by_cases q:1<=n/\n<=fB k
  ·rw [aZ q,if_pos rfl,if_pos q]
  ·rw [bM q,if_neg (by simp),if_neg q]
 have z0:fB 0=8:=rfl
 have z1:fB 1=16:=rfl
 have z2:fB 2=40:=rfl
 unfold EV y4
 by_cases q0:1<=n/\n<=8
 ·rw [bL (by rw [s1 0 (by omega),if_pos (by omega)]),if_pos q0];rfl
 ·rw [bP (by rw [s1 0 (by omega),if_neg (by omega)]),if_neg q0,show(0:Int)+1=1 from rfl]
  by_cases q1:1<=n/\n<=16
  ·rw [bL (by rw [s1 1 (by omega),if_pos (by omega)]),if_pos q1];rfl
  ·rw [bP (by rw [s1 1 (by omega),if_neg (by omega)]),if_neg q1,show(1:Int)+1=2 from rfl]
   by_cases q2:1<=n/\n<=40
   ·rw [bL (by rw [s1 2 (by omega),if_pos (by omega)]),if_pos q2];rfl
   ·rw [bP (by rw [s1 2 (by omega),if_neg (by omega)]),if_neg q2,show(2:Int)+1=3 from rfl,bL (body:=fX n) (r:=Out.brk ()) (by simp [fX])];rfl
def L8(l:List Int):List Int×Int:=(l.dropLast,l.getLastD (-1))
theorem aEM{s:aR}(h:s.aT.length<=1048576):sL s=some (⟨(L8 s.aT).1⟩,(L8 s.aT).2):=by
 unfold sL N5 L8
 obtain⟨l⟩:=s
 rcases YD l with rfl | ⟨L,b,rfl⟩
 ·rfl
 ·simp only [aMT] at h ⊢
  have hl:(L ++ [b]).length=L.length+1:=by simp
  rw [hl,aM (by omega) (by omega),show((L.length+1:Nat):Int) - 1=(L.length:Int) by omega,if_neg (by simp;omega),aN (by omega),aU (by rw [hl];omega)]
  simp
def FN(m:Mem)(w c:Int):Mem×Int:=(⟨m.aC,⟨m.aB.Global,m.aB.Own.set (w * 3+c).toNat ⟨(L8 (dS m.aB.Own (w * 3+c).toNat)).1⟩⟩⟩,(L8 (dS m.aB.Own (w * 3+c).toNat)).2)
def uP(m:Mem)(c:Int):Mem×Int:=(⟨m.aC,⟨m.aB.Global.set c.toNat ⟨(L8 (dS m.aB.Global c.toNat)).1⟩,m.aB.Own⟩⟩,(L8 (dS m.aB.Global c.toNat)).2)
def Z7(h:aC):Nat:=h.Class.findIdx (fun x=>decide (x = -1))
def I9(m:Mem)(c:Int):Mem×Int:=if Z7 m.aC=6 then (m,-1) else
 (⟨⟨gB m.aC.Bytes (Z7 m.aC) c (bS c).toNat,m.aC.Class.set (Z7 m.aC) c⟩,⟨m.aB.Global.set c.toNat ⟨dS m.aB.Global c.toNat++(gS (Z7 m.aC) (bS c).toNat).drop 1⟩,m.aB.Own⟩⟩,(Z7 m.aC:Int) * 4)
theorem aYC{h:aC}(hs:fW h):Z7 h<=6:=by rw [<-hs.2.1];exact List.findIdx_le_length
theorem aYD{h:aC}(hs:fW h)(hq:Z7 h≠6):Z7 h < 6/\bQ h (Z7 h) = -1:=by
 have h6:=hs.2.1
 have hlt:Z7 h < 6:=by have:=aYC hs;omega
 refine⟨hlt,?_⟩
 rw [<-VW hs hlt]
 have:=List.findIdx_getElem (xs:=h.Class) (p:=fun x=>decide (x = -1)) (w:=by show Z7 h < _;omega)
 exact of_decide_eq_true this
theorem a1K{h:aC}(hs:fW h):∀j (hj:j < 6),j < Z7 h->bQ h j≠-1:=fun j hj hlt=>by
 have:=List.not_of_lt_findIdx hlt
 rw [<-VW hs hj]
 simpa using this
theorem a4N{h:aC}(hh:W5 h){c:Int}(hc:0<=c/\c<=2):sM h c=some (if Z7 h=6 then (h,[]) else (⟨gB h.Bytes (Z7 h) c (bS c).toNat,h.Class.set (Z7 h) c⟩,gS (Z7 h) (bS c).toNat)):=by
 have hs:=hh.1
 have h6:=hs.2.1
 have h384:=hs.1
 have hle:=aYC hs
 have s1:∀k (hk:k < Z7 h),fK h c (k:Int)=some (.next ((k+1:Nat):Int)):=fun k hk=>by
  have n:(h.Class[k] != -1)=true:=by
   have:=a1K hs k (by omega) hk
   rw [<-VW hs (by omega)] at this
   simpa using this
  simp only [fK,I4]
  rw [if_pos (by simp;omega),aU (by omega),aE,n,if_pos rfl,aM (by omega) (by omega)];rfl
 unfold sM
 by_cases hq:Z7 h=6
 ·have a1:loop (fK h c) 0=some (Out.brk ()):=fV (Z7 h) (fun k=>(k:Int)) _ s1 (by simp only [fK];rw [if_neg (by simp;omega)])
  rw [a1,if_pos hq];rfl
 ·obtain⟨hlt,he⟩:=aYD hs hq
  rw [<-VW hs hlt] at he
  generalize hqq:Z7 h=q at *
  have a1:loop (fK h c) 0=some (Out.ret (⟨gB h.Bytes q c (bS c).toNat,h.Class.set q c⟩,gS q (bS c).toNat)):=fV q (fun k=>(k:Int)) _ s1 (by
   have e0:aY ((q:Int) * 64)=((q * 64:Nat):Int):=by rw [aM (by omega) (by omega)];omega
   have e1:aY (((q * 64:Nat):Int)+1)=((q * 64+1:Nat):Int):=by rw [aM (by omega) (by omega)];omega
   have e2:aY (((q * 64:Nat):Int)+2)=((q * 64+2:Nat):Int):=by rw [aM (by omega) (by omega)];omega
   have n:(h.Class[q] != -1)=false:=by simpa using he
   simp only [fK,e0,e1,e2,P7]
   rw [if_pos (by simp;omega),aU (by omega),aE,n,if_neg (by simp),aU (by omega),aE,aU (by simp;omega),aE,iL,aE,aU (by simp;omega),aE]
   have:=aHC h384 hlt hc
   simp only [gB] at this
   rw [this];rfl)
  rw [a1,if_neg hq];rfl
theorem aTX{m:Mem}(hm:nF m){c:Int}(hc:0<=c/\c<=2):EW m c=some (I9 m c):=by
 have h3:=hm.1.2.1
 have hpp:0 < bS c:=gK.2 hc
 have hp4:=mP c
 obtain⟨_,_,_,_,_,_,_,_,hsG,_⟩:=nF.facts hm
 unfold EW I9
 rw [a4N hm.1.1 hc]
 by_cases hq:Z7 m.aC=6
 ·simp only [if_pos hq,aE];rfl
 ·have hk:c.toNat < m.aB.Global.length:=by omega
  have hg0:=hsG _ (eN hk)
  have hx:idx m.aB.Global c=some m.aB.Global[c.toNat]:=fU hc.1 (by omega)
  have hz:idx (gS (Z7 m.aC) (bS c).toNat) 0=some ((Z7 m.aC:Int) * 4):=by
   have:=aU (l:=gS (Z7 m.aC) (bS c).toNat) (k:=0) (by rw [L4];omega)
   rw [show((0:Nat):Int)=0 from rfl] at this
   rw [this];simp [gS]
  have hn:(((bS c).toNat:Int) == 0)=false:=by simpa using (by omega:¬((bS c).toNat:Int)=0)
  have ht:(gS (Z7 m.aC) (bS c).toNat).take (bS c).toNat=gS (Z7 m.aC) (bS c).toNat:=aQ3 (by rw [L4];omega)
  have hd:((gS (Z7 m.aC) (bS c).toNat).drop 1).length<=4:=by rw [MK,L4];omega
  simp only [if_neg hq,aE,L4,hn,aQ,if_false,hx,hz,I5,ht]
  rw [aN (by omega),aN (by simp only [MK,L4,Int.toNat_one];omega),dK hk];rfl
def aQH(m:Mem)(s:Int):Int:=if 1<=iP m.aC s/\iP m.aC s<=6 then iP m.aC s * 32+s else 0
theorem a1L{m:Mem}(hs:fW m.aC){s:Int}(hc:0<=aW m.aC s):AN m s=some (aQH m s):=by
 unfold AN N6 xZ aQH
 rw [pL hs hc,aE,b7,b7]
 have h1:=(qH hc).1
 simp only [aZ h1,aE,dE,aQ,if_false]
 by_cases q:1<=iP m.aC s/\iP m.aC s<=6
 ·simp only [aZ q,dE,aQ,if_false,if_pos q]
  rw [aM (x:=iP m.aC s * 32) (by omega) (by omega),aM (by omega) (by omega)];rfl
 ·simp only [bM q,iU,if_true,if_neg q];rfl
def OM(b:aA)(s:Sub)(p:Mem×Int):aA×Sub:=
 if 0<=p.2 then ({b with Mem:=p.1},CM {s with Out:=aQH p.1 p.2} 0) else if s.Pc=3 then ({b with Mem:=p.1},CM s 3) else ({b with Mem:=p.1},{s with Pc:=s.Pc+1})
def X7(b:aA)(w:Int)(s:Sub):aA×Sub:=
 if y4 s.A < 0 then (b,CM s 2)
 else if s.Pc=0 then OM b s (FN b.Mem w (y4 s.A))
 else if s.Pc=1\/s.Pc=3 then OM b s (uP b.Mem (y4 s.A))
 else if s.Pc=2 then OM b s (I9 b.Mem (y4 s.A))
 else (b,CM s 1)
theorem aTY{b:aA}(hm:nF b.Mem){w:Int}(hw:0<=w/\w<=2)(s:Sub):AO b w s=some (X7 b w s):=by
 obtain⟨hcnt,h3,h9,h1,h2,hsm,hcp,hlo,hsG,hsO⟩:=nF.facts hm
 have hs:=hm.1.1.1
 have hr:=aHL s.A
 unfold AO X7
 rw [aTW]
 simp only [aE]
 by_cases c0:y4 s.A < 0
 ·simp only [aZ c0,if_true,bK,if_pos c0];rfl
 generalize y4 s.A=c at *
 have hc:0<=c/\c<=2:=by omega
 simp only [bM c0,aQ,if_false,if_neg c0]
 have fin:∀(p:Mem×Int),-1<=p.2->(0<=p.2->fW p.1.aC/\0<=aW p.1.aC p.2)->s.Pc<=3/\0<=s.Pc->jI s p.2 ⟨p.1,b.aD,b.aO,b.l7⟩=some (OM b s p):=by
  intro p hp hx hpc
  unfold jI OM
  simp only [yA,Q0,bK]
  by_cases x0:0<=p.2
  ·rw [bM (show ¬p.2 < 0 by omega),aZ x0]
   simp only [aQ,if_false,if_true,if_pos x0,a1L (hx x0).1 (hx x0).2,aE];rfl
  ·rw [aZ (show p.2 < 0 by omega),bM x0]
   by_cases p3:s.Pc=3
   ·have p3':(s.Pc == 3)=true:=by simpa using p3
    simp only [p3',if_true,if_neg x0,if_pos p3,aE];rfl
   ·have p3':(s.Pc == 3)=false:=by simpa using p3
    have e:aY (s.Pc+1)=s.Pc+1:=aM (by omega) (by omega)
    simp only [p3',if_true,aQ,if_false,if_neg x0,if_neg p3,aE,e]
 have popL:∀l:List Int,-1<=(L8 l).2\/(L8 l).2∈l:=fun l=>by
  unfold L8
  rcases YD l with rfl | ⟨L,b,rfl⟩
  ·left;simp
  ·right;simp
 by_cases p0:s.Pc=0
 ·have hk:(w * 3+c).toNat < b.Mem.aB.Own.length:=by omega
  have hx:idx b.Mem.aB.Own (w * 3+c)=some b.Mem.aB.Own[(w * 3+c).toNat]:=fU (by omega) (by omega)
  obtain⟨l,t,x,e1,e2,e3,g1,g2,g3⟩:=aHG hm hw hc
  have hl:=hsO _ (eN hk)
  rw [hx] at e1;cases e1
  rw [aEM (by omega)] at e2
  have ep:FN b.Mem w c=(⟨b.Mem.aC,⟨b.Mem.aB.Global,b.Mem.aB.Own.set (w * 3+c).toNat t⟩⟩,x):=by
   unfold FN
   rw [<-dK hk]
   injection e2 with e2;injection e2 with e4 e5
   rw [<-e4,<-e5]
  have hx0:-1<=x:=by
   injection e2 with e2;injection e2 with e4 e5
   rcases popL b.Mem.aB.Own[(w * 3+c).toNat].aT with h | h
   ·rw [<-e5];exact h
   ·rw [<-e5];have:=hm.1.2.2.2.2.1 _ (aEP _ (aBN.2 ⟨_,eN hk,h⟩));omega
  have p0':(s.Pc == 0)=true:=by simpa using p0
  have:=fin (FN b.Mem w c) (by rw [ep];exact hx0) (by rw [ep];exact fun h=>⟨hs,g2 h⟩) (by omega)
  rw [ep] at this
  simp only [p0',if_true,if_pos p0,(P1 hw hc).1,aE,hx]
  rw [aEM (show b.Mem.aB.Own[(w * 3+c).toNat].aT.length<=1048576 by omega),e2,aE,ep]
  exact this
 ·have p0':(s.Pc == 0)=false:=by simpa using p0
  simp only [p0',aQ,if_false,yC,if_neg p0]
  have hk:c.toNat < b.Mem.aB.Global.length:=by omega
  have hx:idx b.Mem.aB.Global c=some b.Mem.aB.Global[c.toNat]:=fU (by omega) (by omega)
  obtain⟨l,t,x,e1,e2,e3,g1,g2,g3⟩:=XC hm hc
  have hl:=hsG _ (eN hk)
  rw [hx] at e1;cases e1
  rw [aEM (by omega)] at e2
  have ep:uP b.Mem c=(⟨b.Mem.aC,⟨b.Mem.aB.Global.set c.toNat t,b.Mem.aB.Own⟩⟩,x):=by
   unfold uP
   rw [<-dK hk]
   injection e2 with e2;injection e2 with e4 e5
   rw [<-e4,<-e5]
  have hx0:-1<=x:=by
   injection e2 with e2;injection e2 with e4 e5
   rcases popL b.Mem.aB.Global[c.toNat].aT with h | h
   ·rw [<-e5];exact h
   ·rw [<-e5];have:=hm.1.2.2.2.2.1 _ (V9 _ (aBN.2 ⟨_,eN hk,h⟩));omega
  have tg:0<=s.Pc/\s.Pc<=3->(idx b.Mem.aB.Global c).bind (fun x13=>(sL x13).bind fun x14=>jI s x14.2 ({b with Mem:=(⟨b.Mem.aC,(⟨b.Mem.aB.Global.set c.toNat x14.1,b.Mem.aB.Own⟩:aB)⟩:Mem)}:aA))=some (OM b s (uP b.Mem c)):=fun hpc=>by
   have:=fin (uP b.Mem c) (by rw [ep];exact hx0) (by rw [ep];exact fun h=>⟨hs,g2 h⟩) (by omega)
   rw [hx,aE,aEM (by omega),e2,aE,<-this,ep]
  by_cases p1:s.Pc=1
  ·have p1':(s.Pc == 1)=true:=by simpa using p1
   simp only [p1',if_true]
   rw [tg (by omega),if_pos (.inl p1)]
  ·have p1':(s.Pc == 1)=false:=by simpa using p1
   simp only [p1',aQ,if_false]
   by_cases p3:s.Pc=3
   ·have p3':(s.Pc == 3)=true:=by simpa using p3
    simp only [p3',if_true]
    rw [tg (by omega),if_pos (.inr p3)]
   ·have p3':(s.Pc == 3)=false:=by simpa using p3
    have n13:¬(s.Pc=1\/s.Pc=3):=by omega
    simp only [p3',aQ,if_false,if_neg n13]
    by_cases p2:s.Pc=2
    ·obtain⟨m',y,f1,f2,k1,k2,k3⟩:=aOC hm hc
     have hg:=aTX hm hc
     rw [f1] at hg
     have hg':I9 b.Mem c=(m',y):=by injection hg with hg;exact hg.symm
     have hy:-1<=(I9 b.Mem c).2:=by unfold I9;split <;> simp only <;> omega
     have p2':(s.Pc == 2)=true:=by simpa using p2
     simp only [p2',if_true,if_pos p2,f1,aE]
     have:=fin (I9 b.Mem c) hy (by rw [hg'];exact k2) (by omega)
     rw [hg'] at this ⊢
     exact this
    ·have p2':(s.Pc == 2)=false:=by simpa using p2
     simp only [p2',aQ,if_false,bK,if_neg p2,aE];rfl
end Go.Gv
end
noncomputable section
namespace Go.Gv
def bX(c:aD)(w:Int):pQ:=c.b9.getD w.toNat ⟨false,0,false,0⟩
theorem yJ{c:aD}(hc:LU c){w:Int}(hw:0<=w/\w<=2):idx c.b9 w=some (bX c w):=by
 have:=hc.2.1
 rw [fU hw.1 (by omega)]
 simp [bX,gR,eM (show w.toNat < c.b9.length by omega)]
def C7(c:aD)(w e:Int):aD×Bool:=
 if (bX c w).On=false\/(bX c w).dB=true\/(bX c w).aJ=e then (c,true)
 else if (bX c w).Seen=2 then (⟨c.aJ,c.b9.set w.toNat {bX c w with dB:=true,Seen:=0}⟩,true)
 else (⟨c.aJ,c.b9.set w.toNat {bX c w with Seen:=(bX c w).Seen+1}⟩,false)
theorem U6{c:aD}(hc:LU c){w:Int}(hw:0<=w/\w<=2):POk c.aJ (bX c w):=by
 have:=yJ hc hw
 have h2:=hc.2.1
 rw [fU hw.1 (by omega)] at this
 injection this with this
 rw [<-this]
 exact hc.2.2 _ (eN _)
theorem aYE{c:aD}(hc:LU c){w:Int}(hw:0<=w/\w<=2)(e:Int):IE c w e=some (C7 c w e):=by
 have hp:=U6 hc hw
 have hx:=yJ hc hw
 have hsm:=hc.small
 unfold IE EY C7
 rw [mU hsm.1,jA,aZ hc,b7,aZ hw,hx]
 simp only [aE,dE,aQ,if_false,rF,hx]
 generalize bX c w=p at *
 have ew:aY (p.Seen+1)=p.Seen+1:=aM (by have:=hp.2.1;omega) (by have:=hp.2.1;omega)
 cases h1:p.On
 ·simp
 ·cases h2:p.dB
  ·by_cases h3:p.aJ=e
   ·simp [h3]
   ·have h3':(p.aJ == e)=false:=by simpa using h3
    by_cases h4:p.Seen=2
    ·simp [h3,h3',h4]
    ·have h4':(p.Seen == 2)=false:=by simpa using h4
     simp [h3,h3',h4,h4',ew]
  ·simp
def aB3(c:aD)(e:Int):aD×Bool:=if c.aJ=e/\e≠100000 then (⟨e+1,c.b9⟩,true) else (c,false)
theorem aYF{c:aD}(hc:LU c)(e:Int):PH c e=some (aB3 c e):=by
 have hsm:=hc.small
 unfold PH EZ aB3
 rw [mU hsm.1,jA,aZ hc]
 simp only [aE,dE,aQ,if_false]
 by_cases h1:c.aJ=e
 ·have he:=hc.1
  have ew:aY (e+1)=e+1:=aM (by omega) (by omega)
  by_cases h2:e=100000
  ·simp [h1,h2]
  ·have h2':(e == 100000)=false:=by simpa using h2
   simp [h1,h2,h2',ew]
 ·simp [h1]
def RJ(c:aD)(w e:Int):aD×Bool:=if 0<=e/\e<=c.aJ then (⟨c.aJ,c.b9.set w.toNat ⟨true,e,false,0⟩⟩,true) else (c,false)
theorem aTZ{c:aD}(hc:LU c){w:Int}(hw:0<=w/\w<=2)(e:Int):LG c w e=some (RJ c w e):=by
 have hsm:=hc.small
 unfold LG AP RJ
 rw [mU hsm.1,jA,aZ hc,b7,aZ hw,b7]
 simp only [aE,dE,aQ,if_false]
 by_cases h1:0<=e/\e<=c.aJ
 ·simp [h1,yJ hc hw]
 ·simp [h1]
def L9(c:aD)(w:Int):aD×Bool:=if (bX c w).On then (⟨c.aJ,c.b9.set w.toNat ⟨false,0,false,0⟩⟩,true) else (c,false)
theorem aKB{c:aD}(hc:LU c){w:Int}(hw:0<=w/\w<=2):GJ c w=some (L9 c w):=by
 have hsm:=hc.small
 have hx:=yJ hc hw
 unfold GJ AQ L9
 rw [mU hsm.1,jA,aZ hc,b7,aZ hw,hx]
 simp only [aE,dE,aQ,if_false,hx]
 cases h1:(bX c w).On <;> simp
def uD(b:aA)(s:Sub):aA×Sub:=
 if s.Pc=0 then (b,{s with Pc:=1,E:=b.aD.aJ,B:=0})
 else if s.Pc=1 then
  if 0<=s.B/\s.B<=2 then
   if (C7 b.aD s.B s.E).2 then ({b with aD:=(C7 b.aD s.B s.E).1},{s with Pc:=if s.B=2 then 2 else 1,B:=s.B+1})
   else ({b with aD:=(C7 b.aD s.B s.E).1},CM s 8)
  else (b,CM s 1)
 else if s.Pc=2 then ({b with aD:=(aB3 b.aD s.E).1},CM {s with Out:=if (aB3 b.aD s.E).2 then 1 else s.Out} 0)
 else (b,CM s 1)
theorem aOH{b:aA}(hc:LU b.aD)(s:Sub):tZ b s=some (uD b s):=by
 unfold tZ uD
 rw [aYF hc,b7]
 simp only [bK,sN,sO,aE]
 by_cases p0:s.Pc=0
 ·have p0':(s.Pc == 0)=true:=by simpa using p0
  simp only [p0',if_true,if_pos p0]
 ·have p0':(s.Pc == 0)=false:=by simpa using p0
  simp only [p0',aQ,if_false,if_neg p0]
  by_cases p1:s.Pc=1
  ·have p1':(s.Pc == 1)=true:=by simpa using p1
   simp only [p1',if_true,if_pos p1]
   by_cases hB:0<=s.B/\s.B<=2
   ·have ew:aY (s.B+1)=s.B+1:=aM (by omega) (by omega)
    simp only [aZ hB,dE,aQ,if_false,if_pos hB,aYE hc hB,aE,ew]
    cases h:(C7 b.aD s.B s.E).2
    ·simp [CM]
    ·by_cases q:s.B=2
     ·have q':(s.B+1 == 3)=true:=by simp [q]
      simp [q',q]
     ·have q':(s.B+1 == 3)=false:=by simp;omega
      simp [q',q,p1]
   ·simp only [bM hB,iU,if_true,if_neg hB];rfl
  ·have p1':(s.Pc == 1)=false:=by simpa using p1
   simp only [p1',aQ,if_false,if_neg p1]
   by_cases p2:s.Pc=2
   ·have p2':(s.Pc == 2)=true:=by simpa using p2
    simp only [p2',if_true,if_pos p2]
    cases h:(aB3 b.aD s.E).2 <;> rfl
   ·have p2':(s.Pc == 2)=false:=by simpa using p2
    simp only [p2',aQ,if_false,if_neg p2];rfl
def Z8(b:aA)(w:Int)(s:Sub):aA×Sub:=
 if s.Pc=0 then (b,{s with Pc:=1,E:=b.aD.aJ})
 else if s.Pc=1 then
  if (RJ b.aD w s.E).2 then ({b with aD:=(RJ b.aD w s.E).1},{s with Pc:=2}) else ({b with aD:=(RJ b.aD w s.E).1},CM s 1)
 else if s.Pc=2 then if b.aD.aJ=s.E then (b,CM s 0) else (b,{s with Pc:=0})
 else (b,CM s 1)
theorem a1M{b:aA}(hc:LU b.aD){w:Int}(hw:0<=w/\w<=2)(s:Sub):IG b w s=some (Z8 b w s):=by
 unfold IG Z8
 rw [aTZ hc hw]
 simp only [bK,aE]
 by_cases p0:s.Pc=0
 ·have p0':(s.Pc == 0)=true:=by simpa using p0
  simp only [p0',if_true,if_pos p0]
 ·have p0':(s.Pc == 0)=false:=by simpa using p0
  simp only [p0',aQ,if_false,if_neg p0]
  by_cases p1:s.Pc=1
  ·have p1':(s.Pc == 1)=true:=by simpa using p1
   simp only [p1',if_true,if_pos p1]
   cases h:(RJ b.aD w s.E).2 <;> rfl
  ·have p1':(s.Pc == 1)=false:=by simpa using p1
   simp only [p1',aQ,if_false,if_neg p1]
   by_cases p2:s.Pc=2
   ·have p2':(s.Pc == 2)=true:=by simpa using p2
    simp only [p2',if_true,if_pos p2]
    by_cases q:b.aD.aJ=s.E
    ·have q':(b.aD.aJ == s.E)=true:=by simpa using q
     simp only [q',if_true,if_pos q];rfl
    ·have q':(b.aD.aJ == s.E)=false:=by simpa using q
     simp only [q',aQ,if_false,if_neg q]
   ·have p2':(s.Pc == 2)=false:=by simpa using p2
    simp only [p2',aQ,if_false,if_neg p2];rfl
def dC(l:List bC)(w:Int):List dA:=(l.getD w.toNat ⟨[]⟩).Rows
theorem GR{l:List bC}(hl:pR l){w:Int}(hw:0<=w/\w<=2):idx l w=some ⟨dC l w⟩:=by
 have:=hl.1
 rw [fU hw.1 (by omega)]
 simp [dC,gR,eM (show w.toNat < l.length by omega)]
theorem aKC{l:List bC}(hl:pR l){w:Int}(hw:0<=w/\w<=2):(dC l w).length<=24:=by
 have h:=GR hl hw
 have h3:=hl.1
 rw [fU hw.1 (by omega)] at h
 injection h with h
 have:=hl.small.2.2.2 _ (eN (show w.toNat < l.length by omega))
 rw [h] at this;exact this
def RK(b:aA)(w:Int)(s:Sub):aA×Sub:=
 if s.Pc=0 then (b,{s with Pc:=1,E:=b.aD.aJ})
 else if s.Pc=1 then
  if 0<=s.E/\s.E<=b.aD.aJ then
   if hC b.Mem s.A/\¬CK b.aO (s.A % 32) then ({b with aO:=b.aO.set w.toNat ⟨dC b.aO w ++ [⟨s.A,s.E⟩]⟩},CM s 0) else (b,CM s 4)
  else (b,CM s 1)
 else (b,CM s 1)
theorem aQI{b:aA}(hb:mC b){w:Int}(hw:0<=w/\w<=2)(s:Sub):wN b w s=some (RK b w s):=by
 have hL:=hb.1.2.2.1
 have hm:=hb.1.1
 obtain⟨h1,h2,h3,_⟩:=nF.facts hm
 have hx:=GR hL hw
 have hrow:=aKC hL hw
 unfold wN RK
 rw [b7,l8 hm.1.1.1 (by omega) (by simp only [maxLen];omega) (by simp only [maxLen];omega),cQ]
 simp only [bK,aE,vG,EX]
 by_cases p0:s.Pc=0
 ·have p0':(s.Pc == 0)=true:=by simpa using p0
  simp only [p0',if_true,if_pos p0]
 ·have p0':(s.Pc == 0)=false:=by simpa using p0
  simp only [p0',aQ,if_false,if_neg p0]
  by_cases p1:s.Pc=1
  ·have p1':(s.Pc == 1)=true:=by simpa using p1
   simp only [p1',if_true,if_pos p1]
   by_cases q1:0<=s.E/\s.E<=b.aD.aJ
   ·simp only [aZ q1,dE,aQ,if_false,if_pos q1]
    by_cases q2:hC b.Mem s.A
    ·have hh:=q2.1
     simp only [aZ q2,dE,aQ,if_false,if_pos hh,B4 hL,aE]
     by_cases q3:CK b.aO (s.A % 32)
     ·simp only [aZ q3,if_true,if_neg (show ¬(hC b.Mem s.A/\¬CK b.aO (s.A % 32)) from fun h=>h.2 q3)];rfl
     ·simp only [bM q3,aQ,if_false,hx,aE,if_pos (show hC b.Mem s.A/\¬CK b.aO (s.A % 32) from ⟨q2,q3⟩)]
      rw [aN (by simp;omega)];rfl
    ·simp only [bM q2,iU,if_true,if_neg (show ¬(hC b.Mem s.A/\¬CK b.aO (s.A % 32)) from fun h=>q2 h.1)];rfl
   ·simp only [bM q1,iU,if_true,if_neg q1];rfl
  ·have p1':(s.Pc == 1)=false:=by simpa using p1
   simp only [p1',aQ,if_false,if_neg p1];rfl
def FO(r:dA)(e:Int):Prop:=2<=e/\r.aJ<=aY (e - 2)
instance (r:dA) (e:Int):Decidable (FO r e):=by unfold FO;infer_instance
theorem aHM(r:dA)(e:Int):KV r e=some (decide (FO r e)):=by
 unfold KV KI FO
 by_cases h:2<=e
 ·rw [aZ h,if_pos rfl]
  simp [h]
 ·simp [h]
def xA(l:List dA)(e:Int)(k:Nat):Nat:=k+(l.drop k).findIdx (fun r=>decide (FO r e))
theorem aYG{l:List dA}(hl:l.length<=1000){from_ e:Int}:yE l from_ e=some (if xA l e from_.toNat < l.length then (xA l e from_.toNat:Int) else -1):=by
 have hst:(if 0 < from_ then from_ else 0)=(from_.toNat:Int):=by split <;> omega
 unfold yE
 rw [hst]
 have key:∀d k:Nat,l.length<=k+d->loop (eR l e) (k:Int)=some (if xA l e k < l.length then Out.ret (xA l e k:Int) else Out.brk ()):=by
  intro d
  induction d with
  | zero =>
   intro k hk
   rw [bL (r:=Out.brk ()) (by simp only [eR];rw [if_neg (by simp;omega)]),if_neg (by unfold xA;omega)]
  | succ d ih =>
   intro k hk
   by_cases hkl:k < l.length
   ·have hd:l.drop k=l[k] :: l.drop (k+1):=y6 hkl
    by_cases hr:FO l[k] e
    ·have hs:xA l e k=k:=by unfold xA;rw [hd,List.findIdx_cons,aZ hr];rfl
     rw [bL (r:=Out.ret (k:Int)) (by simp only [eR];rw [if_pos (by simp;omega),aU hkl,aE,aHM _ e,aE,aZ hr,if_pos rfl]),hs,if_pos hkl]
    ·have hs:xA l e k=xA l e (k+1):=by unfold xA;rw [hd,List.findIdx_cons,bM hr];simp only [cond_false];omega
     rw [bP (s':=((k+1:Nat):Int)) (by simp only [eR];rw [if_pos (by simp;omega),aU hkl,aE,aHM _ e,aE,bM hr,if_neg (by simp),aM (by omega) (by omega)];rfl),ih (k+1) (by omega),hs]
   ·rw [bL (r:=Out.brk ()) (by simp only [eR];rw [if_neg (by simp;omega)]),if_neg (by unfold xA;omega)]
 rw [key l.length from_.toNat (by omega)]
 split <;> rfl
theorem aQJ{l:List dA}{e:Int}{k:Nat}(h:xA l e k < l.length):k<=xA l e k/\FO l[xA l e k] e:=by
 refine⟨by unfold xA;omega,?_⟩
 have h1:(l.drop k).findIdx (fun r=>decide (FO r e)) < (l.drop k).length:=by
  rw [MK];unfold xA at h;omega
 have:=List.findIdx_getElem (xs:=l.drop k) (p:=fun r=>decide (FO r e)) (w:=h1)
 rw [List.getElem_drop] at this
 exact of_decide_eq_true this
def FP(m:Mem)(w h:Int):Mem:=
 if h / 32+1<=6 then
  if (dS m.aB.Own (w * 3+aW m.aC (h % 32)).toNat).length < 2 then ⟨⟨st4 m.aC.Bytes (eF (h % 32) (aW m.aC (h % 32))).toNat (h / 32+1),m.aC.Class⟩,⟨m.aB.Global,m.aB.Own.set (w * 3+aW m.aC (h % 32)).toNat ⟨dS m.aB.Own (w * 3+aW m.aC (h % 32)).toNat ++ [h % 32]⟩⟩⟩
  else ⟨⟨st4 m.aC.Bytes (eF (h % 32) (aW m.aC (h % 32))).toNat (h / 32+1),m.aC.Class⟩,⟨m.aB.Global.set (aW m.aC (h % 32)).toNat ⟨dS m.aB.Global (aW m.aC (h % 32)).toNat ++ [h % 32]⟩,m.aB.Own⟩⟩
 else ⟨⟨st4 m.aC.Bytes (eF (h % 32) (aW m.aC (h % 32))).toNat (h / 32+1),m.aC.Class⟩,m.aB⟩
theorem aYH{m:Mem}(hm:nF m){w h:Int}(hw:0<=w/\w<=2)(hv:hC m h):IF m w (h % 32)=some (FP m w h):=by
 obtain⟨hcnt,h3,h9,h1,h2,hsm,hcp,hlo,hsG,hsO⟩:=nF.facts hm
 have hs:=hm.1.1.1
 have hh:=hv.1
 have hcl:=hJ hv.2.1
 have hgo:=HW hcl
 have hc2:0<=aW m.aC (h % 32)/\aW m.aC (h % 32)<=2:=by
  obtain⟨_,q,e⟩:=qH hcl
  rw [e];exact gK.1 (by omega)
 have hg6:1<=h / 32/\h / 32<=6:=by unfold jN at hh;omega
 have eo:eF (h % 32) (aW m.aC (h % 32))=(((eF (h % 32) (aW m.aC (h % 32))).toNat:Nat):Int):=by omega
 have ew:aY (h / 32+1)=h / 32+1:=aM (by omega) (by omega)
 unfold IF FP
 rw [i7 hs,aE,pL hs hcl,hv.2.2,aE,uN,aE,ew]
 generalize hgn:(eF (h % 32) (aW m.aC (h % 32))).toNat=a at eo
 rw [eo,I8 (by omega) (by omega) (by omega)]
 simp only [aE,LF,LD,ew]
 generalize aW m.aC (h % 32)=c at *
 by_cases q:h / 32+1<=6
 ·have hk:(w * 3+c).toNat < m.aB.Own.length:=by omega
  have hx:idx m.aB.Own (w * 3+c)=some m.aB.Own[(w * 3+c).toNat]:=fU (by omega) (by omega)
  have hk2:c.toNat < m.aB.Global.length:=by omega
  have hx2:idx m.aB.Global c=some m.aB.Global[c.toNat]:=fU (by omega) (by omega)
  have b1:=hsO _ (eN hk)
  have b2:=hsG _ (eN hk2)
  rw [aZ q,if_pos rfl,if_pos q]
  unfold T6
  rw [(P1 hw hc2).1]
  simp only [aE,hx,hx2,LC,T4,T5,<-dK hk,<-dK hk2]
  by_cases q2:m.aB.Own[(w * 3+c).toNat].aT.length < 2
  ·have y1:(m.aB.Own[(w * 3+c).toNat].aT.length:Int) < 2:=by omega
   simp only [aZ y1,if_true,if_pos q2]
   rw [aN (by simp;omega)];rfl
  ·have y1:¬(m.aB.Own[(w * 3+c).toNat].aT.length:Int) < 2:=by omega
   simp only [bM y1,aQ,if_false,if_neg q2]
   rw [aN (by simp;omega)];rfl
 ·rw [bM q,if_neg (by simp),if_neg q]
def rK(z:List Int)(w:Int):Int:=z.getD w.toNat 0
theorem P2{z:List Int}(hz:KN z){w:Int}(hw:0<=w/\w<=2):idx z w=some (rK z w):=by
 have:=hz.1
 rw [fU hw.1 (by omega)]
 simp [rK,gR,eM (show w.toNat < z.length by omega)]
def JA(l:List dA)(k:Int):dA:=l.getD k.toNat ⟨0,0⟩
theorem U7{l:List dA}{k:Int}(h:0<=k/\k < l.length):idx l k=some (JA l k):=by
 rw [fU h.1 h.2]
 simp [JA,gR,eM (show k.toNat < l.length by omega)]
def IN(l:List dA)(s:Sub):Prop:=0<=s.Row/\s.Row < l.length/\(JA l s.Row).Handle=s.H
instance (l:List dA) (s:Sub):Decidable (IN l s):=by unfold IN;infer_instance
def pE(b:aA)(w:Int)(s:Sub):aA×Sub:=
 if s.Pc=0 then (b,{s with Pc:=1,E:=b.aD.aJ,Row:=0})
 else if s.Pc=1 then
  if xA (dC b.aO w) s.E s.Row.toNat < (dC b.aO w).length then (b,{s with Pc:=2,Row:=(xA (dC b.aO w) s.E s.Row.toNat:Int),B:=0,H:=(JA (dC b.aO w) (xA (dC b.aO w) s.E s.Row.toNat:Int)).Handle})
  else (b,CM s 0)
 else if s.Pc=2 then
  if (0<=s.B/\s.B<=2)/\IN (dC b.aO w) s then
   if rK b.l7 s.B=s.H then (b,{s with Pc:=1,Row:=s.Row+1}) else (b,{s with Pc:=if s.B=2 then 3 else 2,B:=s.B+1})
  else (b,CM s 1)
 else if s.Pc=3 then
  if IN (dC b.aO w) s/\FO (JA (dC b.aO w) s.Row) s.E then ({b with Mem:=FP b.Mem w s.H,aO:=b.aO.set w.toNat ⟨(dC b.aO w).eraseIdx s.Row.toNat⟩},{s with Pc:=1,Out:=aY (s.Out+1)})
  else (b,CM s 1)
 else (b,CM s 1)
theorem U8{l:List bC}(hl:pR l){w:Int}(hw:0<=w/\w<=2){r:dA}(hr:r∈dC l w):r∈bH l:=by
 have h:=GR hl hw
 have h3:=hl.1
 rw [fU hw.1 (by omega)] at h
 injection h with h
 exact aBN.2 ⟨l[w.toNat],eN _,by rw [h];exact hr⟩
theorem aHN{l:List dA}{k:Int}(h:0<=k/\k < l.length):JA l k∈l:=by
 have:=U7 h
 rw [fU h.1 h.2] at this
 injection this with this
 rw [<-this];exact eN _
theorem aOI{b:aA}(hb:mC b){w:Int}(hw:0<=w/\w<=2)(s:Sub):uA b w s=some (pE b w s):=by
 have hL:=hb.1.2.2.1
 have hm:=hb.1.1
 have hx:=GR hL hw
 have hrow:=aKC hL hw
 have hfl:=fun r hr=>U8 hL hw (r:=r) hr
 unfold uA pE
 rw [hx]
 simp only [aE,bK]
 generalize dC b.aO w=l at *
 by_cases p0:s.Pc=0
 ·have p0':(s.Pc == 0)=true:=by simpa using p0
  simp only [p0',if_true,if_pos p0]
 have p0':(s.Pc == 0)=false:=by simpa using p0
 simp only [p0',aQ,if_false,if_neg p0]
 by_cases p1:s.Pc=1
 ·have p1':(s.Pc == 1)=true:=by simpa using p1
  simp only [p1',if_true,if_pos p1,aYG (show l.length<=1000 by omega),aE]
  by_cases q:xA l s.E s.Row.toNat < l.length
  ·have n:¬(xA l s.E s.Row.toNat:Int) < 0:=by omega
   simp only [if_pos q,bM n,aQ,if_false,U7 (l:=l) (k:=(xA l s.E s.Row.toNat:Int)) (by omega),aE]
  ·simp only [if_neg q,aZ (show(-1:Int) < 0 by omega),if_true];rfl
 have p1':(s.Pc == 1)=false:=by simpa using p1
 simp only [p1',aQ,if_false,if_neg p1]
 have el:aY ((l.length:Int) - 1)=(l.length:Int) - 1:=aM (by omega) (by omega)
 by_cases p2:s.Pc=2
 ·have p2':(s.Pc == 2)=true:=by simpa using p2
  simp only [p2',if_true,if_pos p2,b7,el,aE,fP,sP,bK]
  by_cases hB:0<=s.B/\s.B<=2
  ·simp only [aZ hB,dE,aQ,if_false]
   by_cases hR:0<=s.Row/\s.Row<=(l.length:Int) - 1
   ·simp only [aZ hR,dE,aQ,if_false,U7 (l:=l) (k:=s.Row) (by omega),aE]
    by_cases hH:(JA l s.Row).Handle=s.H
    ·have hH':((JA l s.Row).Handle != s.H)=false:=by simpa using hH
     have ha:(0<=s.B/\s.B<=2)/\IN l s:=⟨hB,hR.1,by omega,hH⟩
     have e1:aY (s.B+1)=s.B+1:=aM (by omega) (by omega)
     have e2:aY (s.Row+1)=s.Row+1:=aM (by omega) (by omega)
     simp only [hH',aQ,if_false,if_pos ha,P2 hb.1.2.2.2 hB,aE,e1,e2]
     by_cases hz:rK b.l7 s.B=s.H
     ·have hz':(rK b.l7 s.B == s.H)=true:=by simpa using hz
      simp only [hz',if_true,if_pos hz]
     ·have hz':(rK b.l7 s.B == s.H)=false:=by simpa using hz
      simp only [hz',aQ,if_false,if_neg hz]
      by_cases q:s.B=2
      ·have q':(s.B+1 == 3)=true:=by simp [q]
       simp only [q',if_true,if_pos q]
      ·have q':(s.B+1 == 3)=false:=by simp;omega
       simp only [q',aQ,if_false,if_neg q,p2]
    ·have hH':((JA l s.Row).Handle != s.H)=true:=by simpa using hH
     have ha:¬((0<=s.B/\s.B<=2)/\IN l s):=fun h=>hH h.2.2.2
     simp only [hH',if_true,if_neg ha,aE];rfl
   ·have ha:¬((0<=s.B/\s.B<=2)/\IN l s):=fun h=>hR ⟨h.2.1,by have:=h.2.2.1;omega⟩
    simp only [bM hR,iU,if_true,if_neg ha,aE];rfl
  ·have ha:¬((0<=s.B/\s.B<=2)/\IN l s):=fun h=>hB h.1
   simp only [bM hB,iU,if_true,if_neg ha,aE];rfl
 have p2':(s.Pc == 2)=false:=by simpa using p2
 simp only [p2',aQ,if_false,if_neg p2]
 by_cases p3:s.Pc=3
 ·have p3':(s.Pc == 3)=true:=by simpa using p3
  simp only [p3',if_true,if_pos p3,b7,el,aE,fQ,CI,bK]
  by_cases hR:0<=s.Row/\s.Row<=(l.length:Int) - 1
  ·simp only [aZ hR,dE,aQ,if_false,U7 (l:=l) (k:=s.Row) (by omega),aE]
   by_cases hH:(JA l s.Row).Handle=s.H
   ·have hH':((JA l s.Row).Handle != s.H)=false:=by simpa using hH
    simp only [hH',aQ,if_false,aHM,aE]
    by_cases hr:FO (JA l s.Row) s.E
    ·have ha:IN l s/\FO (JA l s.Row) s.E:=⟨⟨hR.1,by omega,hH⟩,hr⟩
     have e2:aY (s.Row+1)=s.Row+1:=aM (by omega) (by omega)
     have hlive:=(hb.2 _ (hfl _ (aHN (l:=l) (k:=s.Row) (by omega)))).1
     rw [hH] at hlive
     have et:(s.Row+1).toNat=s.Row.toNat+1:=by omega
     simp only [aZ hr,dE,aQ,if_false,if_pos ha,e2,cQ,if_pos hlive.1,aE,aYH hm hw hlive,et]
     rw [aN (by omega),aN (by omega),aN (by omega),del_eq (by omega)]
    ·have ha:¬(IN l s/\FO (JA l s.Row) s.E):=fun h=>hr h.2
     simp only [bM hr,iU,if_true,if_neg ha,aE];rfl
   ·have hH':((JA l s.Row).Handle != s.H)=true:=by simpa using hH
    have ha:¬(IN l s/\FO (JA l s.Row) s.E):=fun h=>hH h.1.2.2
    simp only [hH',if_true,if_neg ha,aE];rfl
  ·have ha:¬(IN l s/\FO (JA l s.Row) s.E):=fun h=>hR ⟨h.1.1,by have:=h.1.2.1;omega⟩
   simp only [bM hR,iU,if_true,if_neg ha,aE];rfl
 ·have p3':(s.Pc == 3)=false:=by simpa using p3
  simp only [p3',aQ,if_false,if_neg p3];rfl
def gJ(b:aA)(w:Int)(s:Sub):aA×Sub:=
 if s.cZ then (b,s) else if s.Kind=1 then X7 b w s else if s.Kind=2 then RK b w s else if s.Kind=3 then uD b s else if s.Kind=4 then pE b w s else if s.Kind=5 then Z8 b w s else (b,CM s 1)
theorem aMB{b:aA}(hb:mC b){w:Int}(hw:0<=w/\w<=2)(s:Sub):wO b w s=some (gJ b w s):=by
 unfold wO gJ
 rw [aTY hb.1.1 hw,aQI hb hw,aOH hb.1.2.1,aOI hb hw,a1M hb.1.2.1 hw]
 simp only [aE,bK]
 cases s.cZ
 ·simp only [aQ,if_false,beq_iff_eq]
  split <;> (try rfl)
  split <;> (try rfl)
  split <;> (try rfl)
  split <;> (try rfl)
  split <;> rfl
 ·rfl
end Go.Gv
end
noncomputable section
namespace Go.Gv
def aYI:aC:=⟨List.replicate 384 0,[-1,-1,-1,-1,-1,-1]⟩
def a4O:aB:=⟨List.replicate 3 ⟨[]⟩,List.replicate 9 ⟨[]⟩⟩
def aHO:aA:=⟨⟨aYI,a4O⟩,⟨0,List.replicate 3 ⟨false,0,false,0⟩⟩,List.replicate 3 ⟨[]⟩,List.replicate 3 0⟩
theorem aDZ:JO=some aYI:=by
 unfold JO
 have key:loop sZ (0,[])=some (List.replicate 6 (-1)):=fV (f:=sZ) 6 (fun k=>((k:Int),List.replicate k (-1))) _ (fun k hk=>by
  simp only [sZ]
  rw [if_pos (by simp;omega),aN (by simp;omega),aM (by omega) (by omega),List.replicate_succ'];rfl) (by simp [sZ])
 rw [aN (by omega),key];rfl
theorem a4P:uZ [-1] 6=some [-1,-1,-1,-1,-1,-1]:=by
 unfold uZ
 rw [if_neg (by simp),show NY (IntKind.u64.wrap (([-1]:List Int).length:Int)) (IntKind.u64.wrap 6)=some (0,6) by kernel_rfl]
 simp only [aE]
 rw [if_neg (by simp),bM (by omega)]
 simp only [oW,aQ,if_false]
 rw [show IntKind.i64.wrap 6=6 from wrap_i64 (by omega) (by omega),aN (by omega),
  show(dF (List.replicate (Int.toNat 6) 0) 0 [-1],((min ([-1]:List Int).length ((List.replicate (Int.toNat 6) (0:Int)).length - 0):Nat):Int))=([-1,0,0,0,0,0],1) by kernel_rfl,
  bP (body:=lD) (s':=([-1,-1,0,0,0,0],2)) (by kernel_rfl),bP (body:=lD) (s':=([-1,-1,-1,-1,0,0],4)) (by kernel_rfl),
  bP (body:=lD) (s':=([-1,-1,-1,-1,-1,-1],6)) (by kernel_rfl),bL (body:=lD) (r:=[-1,-1,-1,-1,-1,-1]) (by kernel_rfl)]
 rfl
theorem aD0:J6=some aYI:=by
 unfold J6
 rw [aN (by omega),a4P];rfl
theorem aHP:JQ=some aHO/\J7=some aHO:=by
 unfold JQ J7 TO TZ NQ NZ NR N0 NS N2 TP T0
 rw [aDZ,aD0,aN (by omega),aN (by omega),aN (by omega),aN (by omega),aN (by omega)]
 exact⟨rfl,rfl⟩
theorem aYJ:mC aHO:=of_decide_eq_true (by kernel_rfl)
def aMC:aG:=⟨⟨⟨⟨[],[]⟩,⟨[],[]⟩⟩,⟨0,[]⟩,[],[]⟩,[],[],[],[],0⟩
def lH(t:List Queue):aG:=⟨aHO,List.replicate 2 0,List.replicate 3 L6,t,[],0⟩
theorem aT0{t:List Queue}(h:OL t):DA (lH t):=
 ⟨aYJ,rfl,rfl,h,by simp [lH],fun q hq=>by simp [lH] at hq;exact .inl hq,fun j hj=>by simp [lH] at hj;exact(U5 (by rw [hj];rfl)).2 hj⟩
theorem aKD{l:List Queue}(hl:l.length<=1048576)(hq:∀q∈l,q.jQ.length<=1048576):DN l=some l/\G3 l=some l:=by
 constructor
 ·unfold DN
  rw [ZX l]
  ·rfl
  ·intro k hk
   have:=hq _ (eN hk)
   simp only [DM]
   rw [if_pos (by simp;omega),aU hk]
   simp only [aE]
   rw [aN (by simp;omega),aN (by simp;omega),aM (by omega) (by omega)];rfl
  ·simp [DM]
 ·unfold G3
  rw [ZX l]
  ·rfl
  ·intro k hk
   have:=hq _ (eN hk)
   simp only [GC]
   rw [if_pos (by simp;omega),aU hk]
   simp only [aE,IV]
   rw [aN (by simp;omega),aE,aN (by simp;omega),aM (by omega) (by omega)];rfl
  ·simp [GC]
theorem U9{t:List Queue}(hl:t.length<=1048576)(hq:∀q∈t,q.jQ.length<=1048576):G0 t=some (if OL t then lH t else aMC)/\HF t=some (if OL t then lH t else aMC):=by
 have hm:t.length<=maxLen:=by simp only [maxLen];omega
 unfold G0 HF
 rw [Z5 hm,Z6 hm (fun q h=>by have:=hq q h;simp only [maxLen];omega)]
 simp only [aE]
 by_cases h:OL t
 ·simp only [aZ h,dE,aQ,if_false,if_pos h,aHP.1,aHP.2,aE,(aKD hl hq).1,(aKD hl hq).2]
  rw [aN (by omega),aN (by omega),aN (by omega),aN (by omega)]
  exact⟨rfl,rfl⟩
 ·simp only [bM h,iU,if_true,if_neg h]
  exact⟨rfl,rfl⟩
end Go.Gv
end
noncomputable section
namespace Go.Gv
def Z9(s:aG):Prop:=U0 s.aA/\s.Cells.length<=1048576/\s.aX.length<=1048576/\s.dT.length<=1048576/\(∀q∈s.dT,q.jQ.length<=1048576)/\s.Log.length<=1048576
theorem Z9.fits{s:aG}(h:Z9 s):s.aA.Mem.aC.Bytes.length<=maxLen/\(dJ s.aA.Mem.aB).length<=1073741824/\s.aA.aD.b9.length<=maxLen/\s.aA.aO.length<=maxLen/\(bH s.aA.aO).length<=1073741824/\s.aA.l7.length<=maxLen:=by
 obtain⟨⟨⟨a1,a2,a3,a4,a5⟩,b1,b2,b3,b4⟩,_⟩:=h
 simp only [maxLen];omega
theorem aEN{s:aG}(h:Z9 s):o7 s=some (decide (DA s)):=aDX h.fits (by have:=h.2.2.2.1;simp only [maxLen];omega)
theorem aEO{s:aG}(h:Z9 s):oQ s=some (decide (DA s)):=
 have hM:∀{n:Nat},n<=1048576->n<=maxLen:=fun h=>by simp only [maxLen];omega
 aDY h.fits (hM h.2.2.2.1) (fun q hq=>hM (h.2.2.2.2.1 q hq)) (hM h.2.1) (hM h.2.2.1)
theorem rV{s:aG}(h:DA s)(hl:s.Log.length<=1000000):Z9 s:=by
 have ht:=h.2.2.2.1
 exact⟨h.1.small,by have:=h.2.1;omega,by have:=h.2.2.1;omega,by have:=ht.1;omega,fun q hq=>by have:=(ht.2 q hq).1;omega,by omega⟩
end Go.Gv
end
noncomputable section
namespace Go.Gv
def CN(m:Mem)(h n:Int):Mem×Int:=if hC m h then (⟨⟨GQ m.aC.Bytes ((eF (h % 32) (aW m.aC (h % 32))).toNat+4) n,m.aC.Class⟩,m.aB⟩,0) else (m,4)
theorem aYK{h:aC}{s:Int}(hcl:0<=aW h s):(eF s (aW h s)).toNat+8<=384/\8<=fB (aW h s)/\fB (aW h s)<=40:=by
 have hc2:0<=aW h s/\aW h s<=2:=by
  obtain⟨_,q,e⟩:=qH hcl
  rw [e];exact gK.1 (by omega)
 have hz:8<=fB (aW h s)/\fB (aW h s)<=40:=by rcases eX hc2 with e | e | e <;> rw [e] <;> decide
 obtain⟨p,i,p6,hi,es,ec,eo,ep⟩:=nG hcl
 refine⟨?_,hz⟩
 rw [eo]
 have hcl':0<=bQ h p/\bQ h p<=2:=by rw [<-ec];exact hc2
 generalize bQ h p=c at hi hcl'
 rcases eX hcl' with rfl | rfl | rfl
 ·rw [show(bS 0).toNat=4 from rfl] at hi;rw [show(aS 0).toNat=12 from rfl];omega
 ·rw [show(bS 1).toNat=2 from rfl] at hi;rw [show(aS 1).toNat=20 from rfl];omega
 ·rw [show(bS 2).toNat=1 from rfl] at hi;rw [show(aS 2).toNat=44 from rfl];omega
theorem aT1{m:Mem}(hm:nF m){h n:Int}(hn:0<=n/\n<=65535):E2 m h 0 4 n=some (CN m h n):=by
 obtain⟨hcnt,h3,h9,h1,h2,hsm,hcp,hlo,hsG,hsO⟩:=nF.facts hm
 have hs:=hm.1.1.1
 have hbl:m.aC.Bytes.length<=maxLen:=by rw [h1];simp [maxLen]
 have hall:(dJ m.aB).length<=1073741824:=by omega
 have hg:m.aB.Global.length<=maxLen:=by rw [h3];simp [maxLen]
 have ho:m.aB.Own.length<=maxLen:=by rw [h9];simp [maxLen]
 unfold E2 UA CN
 rw [aB1 hsm,OI hbl hall,aZ hm,b7]
 simp only [aE,dE,aQ,if_false,E1,show(decide ((1:Int)<=4/\(4:Int)<=7))=true from rfl,l8 hs hall hg ho]
 by_cases hv:hC m h
 ·have hh:=hv.1
  have hcl:=hJ hv.2.1
  have hgo:=HW hcl
  obtain⟨hroom,hz⟩:=aYK hcl
  simp only [aZ hv,dE,aQ,if_false,if_pos hv,cQ,if_pos hh,aE,i7 hs,rI,b7]
  rw [aM (x:=fB (aW m.aC (h % 32)) - 1) (by omega) (by omega),aZ (show(0:Int)<=0/\(0:Int)<=fB (aW m.aC (h % 32)) - 1 by omega),aM (x:=fB (aW m.aC (h % 32)) - 0) (by omega) (by omega),bM (show ¬fB (aW m.aC (h % 32)) - 0 < 4 by omega)]
  simp only [dE,aQ,if_false,E0,(start_eq hs hcl).1,aE]
  rw [aM (x:=eF (h % 32) (aW m.aC (h % 32))+4+0) (by omega) (by omega),Int.add_zero]
  have eo':eF (h % 32) (aW m.aC (h % 32))+4=(((eF (h % 32) (aW m.aC (h % 32))).toNat+4:Nat):Int):=by omega
  obtain⟨t,ht1,ht2⟩:=aB2 hn
  rw [eo']
  simp only [aE,aQ,if_false,bne_self_eq_false,ht1,ht2]
  rw [aBI (by omega) (by omega) ⟨hn.1,by omega⟩];rfl
 ·simp only [bM hv,iU,if_true,aE,show((4:Int) != 0)=true from rfl,if_neg hv]
def aBK(h:aC)(x:Int):Int:=if jN x/\0<=aW h (x % 32) then ld h.Bytes ((eF (x % 32) (aW h (x % 32))).toNat+4) 4 else 0
theorem aMD{s:aG}(hm:nF s.aA.Mem)(j:bE):pB s j=some (aBK s.aA.Mem.aC j.H):=by
 have hs:=hm.1.1.1
 have h1:=hs.1
 unfold pB NF aBK
 generalize j.H=h
 rw [eP,b7]
 simp only [aE,E3,show(decide ((1:Int)<=4/\(4:Int)<=7))=true from rfl,dE,aQ,if_false]
 by_cases hh:jN h
 ·simp only [aZ hh,dE,aQ,if_false,cQ,if_pos hh,aE,i7 hs]
  by_cases hcl:aW s.aA.Mem.aC (h % 32) < 0
  ·simp only [aZ hcl,if_true,nC,aE,if_neg (show ¬(jN h/\0<=aW s.aA.Mem.aC (h % 32)) by omega)]
  ·have hcl':0<=aW s.aA.Mem.aC (h % 32):=by omega
   have hgo:=HW hcl'
   obtain⟨hroom,hz⟩:=aYK hcl'
   simp only [bM hcl,aQ,if_false,rI,b7,aE,if_pos (show jN h/\0<=aW s.aA.Mem.aC (h % 32) from ⟨hh,hcl'⟩)]
   rw [aM (x:=fB (aW s.aA.Mem.aC (h % 32)) - 1) (by omega) (by omega),aZ (show(0:Int)<=0/\(0:Int)<=fB (aW s.aA.Mem.aC (h % 32)) - 1 by omega),aM (x:=fB (aW s.aA.Mem.aC (h % 32)) - 0) (by omega) (by omega),bM (show ¬fB (aW s.aA.Mem.aC (h % 32)) - 0 < 4 by omega)]
   simp only [dE,aQ,if_false,nC,cQ,if_pos hh,(start_eq hs hcl').1,aE]
   rw [aM (x:=eF (h % 32) (aW s.aA.Mem.aC (h % 32))+4+0) (by omega) (by omega),Int.add_zero]
   have eo':eF (h % 32) (aW s.aA.Mem.aC (h % 32))+4=(((eF (h % 32) (aW s.aA.Mem.aC (h % 32))).toNat+4:Nat):Int):=by omega
   rw [eo',show(4:Int)=((4:Nat):Int) from rfl,FG hs.2.2.1 (by omega) (by omega) (by omega)];rfl
 ·simp only [bM hh,iU,if_true,aE,if_neg (show ¬(jN h/\0<=aW s.aA.Mem.aC (h % 32)) from fun q=>hh q.1)]
def P3(z:List Int)(w h:Int):List Int:=if jN h then z.set w.toNat h else z
theorem aOJ{z:List Int}(hz:KN z){w:Int}(hw:0<=w/\w<=2)(h:Int):∃t,E4 z w h=some (P3 z w h,t):=by
 have h3:=hz.1
 unfold E4 uB P3
 rw [GN (by omega),AZ (by simp only [maxLen];omega),aZ hz,b7,aZ hw,eP]
 by_cases q:jN h
 ·simp only [aZ q,P2 hz hw,aE,dE,aQ,if_false,if_pos q];exact⟨_,rfl⟩
 ·simp only [bM q,aE,dE,iU,aQ,if_false,if_true,if_neg q];exact⟨_,rfl⟩
def aBL(z:List Int)(w:Int):List Int:=if rK z w=0 then z else z.set w.toNat 0
theorem aT2{z:List Int}(hz:KN z){w:Int}(hw:0<=w/\w<=2):∃t,LI z w=some (aBL z w,t):=by
 have h3:=hz.1
 unfold LI AR aBL
 rw [GN (by omega),AZ (by simp only [maxLen];omega),aZ hz,b7,aZ hw,P2 hz hw]
 by_cases q:rK z w=0
 ·have q':(rK z w == 0)=true:=by simpa using q
  simp only [q',aE,dE,aQ,if_false,if_true,if_pos q,P2 hz hw];exact⟨_,rfl⟩
 ·have q':(rK z w == 0)=false:=by simpa using q
  simp only [q',aE,dE,aQ,if_false,if_neg q,P2 hz hw];exact⟨_,rfl⟩
structure JR where
 b:aA
 c:List Int
 j:bE
 l:List Ev
def dR(j:bE)(pc code:Int):bE:={j with Pc:=pc,Code:=code}
def S3(kind a:Int):Sub:=⟨kind,a,0,0,0,0,0,0,0,false⟩
def cellAt(c:List Int)(k:Int):Int:=c.getD k.toNat 0
def rL(c:aD)(w:Int)(j:bE)(pc:Int):bE:=if (bX c w).On=true/\(bX c w).dB=false then dR j pc 0 else dR {j with dQ:=0} pc 6
noncomputable section
variable (s:aG) (w:Int) (j:bE)
def IP(h:Int):Ev:=⟨3,w,j.aI,j.Op.Cell,h,0,0⟩
def aBM:JR:=
 if j.Pc=0 then
  if (gJ s.aA w j.Sub).2.cZ then
   if (gJ s.aA w j.Sub).2.Code≠0 then ⟨(gJ s.aA w j.Sub).1,s.Cells,dR {j with Sub:=(gJ s.aA w j.Sub).2} 9 (gJ s.aA w j.Sub).2.Code,[]⟩
   else if jN (gJ s.aA w j.Sub).2.Out then ⟨(gJ s.aA w j.Sub).1,s.Cells,dR {j with Sub:=(gJ s.aA w j.Sub).2,H:=(gJ s.aA w j.Sub).2.Out} 1 0,[]⟩
   else ⟨(gJ s.aA w j.Sub).1,s.Cells,dR {j with Sub:=(gJ s.aA w j.Sub).2} 9 1,[]⟩
  else ⟨(gJ s.aA w j.Sub).1,s.Cells,{j with Sub:=(gJ s.aA w j.Sub).2},[]⟩
 else if j.Pc=1 then ⟨{s.aA with Mem:=(CN s.aA.Mem j.H j.Op.dQ).1},s.Cells,if (CN s.aA.Mem j.H j.Op.dQ).2=0 then dR j 2 0 else dR j 9 (CN s.aA.Mem j.H j.Op.dQ).2,[]⟩
 else if j.Pc=2 then ⟨s.aA,s.Cells.set j.Op.Cell.toNat j.H,if cellAt s.Cells j.Op.Cell=0 then dR {j with Old:=0} 9 0 else dR {j with Sub:=S3 2 (cellAt s.Cells j.Op.Cell),Old:=cellAt s.Cells j.Op.Cell} 3 0,[⟨2,w,j.aI,j.Op.Cell,j.H,j.Op.dQ,0⟩]⟩
 else if j.Pc=3 then ⟨(gJ s.aA w j.Sub).1,s.Cells,if (gJ s.aA w j.Sub).2.cZ then dR {j with Sub:=(gJ s.aA w j.Sub).2} 9 (gJ s.aA w j.Sub).2.Code else {j with Sub:=(gJ s.aA w j.Sub).2},[]⟩
 else ⟨s.aA,s.Cells,dR j 9 1,[]⟩
def aAA:JR:=
 if j.Pc=0 then ⟨(gJ s.aA w j.Sub).1,s.Cells,if (gJ s.aA w j.Sub).2.cZ then dR {j with Sub:=(gJ s.aA w j.Sub).2} 1 0 else {j with Sub:=(gJ s.aA w j.Sub).2},[]⟩
 else if j.Pc=1 then ⟨s.aA,s.Cells,if cellAt s.Cells j.Op.Cell=0 then dR {j with H:=0} 4 8 else dR {j with H:=cellAt s.Cells j.Op.Cell} 2 0,[IP w j (cellAt s.Cells j.Op.Cell)]⟩
 else if j.Pc=2 then ⟨s.aA,s.Cells,dR {j with dQ:=aBK s.aA.Mem.aC j.H} 3 0,[]⟩
 else if j.Pc=3 then ⟨s.aA,s.Cells,rL s.aA.aD w j 4,[]⟩
 else if j.Pc=4 then ⟨{s.aA with aD:=(L9 s.aA.aD w).1},s.Cells,dR j 9 j.Code,[]⟩
 else ⟨s.aA,s.Cells,dR j 9 1,[]⟩
def aHQ:JR:=
 if j.Pc=0 then if cellAt s.Cells j.Op.Cell=0 then ⟨s.aA,s.Cells,dR {j with H:=0} 4 8,[IP w j 0]⟩ else ⟨s.aA,s.Cells,dR {j with H:=cellAt s.Cells j.Op.Cell} 1 0,[]⟩
 else if j.Pc=1 then ⟨{s.aA with l7:=P3 s.aA.l7 w j.H},s.Cells,dR j 2 0,[]⟩
 else if j.Pc=2 then if cellAt s.Cells j.Op.Cell=j.H then ⟨s.aA,s.Cells,dR j 3 0,[IP w j j.H]⟩ else ⟨s.aA,s.Cells,dR j 0 0,[]⟩
 else if j.Pc=3 then ⟨s.aA,s.Cells,dR {j with dQ:=aBK s.aA.Mem.aC j.H} 4 0,[]⟩
 else if j.Pc=4 then ⟨{s.aA with l7:=aBL s.aA.l7 w},s.Cells,dR j 9 j.Code,[]⟩
 else ⟨s.aA,s.Cells,dR j 9 1,[]⟩
def VA:JR:=
 if j.Pc=0 then
  if (bX s.aA.aD w).On=false then ⟨s.aA,s.Cells,dR j 9 5,[]⟩
  else if (bX s.aA.aD w).dB=true then ⟨s.aA,s.Cells,dR j 9 6,[]⟩
  else ⟨s.aA,s.Cells,if cellAt s.Cells j.Op.Cell=0 then dR {j with H:=0} 9 8 else dR {j with H:=cellAt s.Cells j.Op.Cell} 1 0,[IP w j (cellAt s.Cells j.Op.Cell)]⟩
 else if j.Pc=1 then ⟨s.aA,s.Cells,dR {j with dQ:=aBK s.aA.Mem.aC j.H} 2 0,[]⟩
 else if j.Pc=2 then ⟨s.aA,s.Cells,rL s.aA.aD w j 9,[]⟩
 else ⟨s.aA,s.Cells,dR j 9 1,[]⟩
def RL:JR:=
 if j.Op.Kind=6 then
  if j.Pc=0 then ⟨{s.aA with aD:=(L9 s.aA.aD w).1},s.Cells,dR j 9 (if (L9 s.aA.aD w).2 then 0 else 5),[]⟩
  else ⟨s.aA,s.Cells,dR j 9 1,[]⟩
 else if j.Pc=0\/j.Pc=1/\j.Op.Kind≠5 then
  ⟨(gJ s.aA w j.Sub).1, s.Cells, if (gJ s.aA w j.Sub).2.cZ then
   if j.Op.Kind=5 then dR {j with Sub:=(gJ s.aA w j.Sub).2} 9 (gJ s.aA w j.Sub).2.Code
   else if j.Pc=0 then dR {j with Sub:=S3 4 0} 1 0
   else dR {j with Sub:=(gJ s.aA w j.Sub).2,dQ:=(gJ s.aA w j.Sub).2.Out} 9 (gJ s.aA w j.Sub).2.Code
   else {j with Sub:=(gJ s.aA w j.Sub).2},[]⟩
 else ⟨s.aA,s.Cells,dR j 9 1,[]⟩
def aT3:JR:=if j.Op.Kind=1 then aBM s w j else if j.Op.Kind=2 then aAA s w j else if j.Op.Kind=3 then aHQ s w j else if j.Op.Kind=7 then VA s w j else RL s w j
end
def mD(s:aG)(w:Int)(r:JR):aG:=⟨r.b,r.c,s.aX.set w.toNat r.j,s.dT,s.Log++r.l,s.aI⟩
def XD(t:List Queue)(w:Int):List dY:=(t.getD w.toNat ⟨[]⟩).jQ
def aL(s:aG)(w:Int):bE:=s.aX.getD w.toNat L6
def CP(c:aD)(w:Int)(o:dY)(ser:Int):bE:=
 if o.Kind=1 then ⟨true,o,ser,0,S3 1 o.iI,0,0,0,0⟩
 else if o.Kind=2\/o.Kind=5 then if (bX c w).On then ⟨true,o,ser,9,S3 5 0,0,0,0,1⟩ else ⟨true,o,ser,0,S3 5 0,0,0,0,0⟩
 else if o.Kind=4 then ⟨true,o,ser,0,S3 3 0,0,0,0,0⟩
 else ⟨true,o,ser,0,⟨0,0,0,0,0,0,0,0,0,false⟩,0,0,0,0⟩
def aHR(s:aG)(w:Int):aG:=match XD s.dT w with
 | []=>s
 | o :: r => if s.aI = 1000000 then s else
  ⟨s.aA,s.Cells,s.aX.set w.toNat (CP s.aA.aD w o (s.aI+1)),s.dT.set w.toNat ⟨r⟩,s.Log ++ [⟨1,w,s.aI+1,o.Cell,0,0,0⟩],s.aI+1⟩
def a2R(w:Int)(j:bE):Ev:=⟨4,w,j.aI,j.Op.Cell,j.H,j.dQ,j.Code⟩
def MA(s:aG)(w:Int):aG:=
 if (aL s w).eT=false then aHR s w
 else if (aL s w).Pc=9 then ⟨s.aA,s.Cells,s.aX.set w.toNat L6,s.dT,s.Log ++ [a2R w (aL s w)],s.aI⟩
 else mD s w (aT3 s w (aL s w))
noncomputable section
variable {s:aG} (hs:DA s) (hl:s.Log.length<=1000000000) {w:Int} (hw:0<=w/\w<=2) {j:bE} (hjo:lR j.Op/\cX j.H/\cX j.Old)
include hs
theorem rM(hw:0<=w/\w<=2):idx s.aX w=some (aL s w):=by
 have:=hs.2.2.1
 rw [fU hw.1 (by omega)]
 simp [aL,gR,eM (show w.toNat < s.aX.length by omega)]
theorem CQ{k:Int}(hk:0<=k/\k<=1):idx s.Cells k=some (cellAt s.Cells k):=by
 have:=hs.2.1
 rw [fU hk.1 (by omega)]
 simp [cellAt,gR,eM (show k.toNat < s.Cells.length by omega)]
include hw
theorem aOK(x:aG)(hx:x.aX=s.aX)(j:bE):cJ w x j=some {x with aX:=x.aX.set w.toNat j}:=by
 unfold cJ
 rw [hx,rM hs hw,aE]
include hl hjo
theorem a1N(hk:j.Op.Kind=1):((IH s w j).bind fun q=>cJ w q.1 q.2)=some (mD s w (aBM s w j)):=by
 have hn:∀(e:Ev) {α:Type} (k:Option α),need (s.Log.length + [e].length<=1073741824) k=k:=fun e _ k=>aN (by simp;omega) k
 have hcell:=CQ hs hjo.1.2.2.1
 have hval:0<=j.Op.dQ/\j.Op.dQ<=65535:=by have:=hjo.1.2.2.2;rw [if_pos hk] at this;exact this.2
 have hj:=fun x hx j=>aOK hs hw x hx j
 unfold IH aBM
 simp only [aMB hs.1 hw,aT1 hs.1.1.1 hval,hcell,aE,bD,iH,hn]
 by_cases p0:j.Pc=0
 ·have p0':(j.Pc == 0)=true:=by simpa using p0
  simp only [p0',if_true,if_pos p0]
  cases hd:(gJ s.aA w j.Sub).2.cZ with
  | false=>simp only [iU,if_true,aQ,if_false,aE];refine(hj _ ?_ _).trans ?_;rfl;simp [mD]
  | true =>
   simp only [dE,aQ,if_false,if_true]
   by_cases c0:(gJ s.aA w j.Sub).2.Code=0
   ·have c0':((gJ s.aA w j.Sub).2.Code != 0)=false:=by simpa using c0
    simp only [c0',aQ,if_false,if_neg (show ¬(gJ s.aA w j.Sub).2.Code≠0 from fun h=>h c0),eP,aE]
    by_cases o0:jN (gJ s.aA w j.Sub).2.Out
    ·simp only [aZ o0,dE,aQ,if_false,if_pos o0,aE];refine(hj _ ?_ _).trans ?_;rfl;simp [mD,dR]
    ·simp only [bM o0,iU,if_true,if_neg o0,aE];refine(hj _ ?_ _).trans ?_;rfl;simp [mD,dR]
   ·have c0':((gJ s.aA w j.Sub).2.Code != 0)=true:=by simpa using c0
    simp only [c0',if_true,if_pos (show(gJ s.aA w j.Sub).2.Code≠0 from c0),aE];refine(hj _ ?_ _).trans ?_;rfl;simp [mD,dR]
 have p0':(j.Pc == 0)=false:=by simpa using p0
 simp only [p0',aQ,if_false,if_neg p0]
 by_cases p1:j.Pc=1
 ·have p1':(j.Pc == 1)=true:=by simpa using p1
  simp only [p1',if_true,if_pos p1]
  by_cases c0:(CN s.aA.Mem j.H j.Op.dQ).2=0
  ·have c0':((CN s.aA.Mem j.H j.Op.dQ).2 != 0)=false:=by simpa using c0
   simp only [c0',aQ,if_false,if_pos c0,aE];refine(hj _ ?_ _).trans ?_;rfl;simp [mD,dR]
  ·have c0':((CN s.aA.Mem j.H j.Op.dQ).2 != 0)=true:=by simpa using c0
   simp only [c0',if_true,if_neg c0,aE];refine(hj _ ?_ _).trans ?_;rfl;simp [mD,dR]
 have p1':(j.Pc == 1)=false:=by simpa using p1
 simp only [p1',aQ,if_false,if_neg p1]
 by_cases p2:j.Pc=2
 ·have p2':(j.Pc == 2)=true:=by simpa using p2
  simp only [p2',if_true,if_pos p2]
  by_cases c0:cellAt s.Cells j.Op.Cell=0
  ·have c0':(cellAt s.Cells j.Op.Cell == 0)=true:=by simpa using c0
   simp only [c0',if_true,if_pos c0,aE];refine(hj _ ?_ _).trans ?_;rfl;simp [mD,dR,c0]
  ·have c0':(cellAt s.Cells j.Op.Cell == 0)=false:=by simpa using c0
   simp only [c0',aQ,if_false,if_neg c0,aE];refine(hj _ ?_ _).trans ?_;rfl;simp [mD,dR,S3]
 have p2':(j.Pc == 2)=false:=by simpa using p2
 simp only [p2',aQ,if_false,if_neg p2]
 by_cases p3:j.Pc=3
 ·have p3':(j.Pc == 3)=true:=by simpa using p3
  simp only [p3',if_true,if_pos p3]
  cases hd:(gJ s.aA w j.Sub).2.cZ with
  | false=>simp only [iU,if_true,aQ,if_false,aE];refine(hj _ ?_ _).trans ?_;rfl;simp [mD]
  | true=>simp only [dE,aQ,if_false,if_true,aE];refine(hj _ ?_ _).trans ?_;rfl;simp [mD,dR]
 have p3':(j.Pc == 3)=false:=by simpa using p3
 simp only [p3',aQ,if_false,if_neg p3,aE];refine(hj _ ?_ _).trans ?_;rfl;simp [mD,dR]
theorem a1O:((II s w j).bind fun q=>cJ w q.1 q.2)=some (mD s w (aAA s w j)):=by
 have hn:∀(e:Ev) {α:Type} (k:Option α),need (s.Log.length + [e].length<=1073741824) k=k:=fun e _ k=>aN (by simp;omega) k
 have hcell:=CQ hs hjo.1.2.2.1
 have hj:=fun x hx j=>aOK hs hw x hx j
 unfold II aAA
 simp only [aMB hs.1 hw,hcell,aE,bD,jX,hn,aMD hs.1.1.1,aKB hs.1.1.2.1 hw,uM,yJ hs.1.1.2.1 hw]
 by_cases p0:j.Pc=0
 ·have p0':(j.Pc == 0)=true:=by simpa using p0
  simp only [p0',if_true,if_pos p0]
  cases hd:(gJ s.aA w j.Sub).2.cZ with
  | false=>simp only [iU,if_true,aQ,if_false,aE];refine(hj _ ?_ _).trans ?_;rfl;simp [mD]
  | true=>simp only [dE,aQ,if_false,if_true,aE];refine(hj _ ?_ _).trans ?_;rfl;simp [mD,dR]
 have p0':(j.Pc == 0)=false:=by simpa using p0
 simp only [p0',aQ,if_false,if_neg p0]
 by_cases p1:j.Pc=1
 ·have p1':(j.Pc == 1)=true:=by simpa using p1
  simp only [p1',if_true,if_pos p1]
  by_cases c0:cellAt s.Cells j.Op.Cell=0
  ·have c0':(cellAt s.Cells j.Op.Cell == 0)=true:=by simpa using c0
   simp only [c0',if_true,if_pos c0,aE];refine(hj _ ?_ _).trans ?_;rfl;simp [mD,dR,IP,c0]
  ·have c0':(cellAt s.Cells j.Op.Cell == 0)=false:=by simpa using c0
   simp only [c0',aQ,if_false,if_neg c0,aE];refine(hj _ ?_ _).trans ?_;rfl;simp [mD,dR,IP]
 have p1':(j.Pc == 1)=false:=by simpa using p1
 simp only [p1',aQ,if_false,if_neg p1]
 by_cases p2:j.Pc=2
 ·have p2':(j.Pc == 2)=true:=by simpa using p2
  simp only [p2',if_true,if_pos p2,aE];refine(hj _ ?_ _).trans ?_;rfl;simp [mD,dR]
 have p2':(j.Pc == 2)=false:=by simpa using p2
 simp only [p2',aQ,if_false,if_neg p2]
 by_cases p3:j.Pc=3
 ·have p3':(j.Pc == 3)=true:=by simpa using p3
  simp only [p3',if_true,if_pos p3,aE,m3,bD,rL]
  cases h1:(bX s.aA.aD w).On <;> cases h2:(bX s.aA.aD w).dB <;> simp only [iU,dE,aQ,if_false,if_true,aE,and_false,and_true,false_and,true_and,reduceCtorEq] <;> (refine(hj _ ?_ _).trans ?_;rfl;simp [mD,dR])
 have p3':(j.Pc == 3)=false:=by simpa using p3
 simp only [p3',aQ,if_false,if_neg p3]
 by_cases p4:j.Pc=4
 ·have p4':(j.Pc == 4)=true:=by simpa using p4
  simp only [p4',if_true,if_pos p4,aE];refine(hj _ ?_ _).trans ?_;rfl;simp [mD,dR]
 have p4':(j.Pc == 4)=false:=by simpa using p4
 simp only [p4',aQ,if_false,if_neg p4,aE];refine(hj _ ?_ _).trans ?_;rfl;simp [mD,dR]
theorem a1P:((IJ s w j).bind fun q=>cJ w q.1 q.2)=some (mD s w (aHQ s w j)):=by
 have hn:∀(e:Ev) {α:Type} (k:Option α),need (s.Log.length + [e].length<=1073741824) k=k:=fun e _ k=>aN (by simp;omega) k
 have hcell:=CQ hs hjo.1.2.2.1
 have hj:=fun x hx j=>aOK hs hw x hx j
 obtain⟨t1,e1⟩:=aOJ hs.1.1.2.2.2 hw j.H
 obtain⟨t2,e2⟩:=aT2 hs.1.1.2.2.2 hw
 unfold IJ aHQ
 simp only [hcell,aE,bD,jX,hn,aMD hs.1.1.1,e1,e2]
 by_cases p0:j.Pc=0
 ·have p0':(j.Pc == 0)=true:=by simpa using p0
  simp only [p0',if_true,if_pos p0]
  by_cases c0:cellAt s.Cells j.Op.Cell=0
  ·have c0':(cellAt s.Cells j.Op.Cell == 0)=true:=by simpa using c0
   simp only [c0',if_true,if_pos c0,aE];refine(hj _ ?_ _).trans ?_;rfl;simp [mD,dR,IP,c0]
  ·have c0':(cellAt s.Cells j.Op.Cell == 0)=false:=by simpa using c0
   simp only [c0',aQ,if_false,if_neg c0,aE];refine(hj _ ?_ _).trans ?_;rfl;simp [mD,dR]
 have p0':(j.Pc == 0)=false:=by simpa using p0
 simp only [p0',aQ,if_false,if_neg p0]
 by_cases p1:j.Pc=1
 ·have p1':(j.Pc == 1)=true:=by simpa using p1
  simp only [p1',if_true,if_pos p1,aE];refine(hj _ ?_ _).trans ?_;rfl;simp [mD,dR]
 have p1':(j.Pc == 1)=false:=by simpa using p1
 simp only [p1',aQ,if_false,if_neg p1]
 by_cases p2:j.Pc=2
 ·have p2':(j.Pc == 2)=true:=by simpa using p2
  simp only [p2',if_true,if_pos p2]
  by_cases c0:cellAt s.Cells j.Op.Cell=j.H
  ·have c0':(cellAt s.Cells j.Op.Cell != j.H)=false:=by simpa using c0
   simp only [c0',aQ,if_false,if_pos c0,aE];refine(hj _ ?_ _).trans ?_;rfl;simp [mD,dR,IP]
  ·have c0':(cellAt s.Cells j.Op.Cell != j.H)=true:=by simpa using c0
   simp only [c0',if_true,if_neg c0,aE];refine(hj _ ?_ _).trans ?_;rfl;simp [mD,dR]
 have p2':(j.Pc == 2)=false:=by simpa using p2
 simp only [p2',aQ,if_false,if_neg p2]
 by_cases p3:j.Pc=3
 ·have p3':(j.Pc == 3)=true:=by simpa using p3
  simp only [p3',if_true,if_pos p3,aE];refine(hj _ ?_ _).trans ?_;rfl;simp [mD,dR]
 have p3':(j.Pc == 3)=false:=by simpa using p3
 simp only [p3',aQ,if_false,if_neg p3]
 by_cases p4:j.Pc=4
 ·have p4':(j.Pc == 4)=true:=by simpa using p4
  simp only [p4',if_true,if_pos p4,aE];refine(hj _ ?_ _).trans ?_;rfl;simp [mD,dR]
 have p4':(j.Pc == 4)=false:=by simpa using p4
 simp only [p4',aQ,if_false,if_neg p4,aE];refine(hj _ ?_ _).trans ?_;rfl;simp [mD,dR]
theorem aYL:((E5 s w j).bind fun q=>cJ w q.1 q.2)=some (mD s w (VA s w j)):=by
 have hn:∀(e:Ev) {α:Type} (k:Option α),need (s.Log.length + [e].length<=1073741824) k=k:=fun e _ k=>aN (by simp;omega) k
 have hcell:=CQ hs hjo.1.2.2.1
 have hj:=fun x hx j=>aOK hs hw x hx j
 unfold E5 VA
 simp only [hcell,aE,bD,jX,hn,aMD hs.1.1.1,uM,yJ hs.1.1.2.1 hw]
 by_cases p0:j.Pc=0
 ·have p0':(j.Pc == 0)=true:=by simpa using p0
  simp only [p0',if_true,if_pos p0]
  cases h1:(bX s.aA.aD w).On with
  | false=>simp only [iU,if_true,aE];refine(hj _ ?_ _).trans ?_;rfl;simp [mD,dR]
  | true =>
   cases h2:(bX s.aA.aD w).dB with
   | true=>simp only [dE,aQ,if_false,if_true,aE,reduceCtorEq];refine(hj _ ?_ _).trans ?_;rfl;simp [mD,dR]
   | false =>
    simp only [dE,aQ,if_false,reduceCtorEq]
    by_cases c0:cellAt s.Cells j.Op.Cell=0
    ·have c0':(cellAt s.Cells j.Op.Cell == 0)=true:=by simpa using c0
     simp only [c0',if_true,if_pos c0,aE];refine(hj _ ?_ _).trans ?_;rfl;simp [mD,dR,IP,c0]
    ·have c0':(cellAt s.Cells j.Op.Cell == 0)=false:=by simpa using c0
     simp only [c0',aQ,if_false,if_neg c0,aE];refine(hj _ ?_ _).trans ?_;rfl;simp [mD,dR,IP]
 have p0':(j.Pc == 0)=false:=by simpa using p0
 simp only [p0',aQ,if_false,if_neg p0]
 by_cases p1:j.Pc=1
 ·have p1':(j.Pc == 1)=true:=by simpa using p1
  simp only [p1',if_true,if_pos p1,aE];refine(hj _ ?_ _).trans ?_;rfl;simp [mD,dR]
 have p1':(j.Pc == 1)=false:=by simpa using p1
 simp only [p1',aQ,if_false,if_neg p1]
 by_cases p2:j.Pc=2
 ·have p2':(j.Pc == 2)=true:=by simpa using p2
  simp only [p2',if_true,if_pos p2,aE,m3,bD,rL]
  cases h1:(bX s.aA.aD w).On <;> cases h2:(bX s.aA.aD w).dB <;> simp only [iU,dE,aQ,if_false,if_true,aE,and_false,and_true,false_and,true_and,reduceCtorEq] <;> (refine(hj _ ?_ _).trans ?_;rfl;simp [mD,dR])
 have p2':(j.Pc == 2)=false:=by simpa using p2
 simp only [p2',aQ,if_false,if_neg p2,aE];refine(hj _ ?_ _).trans ?_;rfl;simp [mD,dR]
theorem aT4:((AS s w j).bind fun q=>cJ w q.1 q.2)=some (mD s w (RL s w j)):=by
 have hj:=fun x hx j=>aOK hs hw x hx j
 unfold AS RL yF
 simp only [aKB hs.1.1.2.1 hw,aE,bD]
 have step:j.Op.Kind≠6->(j.Pc=0\/j.Pc=1/\j.Op.Kind≠5)->((iO s w j false).bind fun q=>cJ w q.1 q.2)=some (mD s w ⟨(gJ s.aA w j.Sub).1,s.Cells,if (gJ s.aA w j.Sub).2.cZ then if j.Op.Kind=5 then dR {j with Sub:=(gJ s.aA w j.Sub).2} 9 (gJ s.aA w j.Sub).2.Code else if j.Pc=0 then dR {j with Sub:=S3 4 0} 1 0 else dR {j with Sub:=(gJ s.aA w j.Sub).2,dQ:=(gJ s.aA w j.Sub).2.Out} 9 (gJ s.aA w j.Sub).2.Code else {j with Sub:=(gJ s.aA w j.Sub).2},[]⟩):=fun k6 kp=>by
  unfold iO
  simp only [aQ,if_false,aMB hs.1 hw,aE,bD,iH]
  cases hd:(gJ s.aA w j.Sub).2.cZ with
  | false=>simp only [iU,if_true,aQ,if_false,aE];refine(hj _ ?_ _).trans ?_;rfl;simp [mD]
  | true =>
   simp only [dE,aQ,if_false,if_true]
   by_cases k5:j.Op.Kind=5
   ·have k5':(j.Op.Kind == 5)=true:=by simpa using k5
    simp only [k5',if_true,if_pos k5,aE];refine(hj _ ?_ _).trans ?_;rfl;simp [mD,dR]
   ·have k5':(j.Op.Kind == 5)=false:=by simpa using k5
    simp only [k5',aQ,if_false,if_neg k5]
    by_cases p0:j.Pc=0
    ·have p0':(j.Pc == 0)=true:=by simpa using p0
     simp only [p0',if_true,if_pos p0,aE];refine(hj _ ?_ _).trans ?_;rfl;simp [mD,dR,S3]
    ·have p0':(j.Pc == 0)=false:=by simpa using p0
     simp only [p0',aQ,if_false,if_neg p0,aE];refine(hj _ ?_ _).trans ?_;rfl;simp [mD,dR]
 have bad:((iO s w j true).bind fun q=>cJ w q.1 q.2)=some (mD s w ⟨s.aA,s.Cells,dR j 9 1,[]⟩):=by
  unfold iO
  simp only [if_true,bD,aE];refine(hj _ ?_ _).trans ?_;rfl;simp [mD,dR]
 by_cases k6:j.Op.Kind=6
 ·have k6':(j.Op.Kind == 6)=true:=by simpa using k6
  simp only [k6',if_true,if_pos k6]
  by_cases p0:j.Pc=0
  ·have p0':(j.Pc == 0)=true:=by simpa using p0
   simp only [p0',if_true,if_pos p0]
   cases h1:(L9 s.aA.aD w).2 with
   | true=>simp only [dE,aQ,if_false,if_true,aE];refine(hj _ ?_ _).trans ?_;rfl;simp [mD,dR]
   | false=>simp only [iU,aQ,if_false,if_true,aE];refine(hj _ ?_ _).trans ?_;rfl;simp [mD,dR]
  ·have p0':(j.Pc == 0)=false:=by simpa using p0
   simp only [p0',aQ,if_false,if_neg p0]
   exact bad
 have k6':(j.Op.Kind == 6)=false:=by simpa using k6
 simp only [k6',aQ,if_false,if_neg k6]
 by_cases p0:j.Pc=0
 ·have p0':(j.Pc != 0)=false:=by simpa using p0
  have hc:j.Pc=0\/j.Pc=1/\j.Op.Kind≠5:=.inl p0
  simp only [p0',aQ,if_false,if_pos hc]
  exact step k6 hc
 have p0':(j.Pc != 0)=true:=by simpa using p0
 simp only [p0',if_true]
 by_cases p1:j.Pc=1
 ·have p1':(j.Pc != 1)=false:=by simpa using p1
  simp only [p1',aQ,if_false]
  by_cases k5:j.Op.Kind=5
  ·have k5':(j.Op.Kind == 5)=true:=by simpa using k5
   simp only [k5',if_neg (show ¬(j.Pc=0\/j.Pc=1/\j.Op.Kind≠5) from fun h=>h.elim p0 fun h=>h.2 k5)]
   exact bad
  ·have k5':(j.Op.Kind == 5)=false:=by simpa using k5
   have hc:j.Pc=0\/j.Pc=1/\j.Op.Kind≠5:=.inr ⟨p1,k5⟩
   simp only [k5',if_pos hc]
   exact step k6 hc
 ·have p1':(j.Pc != 1)=true:=by simpa using p1
  simp only [p1',if_true,if_neg (show ¬(j.Pc=0\/j.Pc=1/\j.Op.Kind≠5) from fun h=>h.elim p0 fun h=>p1 h.1)]
  exact bad
omit hjo
theorem aT5:AM s w=some (aHR s w):=by
 have ht:=hs.2.2.2.1
 have hser:=hs.2.2.2.2.1
 have hn:∀(e:Ev) {α:Type} (k:Option α),need (s.Log.length + [e].length<=1073741824) k=k:=fun e _ k=>aN (by simp;omega) k
 have hq:idx s.dT w=some ⟨XD s.dT w⟩:=by
  have:=ht.1
  rw [fU hw.1 (by omega)]
  simp [XD,gR,eM (show w.toNat < s.dT.length by omega)]
 have ew:aY (s.aI+1)=s.aI+1:=aM (by omega) (by omega)
 have h12:(XD s.dT w).length<=12:=by
  have h3:=ht.1
  rw [fU hw.1 (by omega)] at hq
  injection hq with hq
  have:=(ht.2 _ (eN (show w.toNat < s.dT.length by omega))).1
  rw [hq] at this;exact this
 unfold AM aHR
 rw [hq,aE]
 simp only [xX,hq,aE]
 cases ho:XD s.dT w with
 | nil=>simp
 | cons o r =>
  rw [ho] at h12
  simp only [yL] at h12
  have l0:(((o :: r).length:Int) == 0)=false:=by simp;omega
  simp only [l0,aQ,if_false]
  by_cases s0:s.aI=1000000
  ·have s0':(s.aI == 1000000)=true:=by simpa using s0
   simp only [s0',if_true,if_pos s0]
  have s0':(s.aI == 1000000)=false:=by simpa using s0
  have hx:idx (o :: r) 0=some o:=rfl
  have etk:((o :: r).take (o :: r).length).drop (1:Int).toNat=r:=by rw [OU];rfl
  simp only [s0',aQ,if_false,if_neg s0,hx,aE,iH,ew]
  rw [aN (by simp only [yL];omega)]
  have fin:∀jb:bE,fJ s w ⟨o :: r⟩ o jb=some ⟨s.aA,s.Cells,s.aX.set w.toNat jb,s.dT.set w.toNat ⟨r⟩,s.Log ++ [⟨1,w,s.aI+1,o.Cell,0,0,0⟩],s.aI+1⟩:=fun jb=>by
   simp only [fJ,rM hs hw,aE,hn,etk,ew]
  unfold CP
  by_cases k1:o.Kind=1
  ·have k1':(o.Kind == 1)=true:=by simpa using k1
   simp only [k1',if_true,if_pos k1,fin];rfl
  have k1':(o.Kind == 1)=false:=by simpa using k1
  simp only [k1',aQ,if_false,if_neg k1]
  have pin:∀z,z=true->jH s w ⟨o :: r⟩ o z=some ⟨s.aA,s.Cells,s.aX.set w.toNat (if (bX s.aA.aD w).On then ⟨true,o,s.aI+1,9,S3 5 0,0,0,0,1⟩ else ⟨true,o,s.aI+1,0,S3 5 0,0,0,0,0⟩),s.dT.set w.toNat ⟨r⟩,s.Log ++ [⟨1,w,s.aI+1,o.Cell,0,0,0⟩],s.aI+1⟩:=fun z hz=>by
   subst hz
   simp only [jH,if_true,iH,yJ hs.1.1.2.1 hw,aE,ew,fin]
   cases (bX s.aA.aD w).On <;> rfl
  by_cases k2:o.Kind=2
  ·have k2':(o.Kind == 2)=true:=by simpa using k2
   simp only [k2',if_true,if_pos (show o.Kind=2\/o.Kind=5 from .inl k2)]
   exact pin true rfl
  have k2':(o.Kind == 2)=false:=by simpa using k2
  simp only [k2',aQ,if_false]
  by_cases k5:o.Kind=5
  ·have k5':(o.Kind == 5)=true:=by simpa using k5
   simp only [k5',if_pos (show o.Kind=2\/o.Kind=5 from .inr k5)]
   exact pin true rfl
  have k5':(o.Kind == 5)=false:=by simpa using k5
  simp only [k5',jH,aQ,if_false,if_neg (show ¬(o.Kind=2\/o.Kind=5) from fun h=>h.elim k2 k5),iH,aE,ew,fin]
  by_cases k4:o.Kind=4
  ·have k4':(o.Kind == 4)=true:=by simpa using k4
   simp only [k4',if_true,if_pos k4];rfl
  ·have k4':(o.Kind == 4)=false:=by simpa using k4
   simp only [k4',aQ,if_false,if_neg k4]
theorem aYM:Q2 s w=some (MA s w):=by
 have hn:∀(e:Ev) {α:Type} (k:Option α),need (s.Log.length + [e].length<=1073741824) k=k:=fun e _ k=>aN (by simp;omega) k
 have hjk:JOk (aL s w):=by
  have h:=rM hs hw
  have h3:=hs.2.2.1
  rw [fU hw.1 (by omega)] at h
  injection h with h
  rw [<-h];exact hs.2.2.2.2.2.2 _ (eN _)
 unfold Q2 MA
 rw [rM hs hw,aE]
 cases hb:(aL s w).eT with
 | false=>simp only [iU,if_true,aT5 hs hl hw,aE]
 | true =>
  have hjo:=(A0 hb).1 hjk
  simp only [dE,aQ,if_false,reduceCtorEq]
  by_cases p9:(aL s w).Pc=9
  ·have p9':((aL s w).Pc == 9)=true:=by simpa using p9
   simp only [p9',if_true,if_pos p9,hn];rfl
  have p9':((aL s w).Pc == 9)=false:=by simpa using p9
  simp only [p9',aQ,if_false,if_neg p9]
  unfold aT3
  by_cases k1:(aL s w).Op.Kind=1
  ·have k1':((aL s w).Op.Kind == 1)=true:=by simpa using k1
   simp only [k1',if_true,if_pos k1];exact a1N hs hl hw hjo k1
  have k1':((aL s w).Op.Kind == 1)=false:=by simpa using k1
  simp only [k1',aQ,if_false,if_neg k1]
  by_cases k2:(aL s w).Op.Kind=2
  ·have k2':((aL s w).Op.Kind == 2)=true:=by simpa using k2
   simp only [k2',if_true,if_pos k2];exact a1O hs hl hw hjo
  have k2':((aL s w).Op.Kind == 2)=false:=by simpa using k2
  simp only [k2',aQ,if_false,if_neg k2]
  by_cases k3:(aL s w).Op.Kind=3
  ·have k3':((aL s w).Op.Kind == 3)=true:=by simpa using k3
   simp only [k3',if_true,if_pos k3];exact a1P hs hl hw hjo
  have k3':((aL s w).Op.Kind == 3)=false:=by simpa using k3
  simp only [k3',aQ,if_false,if_neg k3]
  by_cases k7:(aL s w).Op.Kind=7
  ·have k7':((aL s w).Op.Kind == 7)=true:=by simpa using k7
   simp only [k7',if_true,if_pos k7];exact aYL hs hl hw hjo
  have k7':((aL s w).Op.Kind == 7)=false:=by simpa using k7
  simp only [k7',aQ,if_false,if_neg k7];exact aT4 hs hl hw hjo
theorem aYN:tG s w=some (MA s w)/\DA (MA s w)/\(MA s w).Log.length<=s.Log.length+1:=by
 obtain⟨x,e1,e2,h1,h2⟩:=aMA hs hl hw
 rw [aYM hs hl hw] at e1
 injection e1 with e1
 rw [e1];exact⟨e2,h1,h2⟩
end
end Go.Gv
end
noncomputable section
namespace Go.Gv
def j4(b:aA)(s:Int):Int:=if dU b.Mem s=3 then (if CK b.aO s then 3 else 4) else dU b.Mem s
theorem X8(m:Mem)(s:Int):0<=dU m s/\dU m s<=3:=by unfold dU;split <;> (try split) <;> (try split) <;> omega
theorem aHS(b:aA)(s:Int):0<=j4 b s/\j4 b s<=4:=by
 have:=X8 b.Mem s
 unfold j4;split <;> (try split) <;> omega
def kH(b:aA):Nat->List Int
 | 0=>List.replicate 5 0
 | k+1=>(kH b k).set (j4 b k).toNat ((kH b k).getD (j4 b k).toNat 0+1)
theorem X9(b:aA)(k:Nat):(kH b k).length=5:=by induction k with | zero=>rfl | succ k ih=>simp [kH,ih]
theorem aHT(b:aA)(k:Nat):∀j,0<=(kH b k).getD j 0/\(kH b k).getD j 0<=k:=by
 induction k with
 | zero=>intro j;simp only [kH,gR,aMU];split <;> simp
 | succ k ih =>
  intro j
  have h1:=ih j
  have h2:=ih (j4 b k).toNat
  simp only [kH,gR,RO] at h1 h2 ⊢
  split
  ·split
   ·simp only [Option.getD_some];omega
   ·simp;omega
  ·omega
noncomputable section
variable {b:aA} (hb:mC b)
include hb
theorem aOL(s:Int):HP b s=some (j4 b s):=by
 have hm:=hb.1.1
 obtain⟨h1,h2,h3,_⟩:=nF.facts hm
 unfold HP j4
 rw [SR hm.1.1.1 (by omega) (by simp only [maxLen];omega) (by simp only [maxLen];omega),aE,B4 hb.1.2.2.1]
 by_cases q:dU b.Mem s=3
 ·by_cases r:CK b.aO s <;> simp [q,r,rB]
 ·simp [q,rB]
theorem aB4(s:Int):LB b s=some (j4 b s):=by
 have hm:=hb.1.1
 obtain⟨h1,h2,h3,_⟩:=nF.facts hm
 unfold LB j4
 rw [SS hm.1.1.1 (by omega) (by simp only [maxLen];omega) (by simp only [maxLen];omega),aE,I7 hb.1.2.2.1]
 by_cases q:dU b.Mem s=3
 ·by_cases r:CK b.aO s <;> simp [q,r]
 ·simp [q]
theorem aKE(k:Nat):idx (kH b k) (j4 b k)=some ((kH b k).getD (j4 b k).toNat 0):=by
 have:=aHS b k
 have hl:=X9 b k
 rw [fU this.1 (by omega)]
 simp [gR,eM (show(j4 b k).toNat < (kH b k).length by omega)]
theorem mC.fits:b.Mem.aC.Bytes.length<=maxLen/\(dJ b.Mem.aB).length<=1073741824/\b.aD.b9.length<=maxLen/\b.aO.length<=maxLen/\(bH b.aO).length<=1073741824/\b.l7.length<=maxLen:=by
 obtain⟨h1,h2,h3,h4,_⟩:=nF.facts hb.1.1
 have a:=hb.1.2.1.2.1;have c:=hb.1.2.2.1.1;have d:=hb.1.2.2.1.2.1;have e:=hb.1.2.2.2.1
 simp only [maxLen];omega
theorem aQK:QV b=some (kH b 24):=by
 unfold QV
 rw [aN (by omega),U1 (mC.fits hb),aZ hb,aE]
 have:=fV (f:=AJ b true) 24 (fun k=>(kH b k,(k:Int))) (kH b 24) (fun k hk=>by
  have hr:=aHT b k (j4 b k).toNat
  simp only [AJ,AI]
  rw [if_pos (by simp;omega),if_pos trivial,aOL hb,aE,aKE hb,aE,aM (x:=(k:Int)+1) (by omega) (by omega),aM (by omega) (by omega)];rfl) (by simp [AJ,AI])
 rw [show(List.replicate ((5:Int).toNat) (0:Int))=kH b 0 from rfl]
 have this':loop (AJ b true) (kH b 0,0)=_:=this
 rw [this'];rfl
theorem aQL:QW b=some (kH b 24):=by
 unfold QW
 rw [aN (by omega),LY (mC.fits hb),aZ hb,aE]
 have:=fV (f:=AK b) 24 (fun k=>(kH b k,(k:Int))) (kH b 24) (fun k hk=>by
  have hr:=aHT b k (j4 b k).toNat
  simp only [AK]
  rw [if_pos (by simp;omega),aB4 hb,aE,aKE hb,aE,aM (x:=(k:Int)+1) (by omega) (by omega),aM (by omega) (by omega)];rfl) (by simp [AK])
 rw [show(List.replicate ((5:Int).toNat) (0:Int))=kH b 0 from rfl]
 have this':loop (AK b) (kH b 0,0)=_:=this
 simp only [dE,aQ,if_false,this'];rfl
end
end Go.Gv
end
noncomputable section
namespace Go.Gv
def A1{α:Type}(o:Option α)(Q:α->Prop):Prop:=∃x,o=some x/\Q x
abbrev a2S{σ ρ:Type}(I:σ->Prop)(Q:ρ->Prop):Step σ ρ->Prop
 | .next s=>I s
 | .stop r=>Q r
namespace A1
variable {α β σ ρ:Type} {Q:α->Prop}
theorem ret{x:α}(h:Q x):A1 (some x) Q:=⟨x,rfl,h⟩
theorem bind{P:β->Prop}{o:Option β}{f:β->Option α}(h:A1 o P)(hf:∀x,P x->A1 (f x) Q):A1 (o.bind f) Q:=by
 obtain⟨x,e,hx⟩:=h
 rw [e];exact hf x hx
theorem need{p:Prop}[Decidable p]{k:Option α}(h:p)(hk:A1 k Q):A1 (Gv.need p k) Q:=by rw [aN h];exact hk
theorem ite{c:Prop}[Decidable c]{a b:Option α}(h1:c->A1 a Q)(h2:¬c->A1 b Q):A1 (if c then a else b) Q:=by
 by_cases h:c
 ·rw [if_pos h];exact h1 h
 ·rw [if_neg h];exact h2 h
theorem mono{P:α->Prop}{o:Option α}(h:A1 o P)(hf:∀x,P x->Q x):A1 o Q:=by obtain⟨x,e,hx⟩:=h;exact⟨x,e,hf x hx⟩
theorem idx{l:List β}{i:Int}(h:0<=i/\i < l.length):A1 (Gv.idx l i) (fun x=>x∈l):=⟨_,fU h.1 h.2,eN _⟩
theorem loop{Q:ρ->Prop}{f:σ->Option (Step σ ρ)}{s:σ}(μ:σ->Nat)(Inv:σ->Prop)(h0:Inv s)(hb:∀s,Inv s->A1 (f s) (a2S (fun s'=>Inv s'/\μ s' < μ s) (fun r=>Q r))):A1 (Gv.loop f s) Q:=by
 have key:∀n s,μ s < n->Inv s->A1 (Gv.loop f s) Q:=by
  intro n
  induction n with
  | zero=>intro s h;omega
  | succ n ih =>
   intro s h hs
   obtain⟨q,e,hq⟩:=hb s hs
   cases q with
   | next s'=>rw [bP e];exact ih s' (by have:=hq.2;omega) hq.1
   | stop r=>rw [bL e];exact⟨r,rfl,hq⟩
 exact key _ s (Nat.lt_succ_self _) h0
theorem of{o:Option α}{x:α}(h:o=some x):A1 o (fun y=>y=x):=⟨x,h,rfl⟩
end A1
def Cu(b:List UInt8)(i:Int):Prop:=(0<=i/\i<=b.length)/\b.length<=1048576
theorem aYO(x:Int):0<=iF .and .i64 x 255/\iF .and .i64 x 255<=255:=by
 have e:iF .and .i64 x 255=IntKind.i64.wrap ((BitVec.ofInt 64 x &&& BitVec.ofInt 64 255).toNat:Int):=rfl
 have h:(BitVec.ofInt 64 x &&& BitVec.ofInt 64 255).toNat<=255:=by
  rw [BitVec.toNat_and];exact yN Nat.and_le_right (by decide)
 rw [e,wrap_i64 (by omega) (by omega)];omega
noncomputable section
variable {b:List UInt8} {i h:Int} (hc:Cu b i)
include hc
theorem aOM:A1 (rQ ⟨b,i,h⟩) (fun x=>(0<=x.1/\x.1<=255)/\Cu b x.2.1):=by
 unfold rQ DI
 obtain⟨⟨a1,a2⟩,a3⟩:=hc
 refine .ite (fun q=>?_) (fun q=>?_)
 ·have q':=of_decide_eq_true q
  simp only at q'
  refine .bind (.idx ⟨a1,q'⟩) fun x _=>.ret ⟨aYO _,?_⟩
  show Cu b (aY (i+1))
  rw [aM (by omega) (by omega)]
  exact⟨by omega,a3⟩
 ·exact .ret ⟨aYO _,⟨a1,a2⟩,a3⟩
theorem below{n:Int}(hn:n<=1000000):A1 (gN ⟨b,i,h⟩ n) (fun x=>(0<=x.1/\(x.1 < n\/n<=0/\x.1=0))/\Cu b x.2.1):=by
 unfold gN
 refine .ite (fun q=>?_) (fun q=>?_)
 ·have q':=of_decide_eq_true q
  exact .ret ⟨by simp;omega,hc⟩
 ·have q0:0 < n:=by simpa using q
  refine .ite (fun q=>?_) (fun q=>?_)
  ·refine .bind (aOM hc) fun x ⟨hx,h1⟩=>.need (by omega) (.ret ⟨?_,h1⟩)
   simp only [wW hx.1]
   exact⟨Int.emod_nonneg _ (by omega),.inl (Int.emod_lt_of_pos _ q0)⟩
  ·refine .bind (aOM hc) fun x ⟨hx,h1⟩=>.bind (aOM h1) fun y ⟨hy,h2⟩=>.bind (aOM h2) fun z ⟨hz,h3⟩=>.bind (aOM h3) fun w ⟨hw,h4⟩=>.need (by omega) (.ret ⟨?_,h4⟩)
   have e:aY (aY (aY (aY (x.1 * 16777216)+aY (y.1 * 65536))+aY (z.1 * 256))+w.1)=x.1 * 16777216+y.1 * 65536+z.1 * 256+w.1:=by
    rw [aM (x:=x.1 * 16777216) (by omega) (by omega),aM (x:=y.1 * 65536) (by omega) (by omega),aM (x:=z.1 * 256) (by omega) (by omega),aM (x:=x.1 * 16777216+y.1 * 65536) (by omega) (by omega),aM (x:=x.1 * 16777216+y.1 * 65536+z.1 * 256) (by omega) (by omega),aM (by omega) (by omega)]
   simp only [e]
   rw [wW (by omega)]
   exact⟨Int.emod_nonneg _ (by omega),.inl (Int.emod_lt_of_pos _ q0)⟩
theorem a6N{n:Int}(hn:n<=1000000):A1 (TN ⟨b,i,h⟩ n) (fun x=>Cu b x.2.1):=
 .bind (below hc hn) fun _ ⟨_,h1⟩=>.ret h1
theorem aSM{l:List Int}(hl:0 < l.length)(hl2:l.length<=1000):A1 (qL ⟨b,i,h⟩ l) (fun x=>x.1∈l/\Cu b x.2.1):=
 .bind (below hc (by omega)) fun x ⟨hx,h1⟩=>.bind (.idx (by omega)) fun y hy=>.ret ⟨hy,h1⟩
end
theorem a72{code:List UInt8}(hl:code.length<=1048576):A1 (QH code) (fun x=>Cu code x.1):=by
 unfold QH
 refine .bind (P:=fun _=>True) (.loop (fun s=>code.length - s.2.toNat) (fun s=>0<=s.2/\s.2<=code.length) ⟨by simp,by simp⟩ ?_) fun x _=>.ret ⟨⟨by simp,by simp⟩,hl⟩
 rintro⟨a,k⟩ ⟨h1,h2⟩
 simp only [WD,GW]
 simp only at h1 h2
 have nx:k < code.length->A1 ((idx code k).bind fun x7=>some (Step.next (iF .and .i64 (aY ((aY ((aY (a * 131))+(x7.toNat:Int)))+7)) 1073741823,aY (k+1)))) (a2S (ρ:=Int) (fun s'=>(0<=s'.2/\s'.2<=code.length)/\code.length - s'.2.toNat < code.length - k.toNat) (fun r=>True)):=fun hk=>by
  refine .bind (.idx ⟨h1,hk⟩) fun x _=>.ret ?_
  rw [aM (x:=k+1) (by omega) (by omega)]
  refine⟨⟨?_,?_⟩,?_⟩ <;> (try simp only) <;> omega
 refine .ite (fun q=>?_) (fun q=>?_)
 ·have q':=of_decide_eq_true q
  exact .ite (fun _=>nx q') (fun _=>.ret trivial)
 ·rw [if_neg (by simp)];exact .ret trivial
end Go.Gv
end
noncomputable section
namespace Go.Gv
noncomputable section
variable {b:List UInt8} {i h:Int} (hc:Cu b i)
include hc
theorem opD:A1 (QI ⟨b,i,h⟩) (fun x=>lR x.1/\Cu b x.2.1):=by
 unfold QI
 refine .bind (aSM hc (by decide) (by decide)) fun x1 ⟨hk,h1⟩=>?_
 have hk7:1<=x1.1/\x1.1<=7:=by simp at hk;omega
 rw [aKA,aE]
 have key:∀(i' h' cell:Int),Cu b i'->(FM x1.1\/cell=0)->(0<=cell/\cell<=1)->A1 (zE ⟨b,i,h⟩ x1 i' h' cell) (fun x=>lR x.1/\Cu b x.2.1):=by
  intro i' h' cell hc' h2 h3
  unfold zE GY GX
  refine .ite (fun q=>?_) (fun q=>?_)
  ·have q1:x1.1=1:=by simpa using q
   have fin:∀(i h size:Int),Cu b i->(0<=size/\size<=100)->A1 ((gN ⟨b,i,h⟩ 60000).bind fun x13=>some ((⟨x1.1,cell,size,x13.1⟩:dY),(x13.2.1,x13.2.2))) (fun x=>lR x.1/\Cu b x.2.1):=fun i h size hi hs=>
    .bind (below hi (by omega)) fun v ⟨hv,h4⟩=>.ret ⟨⟨hk7,h2,h3,by rw [if_pos q1];exact⟨hs,by (try simp only);omega⟩⟩,h4⟩
   refine .bind (below hc' (by omega)) fun s ⟨hs,h4⟩=>.bind (a6N h4 (by omega)) fun o h5=>.ite (fun _=>.bind (aSM h5 (by decide) (by decide)) fun p ⟨hp,h6⟩=>fin _ _ _ h6 (by simp at hp;omega)) (fun _=>fin _ _ _ h5 (by rw [aM (by omega) (by omega)];omega))
  ·have q1:¬x1.1=1:=by simpa using q
   exact .ret ⟨⟨hk7,h2,h3,by rw [if_neg q1];exact⟨rfl,rfl⟩⟩,hc'⟩
 refine .ite (fun q=>?_) (fun q=>?_)
 ·refine .bind (aSM h1 (by decide) (by decide)) fun x ⟨hx,h2⟩=>key _ _ _ h2 (.inl (of_decide_eq_true q)) (by simp at hx;omega)
 ·exact key _ _ _ h1 (.inr rfl) (by omega)
theorem aSN{m:Int}(hm:0<=m/\m<=12):A1 (vN ⟨b,i,h⟩ m) (fun x=>(x.1.length=3/\∀q∈x.1,q.jQ.length<=m/\∀o∈q.jQ,lR o)/\Cu b x.2.1):=by
 unfold vN
 refine .bind (P:=fun x=>(x.1.length=3/\∀q∈x.1,q.jQ.length<=m/\∀o∈q.jQ,lR o)/\Cu b x.2.1) (.loop (fun s=>3 - s.2.1.toNat) (fun s=>((s.1.length:Int)=s.2.1/\s.2.1<=3/\∀q∈s.1,q.jQ.length<=m/\∀o∈q.jQ,lR o)/\Cu b s.2.2.1) ⟨⟨rfl,by simp,by simp⟩,hc⟩ ?_) fun x hx=>.ret hx
 rintro⟨l,k,i',h'⟩ ⟨⟨e,k3,hq⟩,hi⟩
 simp only at e k3 hq hi
 simp only [MY]
 refine .ite (fun q=>?_) (fun q=>?_)
 ·have q':=of_decide_eq_true q
  rw [aM (x:=m+1) (by omega) (by omega)]
  refine .bind (below hi (by omega)) fun n ⟨hn,h1⟩=>?_
  refine .bind (P:=fun x=>((x.2.2.length:Int)<=m/\∀o∈x.2.2,lR o)/\Cu b x.1) (.loop (fun s=>s.1.toNat) (fun s=>(0<=s.1/\s.1+s.2.2.2.length<=m/\∀o∈s.2.2.2,lR o)/\Cu b s.2.1) ⟨⟨hn.1,by simp;omega,by simp⟩,h1⟩ ?_) ?_
  ·rintro⟨n,i1,h1,ops⟩ ⟨⟨n0,n1,ho⟩,hi1⟩
   simp only at n0 n1 ho hi1
   simp only [MW,DJ]
   refine .ite (fun q=>?_) (fun q=>?_)
   ·have q1:=of_decide_eq_true q
    refine .bind (opD hi1) fun o ⟨h2,h3⟩=>.need (by simp;omega) (.ret ?_)
    rw [aM (by omega) (by omega)]
    refine⟨⟨⟨by (try simp only);omega,by simp;omega,?_⟩,h3⟩,by (try simp only);omega⟩
    intro x hx
    rcases e9.1 hx with hx | hx
    ·exact ho x hx
    ·rw [YJ.1 hx];exact h2
   ·have q1:¬0 < n:=by simpa using q
    exact .ret ⟨⟨by (try simp only);omega,ho⟩,hi1⟩
  ·rintro⟨i1,h1,ops⟩ ⟨⟨o1,o2⟩,hi1⟩
   simp only [MX,MV]
   refine .need (by simp;omega) (.ret ?_)
   rw [aM (by omega) (by omega)]
   refine⟨⟨⟨by simp;omega,by (try simp only);omega,?_⟩,hi1⟩,by (try simp only);omega⟩
   intro x hx
   rcases e9.1 hx with hx | hx
   ·exact hq x hx
   ·rw [YJ.1 hx];exact⟨o1,o2⟩
 ·have q':¬k < 3:=by simpa using q
  exact .ret ⟨⟨by (try simp only);omega,hq⟩,hi⟩
def aAB(l:List Queue):Prop:=l.length<=3/\∀q∈l,q.jQ.length<=1000
omit hc in
theorem aKF{l:List Queue}(hl:aAB l)(k:Nat){q:Queue}(hq:q.jQ.length<=1000):aAB (l.set k q):=⟨by simpa using hl.1,fun x hx=>(pN hx).elim (hl.2 x) (fun e=>e ▸ hq)⟩
theorem aYP:A1 (A3 ⟨b,i,h⟩) (fun x=>aAB x.1/\Cu b x.2.1):=by
 unfold A3
 refine .bind (aSN hc (by omega)) fun x1 ⟨⟨l3,hq⟩,h1⟩=>.bind (below h1 (by omega)) fun x5 ⟨_,h5⟩=>?_
 have hT:aAB x1.1:=⟨by omega,fun q hq'=>by have:=(hq q hq').1;omega⟩
 simp only [kR,B9]
 refine .ite (fun _=>?_) fun _=>.ite (fun _=>?_) fun _=>.ite (fun _=>?_) fun _=>.ite (fun _=>?_) fun _=>?_
 ·exact .need (by omega) (.ret ⟨⟨by simp;omega,fun q hq'=>hT.2 q (aQ2 (by simpa using hq'))⟩,h5⟩)
 ·refine .bind (.idx (by omega)) fun x9 h9=>.bind (aSM h5 (by decide) (by decide)) fun x10 ⟨_,h10⟩=>?_
  have:=hT.2 _ h9
  have:=(hq _ h9).1
  exact .need (by simp;omega) (.ret ⟨aKF hT _ (by simp;omega),h10⟩)
 ·refine .bind (P:=fun x=>aAB x.1/\Cu b x.2.1) (.loop (fun s=>20 - ((s.1.getD 1 ⟨[]⟩).jQ.length)) (fun s=>(s.1.length=3/\∀q∈s.1,q.jQ.length<=13)/\Cu b s.2.1) ⟨⟨l3,fun q hq'=>by have:=(hq q hq').1;omega⟩,h5⟩ ?_) ?_
  ·rintro⟨l,i1,h1⟩ ⟨⟨l3,hq⟩,hi1⟩
   simp only at l3 hq hi1
   simp only [K3,CA]
   have hx:idx l 1=some l[1]:=aU (k:=1) (by omega)
   have hm:=hq _ (eN (show 1 < l.length by omega))
   rw [hx]
   simp only [aE]
   refine .bind (below hi1 (by omega)) fun x ⟨hx2,hi2⟩=>.ite (fun q=>?_) (fun q=>?_)
   ·have q':=of_decide_eq_true q
    rw [aM (by omega) (by omega)] at q'
    refine .need (by simp;omega) (.ret ?_)
    refine⟨⟨⟨by simp [l3],fun x hx=>?_⟩,hi2⟩,?_⟩
    ·rcases pN hx with hx | hx
     ·exact hq x hx
     ·rw [hx];simp;omega
    ·have e1:l.getD 1 ⟨[]⟩=l[1]:=by rw [gR,eM (by omega)];rfl
     have e2:(l.set (1:Int).toNat ⟨l[1].jQ ++ [⟨4,0,0,0⟩]⟩).getD 1 ⟨[]⟩=⟨l[1].jQ ++ [⟨4,0,0,0⟩]⟩:=by rw [gR,show(1:Int).toNat=1 from rfl,YI (by omega)];rfl
     simp only [e1,e2]
     simp;omega
   ·exact .ret ⟨⟨by (try simp only);omega,fun q hq'=>by have:=hq q hq';omega⟩,hi2⟩
  ·rintro⟨l,i1,h1⟩ hx
   exact .ret hx
 ·refine .bind (.idx (by omega)) fun x9 h9=>?_
  have:=(hq _ h9).1
  exact .need (by simp;omega) (.ret ⟨aKF hT _ (by simp;omega),h5⟩)
 ·exact .ret ⟨hT,h5⟩
theorem a4Q{m:Int}(hm:m<=1000):A1 (GZ ⟨b,i,h⟩ m) (fun x=>x.1.length<=4000/\Cu b x.2.1):=by
 unfold GZ
 refine .bind (below hc (by omega)) fun x1 ⟨hx1,h1⟩=>?_
 refine .bind (P:=fun x=>x.1.length<=4000/\Cu b x.2.1) (.loop (fun s=>s.2.1.toNat) (fun s=>(0<=s.2.1/\s.1.length+4 * s.2.1<=4000)/\Cu b s.2.2.1) ⟨⟨hx1.1,by simp;omega⟩,h1⟩ ?_) fun x hx=>.ret hx
 rintro⟨l,n,i1,h1⟩ ⟨⟨n0,n1⟩,hi1⟩
 simp only at n0 n1 hi1
 simp only [O8]
 refine .ite (fun q=>?_) (fun q=>?_)
 ·have q':=of_decide_eq_true q
  refine .bind (below hi1 (by omega)) fun x13 ⟨_,h13⟩=>.bind (below h13 (by omega)) fun x14 ⟨hx14,h14⟩=>?_
  rw [aM (by omega) (by omega)]
  refine .bind (P:=fun x=>(x.length:Int)<=l.length+4) (.loop (fun s=>s.2.toNat) (fun s=>0<=s.2/\(s.1.length:Int)+s.2<=l.length+4) ⟨by (try simp only);omega,by (try simp only);omega⟩ ?_) ?_
  ·rintro⟨r,k⟩ ⟨k0,k1⟩
   simp only at k0 k1
   simp only [O6]
   refine .ite (fun q=>?_) (fun q=>?_)
   ·have q2:=of_decide_eq_true q
    refine .need (by simp;omega) (.ret ?_)
    rw [aM (by omega) (by omega)]
    have e:(r ++ [x13.1]).length=r.length+1:=by simp
    exact⟨⟨by (try simp only);omega,by (try simp only);omega⟩,by (try simp only);omega⟩
   ·exact .ret (by (try simp only);omega)
  ·intro r hr
   simp only [O7,O5]
   refine .ret ?_
   rw [aM (by omega) (by omega)]
   exact⟨⟨⟨by (try simp only);omega,by (try simp only);omega⟩,h14⟩,by (try simp only);omega⟩
 ·exact .ret ⟨by (try simp only);omega,hi1⟩
end
theorem aQM{code:List UInt8}(hl:code.length<=1048576):A1 (rY code) (fun x=>aAB x.dT/\x.eO.length<=5000):=by
 unfold rY
 refine .bind (a72 hl) fun x1 h1=>.bind (aSN h1 (by omega)) fun x2 ⟨⟨l3,hq⟩,h2⟩=>.bind (a4Q h2 (by omega)) fun x3 ⟨p,h3⟩=>.bind (below h3 (by omega)) fun x6 ⟨_,h6⟩=>?_
 have hT:aAB x2.1:=⟨by omega,fun q hq'=>by have:=(hq q hq').1;omega⟩
 simp only [kQ]
 refine .ite (fun _=>.bind (aYP h6) fun x7 ⟨h7,_⟩=>.ret ⟨h7,by (try simp only);omega⟩) fun _=>.ite (fun _=>.need (by simp;omega) (.ret ⟨hT,by simp;omega⟩)) fun _=>.ret ⟨hT,by (try simp only);omega⟩
theorem a6O{x:m7}(hx:aAB x.dT)(hp:x.eO.length<=5000)(P:aG->Prop)(h0:∀t,OL t->t=x.dT->P (lH t))(hs:∀s w,DA s->(0<=w/\w<=2)->P s->P (MA s w))(ht:OL x.dT) :
  A1 (jV x) (fun s=>DA s/\P s/\s.Log.length<=400):=by
 unfold jV
 rw [(U9 (t:=x.dT) (by have:=hx.1;omega) (fun q hq=>by have:=hx.2 q hq;omega)).2,aE,if_pos ht]
 have hj:(((lH x.dT).aX.length:Int) == 0)=false:=rfl
 rw [hj,if_neg (by simp)]
 refine .need (by split <;> omega) ?_
 have hN:((x.eO.take ((if 400 < (x.eO.length:Int) then (400:Int) else (x.eO.length:Int)).toNat)).drop 0).length<=400:=by
  rw [FW,FY];split <;> omega
 refine .bind (P:=fun s=>DA s/\P s/\s.Log.length<=400) (.loop (fun s=>1000 - s.1.toNat) (fun s=>(0<=s.1/\s.1<=400)/\DA s.2/\P s.2/\(s.2.Log.length:Int)<=s.1) ⟨⟨by simp,by simp⟩,aT0 ht,h0 _ ht rfl,by simp [lH]⟩ ?_) fun s h=>.ret h
 rintro⟨k,s⟩ ⟨⟨k0,k1⟩,h1,h2,h3⟩
 simp only at k0 k1 h1 h2 h3
 simp only [M5,vA]
 refine .ite (fun q=>?_) (fun q=>.ret ⟨h1,h2,by (try simp only);omega⟩)
 have q':=of_decide_eq_true q
 refine .bind (.idx ⟨k0,q'⟩) fun w _=>?_
 rw [lG,aE]
 refine .ite (fun hw=>?_) (fun hw=>?_)
 ·have hw':=of_decide_eq_true hw
  obtain⟨e,o1,o2⟩:=aYN h1 (by omega) hw'
  rw [e,aE]
  refine .ret ?_
  rw [aM (by omega) (by omega)]
  exact⟨⟨⟨by (try simp only);omega,by (try simp only);omega⟩,o1,hs s w h1 hw' h2,by (try simp only);omega⟩,by (try simp only);omega⟩
 ·refine .ret ?_
  rw [aM (by omega) (by omega)]
  exact⟨⟨⟨by (try simp only);omega,by (try simp only);omega⟩,h1,h2,by (try simp only);omega⟩,by (try simp only);omega⟩
theorem aYQ{x:m7}(hx:aAB x.dT):QJ x=some (decide (OL x.dT)):=by
 unfold QJ
 rw [(U9 (t:=x.dT) (by have:=hx.1;omega) (fun q hq=>by have:=hx.2 q hq;omega)).1,aE]
 by_cases h:OL x.dT
 ·rw [if_pos h,aZ h];rfl
 ·rw [if_neg h,bM h];rfl
end Go.Gv
end
noncomputable section
namespace Go.Gv
theorem aKG(b:aA)(w:Int)(s:Sub):(gJ b w s).2.Kind=s.Kind:=by
 unfold gJ X7 OM RK uD pE Z8 CM
 simp only [apply_ite Prod.snd,apply_ite Sub.Kind,ite_self]
theorem aHU{b:aA}{w:Int}{s:Sub}(h:s.Kind=1\/s.Kind=2\/s.Kind=4):(gJ b w s).1.aD=b.aD:=by
 unfold gJ
 rcases h with k | k | k
 ·simp only [k,if_true]
  unfold X7 OM
  simp only [apply_ite Prod.fst,apply_ite aA.aD,ite_self]
 ·simp only [k]
  unfold RK
  simp [apply_ite Prod.fst,apply_ite aA.aD]
 ·simp only [k]
  unfold pE
  simp [apply_ite Prod.fst,apply_ite aA.aD]
theorem yK{c:aD}(hc:LU c){w v:Int}(hw:0<=w/\w<=2)(hv:0<=v/\v<=2)(e:Int)(x:pQ):bX ⟨e,c.b9.set w.toNat x⟩ v=if v=w then x else bX c v:=by
 have h3:=hc.2.1
 unfold bX
 simp only [gR,RO]
 by_cases q:v=w
 ·subst q;simp [show v.toNat < c.b9.length by omega]
 ·rw [if_neg q,if_neg (by omega)]
def mQ(j:bE):Prop:=j.eT=true/\(j.Op.Kind=2\/j.Op.Kind=5)/\j.Pc=0
def Adv(j:bE):Prop:=j.eT=true/\j.Op.Kind=4/\j.Pc=0
def JI(e:Int)(p:pQ)(j:bE):Prop:=j.eT=true ->
 (j.Op.Kind=1->j.Sub.Kind=1\/j.Sub.Kind=2)/\(j.Op.Kind=4->j.Pc=1->j.Sub.Kind=4) /\
 (Adv j->j.Sub.Kind=3/\j.Sub.cZ=false/\(j.Sub.Pc=0\/j.Sub.E<=e/\(j.Sub.Pc=1/\(0<=j.Sub.B/\j.Sub.B<=2)\/j.Sub.Pc=2/\j.Sub.B=3))) /\
 (mQ j->j.Sub.Kind=5/\j.Sub.cZ=false/\(j.Sub.Pc=0\/j.Sub.Pc=1/\(0<=j.Sub.E/\j.Sub.E<=e)\/j.Sub.Pc=2/\p.aJ=j.Sub.E))
def Calm(j:bE):Prop:=¬mQ j/\¬Adv j/\(j.Op.Kind=1->j.Sub.Kind=1\/j.Sub.Kind=2)/\(j.Op.Kind=4->j.Pc=1->j.Sub.Kind=4)
theorem Calm.ji{j:bE}(h:Calm j)(e:Int)(p:pQ):JI e p j:=fun _=>⟨h.2.2.1,h.2.2.2,fun q=>absurd q h.2.1,fun q=>absurd q h.1⟩
theorem j6{j:bE}(h1:j.Op.Kind≠1)(h2:j.Op.Kind≠2/\j.Op.Kind≠5\/j.Pc≠0)(h4:j.Op.Kind≠4\/j.Pc≠0/\(j.Pc=1->j.Sub.Kind=4)):Calm j:=
 ⟨fun q=>by have:=q.2;omega,fun q=>by have:=q.2;omega,fun q=>absurd q h1,fun q p=>by rcases h4 with h | h;exact absurd q h;exact h.2 p⟩
theorem aON{j:bE}(h1:j.Op.Kind=1)(h2:j.Sub.Kind=1\/j.Sub.Kind=2):Calm j:=⟨fun q=>by have:=q.2.1;omega,fun q=>by have:=q.2.1;omega,fun _=>h2,fun q=>by omega⟩
def Ep(c:aD)(J:Int->bE):Prop:=(∀w,0<=w/\w<=2->JI c.aJ (bX c w) (J w))/\∀p,0<=p/\p<=2->¬mQ (J p)->(bX c p).On=true->(bX c p).dB=false->c.aJ<=(bX c p).aJ+1/\(c.aJ=(bX c p).aJ+1->∀a,0<=a/\a<=2->Adv (J a)->(J a).Sub.Pc≠0->(J a).Sub.E=c.aJ->(J a).Sub.B<=p)
def OQ(J:Int->bE)(w:Int)(j:bE):Int->bE:=fun v=>if v=w then j else J v
theorem gE(J:Int->bE)(w:Int)(j:bE):OQ J w j w=j:=if_pos rfl
theorem eQ(J:Int->bE){w v:Int}(j:bE)(h:v≠w):OQ J w j v=J v:=if_neg h
noncomputable section
variable {c:aD} {J:Int->bE} (h:Ep c J)
include h
theorem Ep.congr{J':Int->bE}(e:∀v,0<=v/\v<=2->J' v=J v):Ep c J':=by
 refine⟨fun w hw=>by rw [e w hw];exact h.1 w hw,fun p hp hn h1 h2=>?_⟩
 rw [e p hp] at hn
 obtain⟨a1,a2⟩:=h.2 p hp hn h1 h2
 exact⟨a1,fun q a ha=>by rw [e a ha];exact a2 q a ha⟩
variable {w:Int} (hw:0<=w/\w<=2) {j:bE}
include hw
theorem Ep.step{c':aD}(he:c'.aJ=c.aJ)(hp:∀v,0<=v/\v<=2->v≠w->bX c' v=bX c v)(hj:JI c.aJ (bX c' w) j)
  (h2:¬mQ j->(bX c' w).On=true->(bX c' w).dB=false->c.aJ<=(bX c' w).aJ+1/\(c.aJ=(bX c' w).aJ+1->∀a,0<=a/\a<=2->a≠w->Adv (J a)->(J a).Sub.Pc≠0->(J a).Sub.E=c.aJ->(J a).Sub.B<=w))
  (ha:Adv j->j.Sub.Pc=0\/j.Sub.B=0):Ep c' (OQ J w j):=by
 constructor
 ·intro v hv
  rw [he]
  by_cases q:v=w
  ·subst q;rw [gE];exact hj
  ·rw [eQ _ _ q,hp v hv q];exact h.1 v hv
 ·intro p hpr hn o1 o2
  rw [he]
  have hadv:∀a,0<=a/\a<=2->(∀q:a≠w,Adv (J a)->(J a).Sub.Pc≠0->(J a).Sub.E=c.aJ->(J a).Sub.B<=p)->Adv (OQ J w j a)->(OQ J w j a).Sub.Pc≠0->(OQ J w j a).Sub.E=c.aJ->(OQ J w j a).Sub.B<=p:=by
   intro a har hk
   by_cases q:a=w
   ·subst q
    rw [gE]
    intro x1 x2 _
    rcases ha x1 with y | y
    ·exact absurd y x2
    ·omega
   ·rw [eQ _ _ q];exact hk q
  by_cases q:p=w
  ·subst q
   rw [gE] at hn
   obtain⟨a1,a2⟩:=h2 hn o1 o2
   exact⟨a1,fun e a har=>hadv a har (fun q=>a2 e a har q)⟩
  ·rw [eQ _ _ q] at hn
   rw [hp p hpr q] at o1 o2 ⊢
   obtain⟨a1,a2⟩:=h.2 p hpr hn o1 o2
   exact⟨a1,fun e a har=>hadv a har (fun _=>a2 e a har)⟩
theorem Ep.still(hn:¬mQ (J w))(hj:Calm j):Ep c (OQ J w j):=
 h.step hw rfl (fun _ _ _=>rfl) (hj.ji _ _) (fun _ o1 o2=>by
  obtain⟨a1,a2⟩:=h.2 w hw hn o1 o2
  exact⟨a1,fun e a har _=>a2 e a har⟩) (fun q=>absurd q hj.2.1)
theorem Ep.a2T(hc:LU c)(hn:¬mQ (J w))(hj:Calm j):Ep (L9 c w).1 (OQ J w j):=by
 unfold L9
 by_cases q:(bX c w).On
 ·rw [if_pos q]
  refine h.step hw rfl (fun v hv hvw=>by rw [yK hc hw hv,if_neg hvw]) (hj.ji _ _) (fun _ o1=>?_) (fun q=>absurd q hj.2.1)
  rw [yK hc hw hw,if_pos rfl] at o1
  cases o1
 ·rw [if_neg q];exact h.still hw hn hj
theorem Ep.pin{b:aA}(hb:b.aD=c)(hc:LU c)(hj:J w=j)(hP:mQ j){fin:bE}(hf:Calm fin) :
  Ep (Z8 b w j.Sub).1.aD (OQ J w (if (Z8 b w j.Sub).2.cZ then fin else {j with Sub:=(Z8 b w j.Sub).2})):=by
 have hji:=h.1 w hw
 rw [hj] at hji
 have hk5:=hP.2.1
 obtain⟨k,d,hpc⟩:=(hji hP.1).2.2.2 hP
 have noadv:∀s:Sub,¬Adv {j with Sub:=s}:=fun s q=>by have:=q.2.1;simp only at this;omega
 have hP':∀s:Sub,mQ {j with Sub:=s}:=fun s=>hP
 have mk:∀(s:Sub) (p:pQ),(s.Kind=5/\s.cZ=false/\(s.Pc=0\/s.Pc=1/\(0<=s.E/\s.E<=c.aJ)\/s.Pc=2/\p.aJ=s.E))->JI c.aJ p {j with Sub:=s}:=fun s p hs _=>⟨fun q=>by simp only at q;omega,fun q=>by simp only at q;omega,fun q=>absurd q (noadv s),fun _=>hs⟩
 unfold Z8
 rw [hb]
 rcases hpc with p0 | ⟨p1,e0,e1⟩ | ⟨p2,pe⟩
 ·simp only [if_pos p0,d,aQ,if_false,hb]
  exact h.step hw rfl (fun _ _ _=>rfl) (mk _ _ ⟨k,rfl,.inr (.inl ⟨rfl,hc.1.1,uQ _⟩)⟩) (fun q=>absurd (hP' _) q) (fun q=>absurd q (noadv _))
 ·have hpt:RJ c w j.Sub.E=(⟨c.aJ,c.b9.set w.toNat ⟨true,j.Sub.E,false,0⟩⟩,true):=by unfold RJ;rw [if_pos ⟨e0,e1⟩]
  simp only [if_neg (show ¬j.Sub.Pc=0 by omega),if_pos p1,hpt,if_true,d,aQ,if_false]
  exact h.step hw rfl (fun v hv hvw=>by rw [yK hc hw hv,if_neg hvw]) (mk _ _ ⟨k,rfl,.inr (.inr ⟨rfl,by rw [yK hc hw hw,if_pos rfl]⟩)⟩) (fun q=>absurd (hP' _) q) (fun q=>absurd q (noadv _))
 ·simp only [if_neg (show ¬j.Sub.Pc=0 by omega),if_neg (show ¬j.Sub.Pc=1 by omega),if_pos p2]
  by_cases q:c.aJ=j.Sub.E
  ·simp only [if_pos q,CM,if_true,hb]
   exact h.step hw rfl (fun _ _ _=>rfl) (hf.ji _ _) (fun _ _ _=>⟨by omega,fun e=>by omega⟩) (fun q=>absurd q hf.2.1)
  ·simp only [if_neg q,d,aQ,if_false,hb]
   exact h.step hw rfl (fun _ _ _=>rfl) (mk _ _ ⟨k,rfl,.inl rfl⟩) (fun q=>absurd (hP' _) q) (fun q=>absurd q (noadv _))
omit h hw in
theorem aOO(hc:LU c){q:Int}(hq:0<=q/\q<=2)(e:Int):(C7 c q e).1.aJ=c.aJ/\(∀v,0<=v/\v<=2->(bX (C7 c q e).1 v).On=(bX c v).On/\(bX (C7 c q e).1 v).aJ=(bX c v).aJ/\((bX (C7 c q e).1 v).dB=false->(bX c v).dB=false)) /\
  ((C7 c q e).2=true->(bX (C7 c q e).1 q).On=true->(bX (C7 c q e).1 q).dB=false->(bX c q).aJ=e):=by
 unfold C7
 by_cases k1:(bX c q).On=false\/(bX c q).dB=true\/(bX c q).aJ=e
 ·rw [if_pos k1]
  refine⟨rfl,fun v hv=>⟨rfl,rfl,id⟩,fun _ o1 o2=>?_⟩
  rcases k1 with k | k | k
  ·rw [k] at o1;cases o1
  ·rw [k] at o2;cases o2
  ·exact k
 ·rw [if_neg k1]
  by_cases k2:(bX c q).Seen=2
  ·rw [if_pos k2]
   refine⟨rfl,fun v hv=>?_,fun _ _ o2=>?_⟩
   ·rw [yK hc hq hv]
    by_cases z:v=q
    ·subst z;rw [if_pos rfl];exact⟨rfl,rfl,fun x=>by cases x⟩
    ·rw [if_neg z];exact⟨rfl,rfl,id⟩
   ·rw [yK hc hq hq,if_pos rfl] at o2;cases o2
  ·rw [if_neg k2]
   refine⟨rfl,fun v hv=>?_,fun x=>by cases x⟩
   rw [yK hc hq hv]
   by_cases z:v=q
   ·subst z;rw [if_pos rfl];exact⟨rfl,rfl,id⟩
   ·rw [if_neg z];exact⟨rfl,rfl,id⟩
theorem Ep.advance{b:aA}(hb:b.aD=c)(hc:LU c)(hj:J w=j)(hA:Adv j){fin:bE}(hf:Calm fin) :
  Ep (uD b j.Sub).1.aD (OQ J w (if (uD b j.Sub).2.cZ then fin else {j with Sub:=(uD b j.Sub).2})):=by
 have hji:=h.1 w hw
 rw [hj] at hji
 have hk4:=hA.2.1
 obtain⟨k,d,hpc⟩:=(hji hA.1).2.2.1 hA
 have nopin:∀s:Sub,¬mQ {j with Sub:=s}:=fun s q=>by have:=q.2.1;simp only at this;omega
 have nopw:¬mQ (J w):=by rw [hj];exact nopin j.Sub
 have mk:∀(s:Sub) (p:pQ) (e:Int),(s.Kind=3/\s.cZ=false/\(s.Pc=0\/s.E<=e/\(s.Pc=1/\(0<=s.B/\s.B<=2)\/s.Pc=2/\s.B=3)))->JI e p {j with Sub:=s}:=fun s p e hs _=>⟨fun q=>by simp only at q;omega,fun _ q=>by simp only at q;have:=hA.2.2;omega,fun _=>hs,fun q=>absurd q (nopin s)⟩
 unfold uD
 rw [hb]
 rcases hpc with p0 | ⟨el,⟨p1,B0,B2⟩ | ⟨p2,B3⟩⟩
 ·simp only [if_pos p0,d,aQ,if_false,hb]
  refine h.step hw rfl (fun _ _ _=>rfl) (mk _ _ _ ⟨k,rfl,.inr ⟨uQ _,.inl ⟨rfl,by simp,by simp⟩⟩⟩) (fun _ o1 o2=>?_) (fun _=>.inr rfl)
  obtain⟨a1,a2⟩:=h.2 w hw nopw o1 o2
  exact⟨a1,fun e a har _=>a2 e a har⟩
 ·obtain ⟨le, lv, lq⟩ := aOO hc (q := j.Sub.B) ⟨B0, B2⟩ j.Sub.E
  simp only [if_neg (show ¬j.Sub.Pc=0 by omega),if_pos p1,if_pos (show 0<=j.Sub.B/\j.Sub.B<=2 from ⟨B0,B2⟩)]
  have others:∀v,0<=v/\v<=2->JI (C7 c j.Sub.B j.Sub.E).1.aJ (bX (C7 c j.Sub.B j.Sub.E).1 v) (J v):=fun v hv=>by
   have:=h.1 v hv
   rw [le]
   intro hbv
   obtain⟨x1,x2,x3,x4⟩:=this hbv
   exact⟨x1,x2,x3,fun q=>by rw [(lv v hv).2.1];exact x4 q⟩
  cases hl:(C7 c j.Sub.B j.Sub.E).2
  ·simp only [aQ,if_false,CM,if_true]
   refine⟨fun v hv=>?_,fun p hp hn o1 o2=>?_⟩
   ·by_cases q:v=w
    ·subst q;rw [gE];exact hf.ji _ _
    ·rw [eQ _ _ q];exact others v hv
   ·have hn':¬mQ (J p):=by
     by_cases q:p=w
     ·rw [q];exact nopw
     ·rw [eQ _ _ q] at hn;exact hn
    obtain⟨y1,y2,y3⟩:=lv p hp
    rw [y1] at o1
    obtain⟨a1,a2⟩:=h.2 p hp hn' o1 (y3 o2)
    rw [le,y2]
    refine⟨a1,fun e a har=>?_⟩
    by_cases q:a=w
    ·subst q;rw [gE];exact fun q=>absurd q hf.2.1
    ·rw [eQ _ _ q];exact a2 e a har
  ·simp only [if_true,d,aQ,if_false]
   refine⟨fun v hv=>?_,fun p hp hn o1 o2=>?_⟩
   ·by_cases q:v=w
    ·subst q
     rw [gE,le]
     refine mk _ _ _ ⟨k,rfl,.inr ⟨el,?_⟩⟩
     by_cases z:j.Sub.B=2
     ·exact .inr ⟨by simp only [if_pos z],by simp only;omega⟩
     ·exact .inl ⟨by simp only [if_neg z],by simp only;omega,by simp only;omega⟩
    ·rw [eQ _ _ q];exact others v hv
   ·have hn':¬mQ (J p):=by
     by_cases q:p=w
     ·rw [q];exact nopw
     ·rw [eQ _ _ q] at hn;exact hn
    obtain⟨y1,y2,y3⟩:=lv p hp
    have o1':=o1
    rw [y1] at o1'
    obtain⟨a1,a2⟩:=h.2 p hp hn' o1' (y3 o2)
    rw [le,y2]
    refine⟨a1,fun e a har=>?_⟩
    by_cases q:a=w
    ·subst q
     rw [gE]
     intro _ _ hE
     simp only at hE ⊢
     have hB:=a2 e a har (by rw [hj];exact hA) (by rw [hj];omega) (by rw [hj];exact hE)
     rw [hj] at hB
     by_cases z:j.Sub.B=p
     ·rw [<-z] at o1 o2
      have:=lq hl o1 o2
      rw [z] at this
      omega
     ·omega
    ·rw [eQ _ _ q];exact a2 e a har
 ·simp only [if_neg (show ¬j.Sub.Pc=0 by omega),if_neg (show ¬j.Sub.Pc=1 by omega),if_pos p2,CM,if_true]
  unfold aB3
  by_cases q:c.aJ=j.Sub.E/\j.Sub.E≠100000
  ·simp only [if_pos q]
   refine⟨fun v hv=>?_,fun p hp hn o1 o2=>?_⟩
   ·by_cases z:v=w
    ·subst z;rw [gE];exact hf.ji _ _
    ·rw [eQ _ _ z]
     intro hbv
     obtain⟨x1,x2,x3,x4⟩:=h.1 v hv hbv
     refine⟨x1,x2,fun q=>?_,fun q=>?_⟩
     ·obtain⟨z1,z2,z3⟩:=x3 q
      exact⟨z1,z2,z3.imp id fun z4=>⟨by simp only;omega,z4.2⟩⟩
     ·obtain⟨z1,z2,z3⟩:=x4 q
      exact⟨z1,z2,z3.imp id fun z4=>z4.imp (fun z5=>⟨z5.1,z5.2.1,by simp only;omega⟩) id⟩
   ·have hn':¬mQ (J p):=by
     by_cases z:p=w
     ·rw [z];exact nopw
     ·rw [eQ _ _ z] at hn;exact hn
    have o1':(bX c p).On=true:=o1
    have o2':(bX c p).dB=false:=o2
    obtain⟨a1,a2⟩:=h.2 p hp hn' o1' o2'
    have hpk:=(U6 hc hp).1.2
    have hne:c.aJ≠(bX c p).aJ+1:=fun e=>by
     have:=a2 e w hw (by rw [hj];exact hA) (by rw [hj];omega) (by rw [hj];exact q.1.symm)
     rw [hj] at this;omega
    have hep:bX ⟨j.Sub.E+1,c.b9⟩ p=bX c p:=rfl
    rw [hep]
    refine⟨by simp only;omega,fun e a har hA' hp' hE'=>?_⟩
    exfalso
    by_cases z:a=w
    ·subst z;rw [gE] at hA';exact hf.2.1 hA'
    ·rw [eQ _ _ z] at hA' hp' hE'
     obtain⟨_,_,z3⟩:=(h.1 a har hA'.1).2.2.1 hA'
     rcases z3 with z3 | z3
     ·exact hp' z3
     ·simp only at hE';omega
  ·simp only [if_neg q]
   exact h.still hw nopw hf
end
end Go.Gv
end
noncomputable section
namespace Go.Gv
theorem VZ{s:aG}(h3:s.aX.length=3){w v:Int}(hw:0<=w/\w<=2)(hv:0<=v/\v<=2)(b:aA)(c:List Int)(j:bE)(t:List Queue)(l:List Ev)(n:Int):aL ⟨b,c,s.aX.set w.toNat j,t,l,n⟩ v=OQ (aL s) w j v:=by
 unfold aL OQ
 simp only [gR,RO]
 by_cases q:v=w
 ·subst q;simp [show v.toNat < s.aX.length by omega]
 ·rw [if_neg q,if_neg (by omega)]
noncomputable section
variable (s:aG) (w:Int) (j:bE)
theorem a6P{c:Prop}[Decidable c]{x y:Int}(hx:x=1\/x=2)(hy:y=1\/y=2):(if c then x else y)=1\/(if c then x else y)=2:=by split <;> assumption
theorem aT6(h:j.Sub.Kind=1\/j.Sub.Kind=2):(aBM s w j).b.aD=s.aA.aD/\(aBM s w j).j.Op=j.Op/\((aBM s w j).j.Sub.Kind=1\/(aBM s w j).j.Sub.Kind=2):=by
 have hc:=aHU (b:=s.aA) (w:=w) (s:=j.Sub) (by omega)
 have hk:=aKG s.aA w j.Sub
 unfold aBM dR S3
 refine⟨?_,?_,?_⟩
 ·simp only [apply_ite JR.b,apply_ite aA.aD,hc,ite_self]
 ·simp only [apply_ite JR.j,apply_ite bE.Op,ite_self]
 ·simp only [apply_ite JR.j,apply_ite bE.Sub,apply_ite Sub.Kind,hk]
  repeat' (first | exact h | exact .inr rfl | apply a6P)
theorem a4R{c:Prop}[Decidable c]{x y:Int}(hx:x≠0)(hy:y≠0):(if c then x else y)≠0:=by split <;> assumption
theorem aT7(h0:j.Pc≠0)(h4:j.Pc≠4):(aAA s w j).b.aD=s.aA.aD/\(aAA s w j).j.Op=j.Op/\(aAA s w j).j.Pc≠0:=by
 unfold aAA rL dR
 rw [if_neg h0]
 simp only [if_neg h4]
 refine⟨?_,?_,?_⟩
 ·simp only [apply_ite JR.b,apply_ite aA.aD,ite_self]
 ·simp only [apply_ite JR.j,apply_ite bE.Op,ite_self]
 ·simp only [apply_ite JR.j,apply_ite bE.Pc]
  repeat' (first | decide | apply a4R)
theorem aT8:(aHQ s w j).b.aD=s.aA.aD/\(aHQ s w j).j.Op=j.Op:=by
 unfold aHQ dR
 exact⟨by simp only [apply_ite JR.b,apply_ite aA.aD,ite_self],by simp only [apply_ite JR.j,apply_ite bE.Op,ite_self]⟩
theorem aQN:(VA s w j).b.aD=s.aA.aD/\(VA s w j).j.Op=j.Op:=by
 unfold VA rL dR
 exact⟨by simp only [apply_ite JR.b,apply_ite aA.aD,ite_self],by simp only [apply_ite JR.j,apply_ite bE.Op,ite_self]⟩
end
noncomputable section
variable {s:aG} (hs:DA s) {w:Int} (hw:0<=w/\w<=2) (h:Ep s.aA.aD (aL s))
include hs hw h
theorem a4S{j:bE}(hj:aL s w=j)(hb:j.eT=true)(hk:1<=j.Op.Kind/\j.Op.Kind<=7)(hp9:j.Pc≠9):Ep (aT3 s w j).b.aD (OQ (aL s) w (aT3 s w j).j):=by
 have hc:=hs.1.1.2.1
 have hji:=h.1 w hw
 rw [hj] at hji
 obtain⟨i1,i2,i3,i4⟩:=hji hb
 have npw:¬mQ j->¬mQ (aL s w):=fun q=>by rw [hj];exact q
 unfold aT3
 by_cases k1:j.Op.Kind=1
 ·rw [if_pos k1]
  obtain⟨e1,e2,e3⟩:=aT6 s w j (i1 k1)
  rw [e1]
  exact h.still hw (npw fun q=>by have:=q.2.1;omega) (aON (by rw [e2];exact k1) e3)
 rw [if_neg k1]
 by_cases k2:j.Op.Kind=2
 ·rw [if_pos k2]
  by_cases p0:j.Pc=0
  ·have hP:mQ j:=⟨hb,.inl k2,p0⟩
   obtain⟨k,d,_⟩:=i4 hP
   have es:gJ s.aA w j.Sub=Z8 s.aA w j.Sub:=by unfold gJ;simp [k,d]
   have:=h.pin hw (b:=s.aA) rfl hc hj hP (fin:=dR {j with Sub:=(gJ s.aA w j.Sub).2} 1 0) (j6 (by simp only [dR];omega) (.inr (by simp [dR])) (.inl (by simp only [dR];omega)))
   unfold aAA
   rw [if_pos p0]
   simp only [es] at this ⊢
   exact this
  ·by_cases p4:j.Pc=4
   ·unfold aAA
    simp only [if_neg p0,if_neg (show ¬j.Pc=1 by omega),if_neg (show ¬j.Pc=2 by omega),if_neg (show ¬j.Pc=3 by omega),if_pos p4]
    exact h.a2T hw hc (npw fun q=>p0 q.2.2) (j6 (by simp only [dR];omega) (.inr (by simp [dR])) (.inl (by simp only [dR];omega)))
   ·obtain⟨e1,e2,e3⟩:=aT7 s w j p0 p4
    rw [e1]
    exact h.still hw (npw fun q=>p0 q.2.2) (j6 (by rw [e2];omega) (.inr e3) (.inl (by rw [e2];omega)))
 rw [if_neg k2]
 by_cases k3:j.Op.Kind=3
 ·rw [if_pos k3]
  obtain⟨e1,e2⟩:=aT8 s w j
  rw [e1]
  exact h.still hw (npw fun q=>by have:=q.2.1;omega) (j6 (by rw [e2];omega) (.inl (by rw [e2];omega)) (.inl (by rw [e2];omega)))
 rw [if_neg k3]
 by_cases k7:j.Op.Kind=7
 ·rw [if_pos k7]
  obtain⟨e1,e2⟩:=aQN s w j
  rw [e1]
  exact h.still hw (npw fun q=>by have:=q.2.1;omega) (j6 (by rw [e2];omega) (.inl (by rw [e2];omega)) (.inl (by rw [e2];omega)))
 rw [if_neg k7]
 unfold RL
 by_cases k6:j.Op.Kind=6
 ·rw [if_pos k6]
  by_cases p0:j.Pc=0
  ·rw [if_pos p0]
   exact h.a2T hw hc (npw fun q=>by have:=q.2.1;omega) (j6 (by simp only [dR];omega) (.inr (by simp [dR])) (.inl (by simp only [dR];omega)))
  ·rw [if_neg p0]
   exact h.still hw (npw fun q=>p0 q.2.2) (j6 (by simp only [dR];omega) (.inr (by simp [dR])) (.inl (by simp only [dR];omega)))
 rw [if_neg k6]
 by_cases k5:j.Op.Kind=5
 ·by_cases p0:j.Pc=0
  ·have hP:mQ j:=⟨hb,.inr k5,p0⟩
   obtain⟨k,d,_⟩:=i4 hP
   have es:gJ s.aA w j.Sub=Z8 s.aA w j.Sub:=by unfold gJ;simp [k,d]
   have:=h.pin hw (b:=s.aA) rfl hc hj hP (fin:=dR {j with Sub:=(gJ s.aA w j.Sub).2} 9 (gJ s.aA w j.Sub).2.Code) (j6 (by simp only [dR];omega) (.inr (by simp [dR])) (.inl (by simp only [dR];omega)))
   rw [if_pos (.inl p0)]
   simp only [es,if_pos k5] at this ⊢
   exact this
  ·rw [if_neg (fun q=>q.elim p0 fun q=>q.2 k5)]
   exact h.still hw (npw fun q=>p0 q.2.2) (j6 (by simp only [dR];omega) (.inr (by simp [dR])) (.inl (by simp only [dR];omega)))
 have k4:j.Op.Kind=4:=by omega
 have np:¬mQ (aL s w):=npw fun q=>by have:=q.2.1;omega
 by_cases p0:j.Pc=0
 ·have hA:Adv j:=⟨hb,k4,p0⟩
  obtain⟨k,d,_⟩:=i3 hA
  have es:gJ s.aA w j.Sub=uD s.aA j.Sub:=by unfold gJ;simp [k,d]
  have:=h.advance hw (b:=s.aA) rfl hc hj hA (fin:=dR {j with Sub:=S3 4 0} 1 0) (j6 (by simp only [dR];omega) (.inr (by simp [dR])) (.inr ⟨by simp [dR],fun _=>rfl⟩))
  rw [if_pos (.inl p0)]
  simp only [es,if_neg k5,if_pos p0] at this ⊢
  exact this
 by_cases p1:j.Pc=1
 ·rw [if_pos (.inr ⟨p1,k5⟩)]
  have hk:=i2 k4 p1
  have hcl:=aHU (b:=s.aA) (w:=w) (s:=j.Sub) (by omega)
  have hkk:=aKG s.aA w j.Sub
  simp only [hcl,if_neg k5,if_neg p0]
  refine h.still hw np ?_
  split
  ·exact j6 (by simp only [dR];omega) (.inr (by simp [dR])) (.inr ⟨by simp [dR],fun q=>by simp [dR] at q⟩)
  ·exact j6 (by simp only;omega) (.inr p0) (.inr ⟨p0,fun _=>by simp only [hkk];exact hk⟩)
 ·rw [if_neg (fun q=>q.elim p0 fun q=>p1 q.1)]
  exact h.still hw np (j6 (by simp only [dR];omega) (.inr (by simp [dR])) (.inr ⟨by simp [dR],fun q=>by simp [dR] at q⟩))
theorem a1Q:Ep (MA s w).aA.aD (aL (MA s w)):=by
 have h3:=hs.2.2.1
 have hjk:JOk (aL s w):=by
  have h:=rM hs hw
  rw [fU hw.1 (by omega)] at h
  injection h with h
  rw [<-h];exact hs.2.2.2.2.2.2 _ (eN _)
 unfold MA
 cases hb:(aL s w).eT with
 | false =>
  rw [if_pos rfl]
  have np:¬mQ (aL s w):=fun q=>by have:=q.1;rw [hb] at this;cases this
  unfold aHR
  cases ho:XD s.dT w with
  | nil=>exact h
  | cons o r =>
   simp only
   by_cases s0:s.aI=1000000
   ·rw [if_pos s0];exact h
   rw [if_neg s0]
   refine Ep.congr ?_ (fun v hv=>VZ h3 hw hv _ _ _ _ _ _)
   simp only
   unfold CP
   by_cases k1:o.Kind=1
   ·rw [if_pos k1]
    exact h.still hw np (aON k1 (.inl rfl))
   rw [if_neg k1]
   by_cases k2:o.Kind=2\/o.Kind=5
   ·rw [if_pos k2]
    cases hon:(bX s.aA.aD w).On
    ·simp only [aQ,if_false]
     refine h.step hw rfl (fun _ _ _=>rfl) (fun _=>⟨fun q=>absurd q k1,fun q=>by simp only at q;omega,fun q=>by have:=q.2.1;simp only at this;omega,fun _=>⟨rfl,rfl,.inl rfl⟩⟩) (fun _ o1=>?_) (fun q=>by have:=q.2.1;simp only at this;omega)
     rw [hon] at o1;cases o1
    ·simp only [if_true]
     exact h.still hw np (j6 k1 (.inr (by simp)) (.inl (by simp only;omega)))
   rw [if_neg k2]
   by_cases k4:o.Kind=4
   ·rw [if_pos k4]
    refine h.step hw rfl (fun _ _ _=>rfl) (fun _=>⟨fun q=>absurd q k1,fun _ q=>by simp at q,fun _=>⟨rfl,rfl,.inl rfl⟩,fun q=>by have:=q.2.1;simp only at this;omega⟩) (fun _ o1 o2=>?_) (fun _=>.inl rfl)
    obtain⟨a1,a2⟩:=h.2 w hw np o1 o2
    exact⟨a1,fun e a har _=>a2 e a har⟩
   ·rw [if_neg k4]
    exact h.still hw np (j6 k1 (.inl (by simp only;omega)) (.inl k4))
 | true =>
  rw [if_neg (by simp)]
  by_cases p9:(aL s w).Pc=9
  ·rw [if_pos p9]
   refine Ep.congr ?_ (fun v hv=>VZ h3 hw hv _ _ _ _ _ _)
   exact h.still hw (fun q=>by have:=q.2.2;omega) (j6 (by decide) (.inl (by decide)) (.inl (by decide)))
  ·rw [if_neg p9]
   refine Ep.congr ?_ (fun v hv=>VZ h3 hw hv _ _ _ _ _ _)
   exact a4S hs hw h rfl hb ((A0 hb).1 hjk).1.1 p9
end
theorem ep0(t:List Queue):Ep (lH t).aA.aD (aL (lH t)):=by
 have hj:∀w:Int,aL (lH t) w=L6:=fun w=>by
  unfold aL lH
  simp only [gR,aMU]
  split <;> rfl
 have hp:∀w:Int,bX (lH t).aA.aD w=⟨false,0,false,0⟩:=fun w=>by
  unfold bX lH aHO
  simp only [gR,aMU]
  split <;> rfl
 exact⟨fun w _ hb=>by rw [hj] at hb;simp [L6] at hb,fun p _ _ o1=>by rw [hp] at o1;simp at o1⟩
def aYR(s:aG)(k:Nat):Prop:=(bX s.aA.aD k).On=true/\(aL s k).eT=false
instance (s:aG) (k:Nat):Decidable (aYR s k):=by unfold aYR;infer_instance
end Go.Gv
end
noncomputable section
namespace Go.Gv
def Hk(h:aC):Prop:=h.Bytes.length=384/\h.Class.length=6
def Wk(m:Mem):Prop:=Hk m.aC/\m.aB.Global.length=3/\m.aB.Own.length=9/\(dJ m.aB).length<=24
theorem Wk.small{m:Mem}(h:Wk m):yZ m:=by obtain⟨⟨a,b⟩,c,d,e⟩:=h;exact⟨by omega,by omega,by omega,by omega,by omega⟩
noncomputable section
variable {b:List UInt8} {i h:Int} (hc:Cu b i)
include hc
end
end Go.Gv
end
