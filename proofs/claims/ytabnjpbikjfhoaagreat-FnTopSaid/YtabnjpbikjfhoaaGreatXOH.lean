import Derived.Test.YtabnjpbikjfhoaaGreatXOG
set_option linter.unusedVariables false
set_option linter.unusedSimpArgs false
set_option linter.unusedSectionVars false
set_option linter.constructorNameAsVariable false
set_option linter.unnecessarySimpa false
noncomputable section
namespace Go.Gv
noncomputable section
variable {b:List UInt8} {i h:Int} (hc:Cu b i)
include hc
def Rk(l:List bC):Prop:=l.length=3/\(bH l).length<=24
omit hc in
theorem Rk.rows{l:List bC}(hl:Rk l):∀s∈l,s.Rows.length<=24:=fun s hs=>by have:=PZ hs;have:=hl.2;omega
end
end Go.Gv
end
noncomputable section
namespace Go.Gv
def aOP(p:Nat->Bool)(n:Nat):Nat:=((List.range n).filter p).length
theorem aT9(p:Nat->Bool)(n:Nat):aOP p (n+1)=aOP p n+if p n then 1 else 0:=by
 unfold aOP
 rw [List.range_succ,List.filter_append,FX]
 cases h:p n <;> simp [List.filter,h]
theorem YA:∀{l m:List Int},l.Nodup->(∀x∈l,x∈m)->l.length<=m.length
 | [],_,_,_=>sW _
 | a :: t, m, hn, h => by
  rw [WA] at hn
  have ha:a∈m:=h a (MM ..)
  have ih:=YA (l:=t) (m:=m.erase a) hn.2 (fun x hx=>(List.mem_erase_of_ne (fun e:x=a=>hn.1 (by rw [<-e];exact hx))).2 (h x (j9 _ hx)))
  have:=List.length_erase_of_mem ha
  have hp:=List.length_pos_of_mem ha
  simp only [yL];omega
theorem aUA{p:Nat->Bool}{n:Nat}{l:List Int}(hn:l.Nodup)(hr:∀x∈l,0<=x/\x < (n:Int))(hp:∀i:Nat,i < n->(p i=true↔(i:Int)∈l)):aOP p n=l.length:=by
 have e:aOP p n=(((List.range n).filter p).map (fun i:Nat=>(i:Int))).length:=by simp [aOP]
 have nd:(((List.range n).filter p).map (fun i:Nat=>(i:Int))).Nodup:=by
  rw [List.nodup_iff_pairwise_ne]
  refine List.Pairwise.map (R:=fun a b:Nat=>a≠b) _ (fun a b h=>by omega) ?_
  exact List.Pairwise.filter _ (List.nodup_iff_pairwise_ne.1 List.nodup_range)
 have a:=YA (m:=l) nd (fun x hx=>by
  obtain⟨i,hi,rfl⟩:=DD.1 hx
  obtain⟨h1,h2⟩:=aEQ.1 hi
  exact(hp i (S9.1 h1)).1 h2)
 have b:=YA (l:=l) (m:=((List.range n).filter p).map (fun i:Nat=>(i:Int))) hn (fun x hx=>by
  have:=hr x hx
  refine DD.2 ⟨x.toNat,aEQ.2 ⟨S9.2 (by omega),(hp _ (by omega)).2 (by rw [aSW this.1];exact hx)⟩,by omega⟩)
 omega
theorem aUB(b:aA)(k:Nat):∀j:Nat,j < 5->(kH b k).getD j 0=(aOP (fun i=>decide (j4 b i=(j:Int))) k:Int):=by
 induction k with
 | zero=>intro j hj;simp only [kH,aOP,List.range_zero,List.filter_nil,S8,gR,aMU,if_pos hj];rfl
 | succ k ih =>
  intro j hj
  have hr:=aHS b k
  have hl:=X9 b k
  rw [aT9]
  simp only [kH,gR,RO]
  have ihj:=ih j hj
  simp only [gR] at ihj
  by_cases q:j4 b k=(j:Int)
  ·have q':(j4 b k).toNat=j:=by omega
   rw [q',if_pos rfl,if_pos (by omega),aZ q,if_pos rfl,Option.getD_some,ihj];omega
  ·rw [if_neg (by omega),bM q,if_neg (by simp),ihj];omega
noncomputable section
variable {b:aA} (hb:mC b)
include hb
end
end Go.Gv
end
noncomputable section
namespace Go.Gv
def a6Q(c:aD)(k:Nat):Prop:=((bX c k).On=true/\(bX c k).dB=false)/\(bX c k).aJ < c.aJ
instance (c:aD) (k:Nat):Decidable (a6Q c k):=by unfold a6Q;infer_instance
def a6R(c:aD)(k:Nat):Prop:=(bX c k).On=true/\(bX c k).dB=false
instance (c:aD) (k:Nat):Decidable (a6R c k):=by unfold a6R;infer_instance
end Go.Gv
end
noncomputable section
set_option maxRecDepth 20000
namespace Go.Gv
noncomputable section
variable {b:List UInt8} {i h:Int} (hc:Cu b i)
include hc
end
def I2(_:aA)(s:Sub)(m:Nat):Prop:=s.Kind=2/\(s.Pc=0/\2<=m\/s.Pc=1/\1<=m)
end Go.Gv
end
noncomputable section
namespace Go.Gv
def Aft{α:Type}(o:Option α)(Q:α->Prop):Prop:=∀x,o=some x->Q x
namespace Aft
variable {α β:Type} {Q:α->Prop}
theorem ret{x:α}(h:Q x):Aft (some x) Q:=fun _ e=>by injection e with e;rw [<-e];exact h
theorem bind{o:Option β}{f:β->Option α}(h:∀x,o=some x->Aft (f x) Q):Aft (o.bind f) Q:=fun y e=>by
 cases ho:o with
 | none=>rw [ho] at e;cases e
 | some x=>rw [ho] at e;exact h x ho y e
theorem ite{c:Prop}[Decidable c]{a b:Option α}(h1:Aft a Q)(h2:Aft b Q):Aft (if c then a else b) Q:=by
 split
 ·exact h1
 ·exact h2
theorem need{p:Prop}[Decidable p]{k:Option α}(h:p->Aft k Q):Aft (Gv.need p k) Q:=fun y e=>by
 unfold Gv.need at e
 split at e
 ·rename_i q;exact h q y e
 ·cases e
end Aft
noncomputable section
variable (s:aG) (w:Int) (j:bE)
end
end Go.Gv
end
noncomputable section
set_option maxRecDepth 20000
namespace Go.Gv
def aSO(s:aG):Prop:=(∀j∈s.aX,j.eT=false)/\∀q∈s.dT,q.jQ=[]
instance (s:aG):Decidable (aSO s):=by unfold aSO;infer_instance
end Go.Gv
end
noncomputable section
set_option maxRecDepth 20000
namespace Go.Gv
def a6S:dY:=⟨4,0,0,0⟩
def a6T(n k:Nat):List Queue:=List.replicate k ⟨List.replicate n a6S⟩++List.replicate (3 - k) ⟨[]⟩
theorem aSO.todo{s:aG}(hs:DA s)(h:aSO s):s.dT=a6T 0 3:=by
 apply List.ext_getElem
 ·rw [hs.2.2.2.1.1];rfl
 ·intro i h1 h2
  have:=h.2 _ (eN h1)
  have e:(a6T 0 3)[i]=⟨[]⟩:=by
   have h3:i < 3:=h2
   rcases(by omega:i=0\/i=1\/i=2) with rfl | rfl | rfl <;> rfl
  rw [e]
  cases hq:s.dT[i];rw [hq] at this;simp only at this;rw [this]
end Go.Gv
end
noncomputable section
namespace Go.Gv
theorem aHV{m:Mem}(hm:nF m){w h:Int}(hw:0<=w/\w<=2)(hv:hC m h):(∀t,aW (FP m w h).aC t=aW m.aC t)/\(∀t,0<=aW m.aC t->iP (FP m w h).aC t=if t=h % 32 then h / 32+1 else iP m.aC t) /\
  (∀t,t≠h % 32->(t∈dJ (FP m w h).aB↔t∈dJ m.aB))/\dU (FP m w h) (h % 32)≠3:=by
 obtain⟨hcnt,h3,h9,h1,h2,hsm,hcp,hlo,hsG,hsO⟩:=nF.facts hm
 have hcl:=hJ hv.2.1
 have hc2:0<=aW m.aC (h % 32)/\aW m.aC (h % 32)<=2:=by
  obtain⟨_,q,e⟩:=qH hcl
  rw [e];exact gK.1 (by omega)
 have hg6:1<=h / 32/\h / 32<=6:=by have:=hv.1;unfold jN at this;omega
 obtain⟨_,hg⟩:=W5.aX4 hm.1.1 hcl (g:=h / 32+1) (by omega)
 have hh:(FP m w h).aC=⟨st4 m.aC.Bytes (eF (h % 32) (aW m.aC (h % 32))).toNat (h / 32+1),m.aC.Class⟩:=by
  unfold FP;simp only [apply_ite Mem.aC,ite_self]
 have kx:(w * 3+aW m.aC (h % 32)).toNat < m.aB.Own.length:=by omega
 have ky:(aW m.aC (h % 32)).toNat < m.aB.Global.length:=by omega
 have hl:∀t,t∈dJ (FP m w h).aB↔t∈dJ m.aB\/(h / 32+1<=6/\t=h % 32):=fun t=>by
  unfold FP dJ
  by_cases q:h / 32+1<=6
  ·rw [if_pos q]
   split
   ·rw [<-dK kx]
    simp only [e9,FL kx,YJ,q,true_and]
    constructor
    ·rintro(a | a | a)
     ·exact .inl (.inl a)
     ·exact .inl (.inr a)
     ·exact .inr a
    ·rintro((a | a) | a)
     ·exact .inl a
     ·exact .inr (.inl a)
     ·exact .inr (.inr a)
   ·rw [<-dK ky]
    simp only [e9,FL ky,YJ,q,true_and]
    constructor
    ·rintro((a | a) | a)
     ·exact .inl (.inl a)
     ·exact .inr a
     ·exact .inl (.inr a)
    ·rintro((a | a) | a)
     ·exact .inl (.inl a)
     ·exact .inr a
     ·exact .inl (.inr a)
  ·rw [if_neg q]
   simp only [e9,q,false_and,or_false]
 refine⟨fun t=>by rw [hh];rfl,fun t ht=>by rw [hh];exact hg t ht,fun t ht=>by rw [hl];exact⟨fun x=>x.elim id fun y=>absurd y.2 ht,.inl⟩,fun hu=>?_⟩
 have hu':=iA.1 hu
 have e1:iP (FP m w h).aC (h % 32)=h / 32+1:=by rw [hh,hg _ hcl,if_pos rfl]
 rw [e1] at hu'
 exact hu'.2.1 ((hl _).2 (.inr ⟨hu'.2.2,rfl⟩))
theorem aQO{m:Mem}(hm:nF m){w h:Int}(hw:0<=w/\w<=2)(hv:hC m h){t:Int}(ht:t≠h % 32):dU (FP m w h) t=dU m t:=by
 obtain⟨a,b,c,_⟩:=aHV hm hw hv
 by_cases q:0<=aW m.aC t
 ·exact Z0 (a t) (by rw [b t q,if_neg ht]) (c t ht)
 ·have e:aW (FP m w h).aC t=aW m.aC t:=a t
  unfold dU
  rw [e,if_pos (by omega),if_pos (by omega)]
def a4T(z:List Int)(h:Int):Prop:=∀v:Int,0<=v/\v<=2->rK z v≠h
def a6U(e:Int)(z:List Int)(r:dA):Prop:=FO r e/\a4T z r.Handle
def aYS(m:Mem)(r:dA):Prop:=0<=aW m.aC (r.Handle % 32)/\r.Handle / 32 < iP m.aC (r.Handle % 32)
theorem aYS.not{m:Mem}{r:dA}(h:aYS m r):¬hC m r.Handle:=fun l=>by have:=l.2.2;have:=h.2;omega
structure Gc (w:Int) (b b':aA) (row out:Int):Prop where
 kept:∀j:Nat,(j:Int) < row->∀hj:j < (dC b'.aO w).length,¬a6U b.aD.aJ b.l7 (dC b'.aO w)[j]
 len:((dC b'.aO w).length:Int)+out=(dC b.aO w).length
 flat:((bH b'.aO).length:Int)+out=(bH b.aO).length
 gone:∀r∈dC b.aO w,r∈dC b'.aO w\/aYS b'.Mem r
 used:∀i:Nat,i < 24->(j4 b' i=4↔j4 b i=4)
 cls:∀t,aW b'.Mem.aC t=aW b.Mem.aC t
 pos:0<=out
theorem aOQ{l:List dA}{j:Nat}(h:j < l.length):JA l (j:Int)=l[j]:=by
 have:=U7 (l:=l) (k:=(j:Int)) (by omega)
 rw [aU h] at this
 injection this with this
 exact this.symm
noncomputable section
variable {w:Int} (hw:0<=w/\w<=2) {b b':aA} (hL0:(dC b.aO w).length<=24) {s:Sub} (hd:s.cZ=false)
include hw hL0 hd
end
end Go.Gv
end
noncomputable section
set_option maxRecDepth 20000
namespace Go.Gv
def rp(n:Int):Int:=if y4 n < 0 then 0 else fB (y4 n)
def no(o:dY):dY:={o with iI:=rp o.iI}
def ns(s:Sub):Sub:=if s.Kind=1 then {s with A:=rp s.A} else s
def nj(j:bE):bE:={j with Op:=no j.Op,Sub:=ns j.Sub}
end Go.Gv
end
noncomputable section
namespace Go.Gv
def a2U(s:Sub):Nat:=if s.Pc=0 then 4 else if s.Pc=1 then 3 else if s.Pc=2 then 2 else 1
def a2V(s:Sub):Nat:=if s.Pc=0 then 5 else if s.Pc=1/\0<=s.B/\s.B<=2 then (4 - s.B).toNat else 1
def a2W(n:Nat)(s:Sub):Nat:=if s.Pc=0 then 2+5 * n else if s.Pc=1 then 1+5 * (n - s.Row.toNat) else if s.Pc=2 then max 1 (5 * (n - s.Row.toNat) - s.B.toNat) else if s.Pc=3 then max 1 (5 * (n - s.Row.toNat) - 3) else 1
def a2X(e:Int)(s:Sub):Nat:=if s.Pc=0 then 3 else if s.Pc=1 then (if s.E=e then 2 else 5) else if s.Pc=2 then (if s.E=e then 1 else 4) else 1
def XE(b:aA)(w:Int):Nat:=(dC b.aO w).length
def NJ(b:aA)(w:Int)(s:Sub):Nat:=if s.cZ then 1 else if s.Kind=1 then a2U s else if s.Kind=2 then (if s.Pc=0 then 2 else 1) else if s.Kind=3 then a2V s+6 else if s.Kind=4 then a2W (XE b w) s else if s.Kind=5 then a2X b.aD.aJ s else 1
def aSP(s:Sub):Nat:=if s.Kind=2/\s.cZ=false then 1 else 0
theorem aUC(b:aA)(w:Int)(s:Sub):1<=NJ b w s:=by
 unfold NJ a2U a2V a2W a2X
 split <;> repeat' split
 all_goals omega
noncomputable section
variable {b:aA} {w:Int} {s:Sub} (hd:s.cZ=false)
include hd
end
structure a1R (b:aA) (w:Int) (s:Sub) (r:aA×Sub):Prop where
 low:r.2.cZ=true\/NJ r.1 w r.2+1<=NJ b w s
 ep:r.1.aD.aJ=b.aD.aJ\/r.1.aD.aJ=b.aD.aJ+1/\r.2.cZ=true/\7<=NJ b w s
 rows:XE r.1 w+aSP r.2<=XE b w+aSP s
 oth:∀v,0<=v/\v<=2->v≠w->XE r.1 v=XE b v
end Go.Gv
end
noncomputable section
namespace Go.Gv
def a2Y(b:aA)(c:List Int)(w:Int)(j:bE):Nat:=
 if j.Pc=9 then 1
 else if j.Op.Kind=1 then (if j.Pc=0 then NJ b w j.Sub+11 else if j.Pc=1 then 11 else if j.Pc=2 then 10 else if j.Pc=3 then NJ b w j.Sub+1 else 2)
 else if j.Op.Kind=2 then (if j.Pc=0 then NJ b w j.Sub+5 else if j.Pc=1 then 5 else if j.Pc=2 then 4 else if j.Pc=3 then 3 else 2)
 else if j.Op.Kind=3 then (if j.Pc=0 then 6 else if j.Pc=1 then (if cellAt c j.Op.Cell=j.H then 5 else 8) else if j.Pc=2 then (if cellAt c j.Op.Cell=j.H then 4 else 7) else if j.Pc=3 then 3 else 2)
 else if j.Op.Kind=7 then (if j.Pc=0 then 4 else if j.Pc=1 then 3 else 2)
 else if j.Op.Kind=6 then 2
 else if j.Op.Kind=5 then (if j.Pc=0 then NJ b w j.Sub+1 else 2)
 else if j.Pc=0 then NJ b w j.Sub+3+5 * (XE b w+aSP j.Sub) else if j.Pc=1 then NJ b w j.Sub+1 else 2
def rfJ(j:bE):Nat:=aSP j.Sub+if j.Op.Kind=1/\(j.Pc=0\/j.Pc=1\/j.Pc=2) then 1 else 0
structure a9B (b:aA) (c:List Int) (w:Int) (j:bE) (r:JR):Prop where
 low:∃d,(d=0/\r.b.aD.aJ=b.aD.aJ/\r.c=c\/d=3)/\a2Y r.b r.c w r.j+1+2 * d<=a2Y b c w j
 rows:XE r.b w+rfJ r.j<=XE b w+rfJ j
 oth:∀v,0<=v/\v<=2->v≠w->XE r.b v=XE b v
 op:r.j.Op=j.Op/\r.j.eT=j.eT
theorem a1R.d{b:aA}{w:Int}{s:Sub}{r:aA×Sub}(h:a1R b w s r):∃d,(d=0/\r.1.aD.aJ=b.aD.aJ\/d=3)/\1+2 * d<=NJ b w s:=by
 rcases h.ep with e | ⟨_,_,e⟩
 ·exact⟨0,.inl ⟨rfl,e⟩,by have:=aUC b w s;omega⟩
 ·exact⟨3,.inr rfl,by omega⟩
theorem a1R.nd{b:aA}{w:Int}{s:Sub}{r:aA×Sub}(h:a1R b w s r)(hn:r.2.cZ=false):r.1.aD.aJ=b.aD.aJ/\NJ r.1 w r.2+1<=NJ b w s:=by
 refine⟨?_,?_⟩
 ·rcases h.ep with e | ⟨_,e,_⟩
  ·exact e
  ·rw [hn] at e;cases e
 ·rcases h.low with e | e
  ·rw [hn] at e;cases e
  ·exact e
noncomputable section
variable {s:aG} (hs:DA s) {w:Int} (hw:0<=w/\w<=2) {j:bE} (h9:j.Pc≠9)
include hs hw h9
end
end Go.Gv
end
noncomputable section
namespace Go.Gv
def kq(q:List dY):Nat:=(q.map fun o=>if o.Kind=1 then 1 else 0).sum
def opC(k:Nat)(o:dY):Nat:=if o.Kind=1 then 16 else if o.Kind=2 then 9 else if o.Kind=3 then 7 else if o.Kind=5 then 5 else if o.Kind=6 then 3 else if o.Kind=7 then 5 else 15+5 * k
def qC(k:Nat)(q:List dY):Nat:=(q.map (opC k)).sum
def a2Z(s:aG)(w:Int):Prop:=(aL s w).eT=false/\XD s.dT w=[]
instance (s:aG) (w:Int):Decidable (a2Z s w):=by unfold a2Z;infer_instance
end Go.Gv
end
noncomputable section
namespace Go.Gv
def y5(c:Int):Prop:=0<=c/\c<=8
structure a73 (j:bE) (r:JR):Prop where
 ser:r.j.aI=j.aI
 ev:∀e∈r.l,e.Kind=2\/e.Kind=3
 code:y5 j.Code/\y5 j.Sub.Code->y5 r.j.Code/\y5 r.j.Sub.Code
theorem je{j:bE}{b:aA}{c:List Int}{q:bE}{l:List Ev}(h1:q.aI=j.aI)(h2:∀e∈l,e.Kind=2\/e.Kind=3)(h3:y5 j.Code/\y5 j.Sub.Code->y5 q.Code/\y5 q.Sub.Code):a73 j ⟨b,c,q,l⟩:=⟨h1,h2,h3⟩
noncomputable section
variable {s:aG} {w:Int} {j:bE}
theorem cOk{c:Int}(h:0<=c/\c<=8):y5 c:=h
end
end Go.Gv
end
noncomputable section
namespace Go.Gv
def a4U(f:Int->Nat):Nat:=f 0+f 1+f 2
def kN(k:Int)(l:List Ev):Nat:=l.countP fun e=>e.Kind == k
def tN(n:Int)(l:List Ev):Nat:=l.countP fun e=>e.Kind == 4 && e.aI == n
def bJ(j:bE):Nat:=if j.eT then 1 else 0
def bN(n:Int)(j:bE):Nat:=if j.eT=true/\j.aI=n then 1 else 0
def one(n m:Int):Nat:=if 1<=n/\n<=m then 1 else 0
structure Tl (N:Nat) (s:aG):Prop where
 tot:s.aI+a4U (fun v=>(XD s.dT v).length)=N
 calls:(kN 1 s.Log:Int)=s.aI
 a8M:(kN 4 s.Log:Int)+a4U (fun v=>bJ (aL s v))=s.aI
 each:∀n,tN n s.Log+a4U (fun v=>bN n (aL s v))=one n s.aI
 a8N:(∀e∈s.Log,e.Kind=4->y5 e.Code)/\∀v,0<=v/\v<=2->y5 (aL s v).Code/\y5 (aL s v).Sub.Code
theorem aYT(c:aD)(w:Int)(o:dY)(n:Int):(CP c w o n).eT=true/\(CP c w o n).aI=n/\y5 (CP c w o n).Code/\y5 (CP c w o n).Sub.Code:=by
 unfold CP
 have z:y5 0:=cOk (by omega)
 have u:y5 1:=cOk (by omega)
 split
 ·exact⟨rfl,rfl,z,z⟩
 split
 ·split
  ·exact⟨rfl,rfl,u,z⟩
  ·exact⟨rfl,rfl,z,z⟩
 split
 ·exact⟨rfl,rfl,z,z⟩
 ·exact⟨rfl,rfl,z,z⟩
end Go.Gv
end
noncomputable section
namespace Go.Gv
def vK(h:aC)(s:Int):Int:=ld h.Bytes ((eF s (aW h s)).toNat+4) 4
theorem aYU{h:aC}{x:Int}(hh:jN x)(hc:0<=aW h (x % 32)):aBK h x=vK h (x % 32):=by unfold aBK vK;rw [if_pos ⟨hh,hc⟩]
theorem a1S{b:List Int}{a:Nat}{n:Int}(h:a+4<=b.length)(hn:0<=n/\n<=4294967295):ld (GQ b a n) a 4=n:=by
 have e:∀j,bt (GQ b a n) j=if j=a+3 then n % 256 else if j=a+2 then n / 256 % 256 else if j=a+1 then n / 65536 % 256 else if j=a then n / 16777216 else bt b j:=fun j=>by
  unfold GQ
  rw [CL (by simp;omega),CL (by simp;omega),CL (by simp;omega),CL (by omega)]
 rw [ld4 (by rw [P0];exact h),e,e,e,e,if_neg (by omega),if_neg (by omega),if_neg (by omega),if_pos rfl,if_neg (by omega),if_neg (by omega),if_pos rfl,if_neg (by omega),if_pos rfl,if_pos rfl]
 omega
theorem aB5{h:aC}{s t:Int}(hc:0<=aW h s)(ht:0<=aW h t)(hn:s≠t):(eF s (aW h s)).toNat+12<=(eF t (aW h t)).toNat\/(eF t (aW h t)).toNat+12<=(eF s (aW h s)).toNat:=by
 obtain⟨p,i,p6,hi,es,ec,eo,ep⟩:=nG hc
 obtain⟨q,j,q6,hj,fs,fc,fo,fp⟩:=nG ht
 have room:∀c (i:Nat),i < (bS c).toNat->8+i * (aS c).toNat+12<=64:=fun c i h=>by
  have hcl:0<=c/\c<=2:=gK.1 (by omega)
  rcases eX hcl with rfl | rfl | rfl
  ·rw [show(bS 0).toNat=4 from rfl] at h;rw [show(aS 0).toNat=12 from rfl];omega
  ·rw [show(bS 1).toNat=2 from rfl] at h;rw [show(aS 1).toNat=20 from rfl];omega
  ·rw [show(bS 2).toNat=1 from rfl] at h;rw [show(aS 2).toNat=44 from rfl];omega
 have r1:=room _ _ hi
 have r2:=room _ _ hj
 rw [eo,fo]
 by_cases e:p=q
 ·subst e
  have hij:i≠j:=fun e=>hn (by omega)
  have hcl:0<=bQ h p/\bQ h p<=2:=gK.1 (by omega)
  generalize bQ h p=c at hi hj hcl
  rcases eX hcl with rfl | rfl | rfl
  ·rw [show(aS 0).toNat=12 from rfl];omega
  ·rw [show(aS 1).toNat=20 from rfl];omega
  ·rw [show(bS 2).toNat=1 from rfl] at hi hj;omega
 ·have:p < q\/q < p:=by omega
  omega
theorem VB{h:aC}{s:Int}(hc:0<=aW h s):(eF s (aW h s)).toNat+8<=384:=(aYK hc).1
theorem a1T{h:aC}(h384:h.Bytes.length=384){s t n:Int}(hc:0<=aW h s)(ht:0<=aW h t):vK ⟨st4 h.Bytes (eF s (aW h s)).toNat n,h.Class⟩ t=vK h t:=by
 have e1:=VB hc
 have e2:=VB ht
 show ld (st4 h.Bytes (eF s (aW h s)).toNat n) ((eF t (aW h t)).toNat+4) 4=ld h.Bytes ((eF t (aW h t)).toNat+4) 4
 refine KO (by omega) (FK ..) fun j j1 j2=>?_
 by_cases e:s=t
 ·subst e
  rw [wZ (by omega),if_neg (by omega),if_neg (by omega)]
 ·have:=aB5 hc ht e
  rw [wZ (by omega),if_neg (by omega),if_neg (by omega)]
theorem aYV{h:aC}(h384:h.Bytes.length=384){s t n:Int}(hn:0<=n/\n<=4294967295)(hc:0<=aW h s)(ht:0<=aW h t):vK ⟨GQ h.Bytes ((eF s (aW h s)).toNat+4) n,h.Class⟩ t=if t=s then n else vK h t:=by
 have e1:=VB hc
 have e2:=VB ht
 show ld (GQ h.Bytes ((eF s (aW h s)).toNat+4) n) ((eF t (aW h t)).toNat+4) 4=if t=s then n else ld h.Bytes ((eF t (aW h t)).toNat+4) 4
 by_cases e:t=s
 ·subst e
  rw [if_pos rfl,a1S (by omega) hn]
 ·rw [if_neg e]
  have:=aB5 hc ht (fun q=>e q.symm)
  exact KO (by omega) (P0 ..) fun j j1 j2=>Z1 (by omega) (by omega)
theorem a1U{h:aC}(hh:W5 h){s:Int}(hc:0<=aW h s):1<=iP h s/\iP h s<=7:=by
 obtain⟨p,i,p6,hi,es,ec,eo,ep⟩:=nG hc
 have hold:=(L5 hh.1 p6).1 (hh.2 p p6)
 have hcl:0<=bQ h p/\bQ h p<=2:=gK.1 (by omega)
 unfold aBJ at hold
 rw [if_neg (by omega)] at hold
 unfold iP
 rw [eo]
 exact hold.2.2 i hi
theorem aYW{m:Mem}(hm:nF m){w h:Int}(hv:hC m h){t:Int}(ht:0<=aW m.aC t):vK (FP m w h).aC t=vK m.aC t:=by
 have hcl:=hJ hv.2.1
 have hh:(FP m w h).aC=⟨st4 m.aC.Bytes (eF (h % 32) (aW m.aC (h % 32))).toNat (h / 32+1),m.aC.Class⟩:=by
  unfold FP;simp only [apply_ite Mem.aC,ite_self]
 rw [hh]
 exact a1T hm.1.1.1.1 hcl ht
structure a4V (m m':Mem) (x n:Int):Prop where
 state:∀t,dU m' t=dU m t
 gen:∀t,0<=aW m.aC t->iP m'.aC t=iP m.aC t
 dat:∀t,0<=aW m.aC t->vK m'.aC t=if t=x then n else vK m.aC t
theorem aOR{m:Mem}(hm:nF m){h n:Int}(hv:hC m h)(hn:0<=n/\n<=65535):(CN m h n).2=0/\a4V m (CN m h n).1 (h % 32) n:=by
 have hcl:=hJ hv.2.1
 unfold CN
 rw [if_pos hv]
 obtain⟨_,hg⟩:=W5.put hm.1.1 hcl (n:=n) ⟨hn.1,by omega⟩
 refine⟨rfl,fun t=>?_,hg,fun t ht=>aYV hm.1.1.1.1 ⟨hn.1,by omega⟩ hcl ht⟩
 by_cases q:0<=aW m.aC t
 ·exact Z0 rfl (hg t q) Iff.rfl
 ·unfold dU
  have c:aW m.aC t < 0:=by omega
  exact(if_pos (show aW _ t < 0 from c)).trans (if_pos c).symm
structure aQP (m m':Mem) (x:Int):Prop where
 was:dU m x≠3
 now:dU m' x=3
 gen:1<=iP m'.aC x/\iP m'.aC x<=6
 rest:∀t,t≠x->(dU m' t=3↔dU m t=3)
 same:∀t,dU m t=3->iP m'.aC t=iP m.aC t/\vK m'.aC t=vK m.aC t
theorem aKH{m:Mem}(hm:nF m){ls:aB}{x:Int}(h1:∀t,t∈dJ m.aB↔t∈dJ ls\/t=x)(h2:x∉dJ ls):aQP m ⟨m.aC,ls⟩ x:=by
 have hx:x∈dJ m.aB:=(h1 x).2 (.inr rfl)
 obtain⟨a,b⟩:=nF.pM hm hx
 refine⟨fun q=>(iA.1 q).2.1 hx,iA.2 ⟨a,h2,b⟩,⟨(a1U hm.1.1 a).1,b⟩,fun t ht=>?_,fun t _=>⟨rfl,rfl⟩⟩
 rw [iA,iA]
 have:t∈dJ m.aB↔t∈dJ ls:=by rw [h1];exact⟨fun q=>q.elim id fun q=>absurd q ht,.inl⟩
 simp only [this]
theorem aUD{l:List Int}(h:l≠[]):l=(L8 l).1 ++ [(L8 l).2]:=by
 unfold L8
 rcases YD l with rfl | ⟨L,b,rfl⟩
 ·exact absurd rfl h
 ·simp
theorem aOS{l:List aR}{k:Nat}(hk:k < l.length)(h:dS l k≠[]):∃A B,cN l=A++((L8 (dS l k)).2 :: B)/\cN (l.set k ⟨(L8 (dS l k)).1⟩)=A++B:=by
 have e:=aUD h
 refine⟨cN (l.take k)++(L8 (dS l k)).1,cN (l.drop (k+1)),?_,?_⟩
 ·rw [C6 hk,dK hk]
  conv=>lhs;rw [e]
  simp
 ·rw [GP hk];simp
theorem aOT{l:List aR}{k:Nat}(hk:k < l.length)(h:dS l k=[]):l.set k ⟨(L8 (dS l k)).1⟩=l/\(L8 (dS l k)).2 = -1:=by
 rw [h]
 refine⟨?_,rfl⟩
 have e:(⟨(L8 []).1⟩:aR)=l[k]:=by
  have:=dK hk
  rw [h] at this
  cases hl:l[k] with
  | mk s=>rw [hl] at this;simp only at this;subst this;rfl
 rw [e,aER]
theorem aME{m:Mem}(hm:nF m){w c:Int}(hw:0<=w/\w<=2)(hc:0<=c/\c<=2):(FN m w c=(m,-1))\/0<=(FN m w c).2/\aQP m (FN m w c).1 (FN m w c).2:=by
 obtain⟨hcnt,h3,h9,_⟩:=nF.facts hm
 have hk:(w * 3+c).toNat < m.aB.Own.length:=by omega
 unfold FN
 by_cases q:dS m.aB.Own (w * 3+c).toNat=[]
 ·left
  obtain⟨a,b⟩:=aOT hk q
  rw [a,b]
 ·right
  obtain⟨A,B,e1,e2⟩:=aOS hk q
  have nd:=hm.1.2.2.2.2.2
  have rg:=hm.1.2.2.2.2.1
  unfold dJ at nd rg
  rw [e1] at nd rg
  refine⟨(rg _ (by simp)).1,aKH hm (fun t=>?_) ?_⟩
  ·unfold dJ;simp only;rw [e1,e2];simp only [e9,fA]
   constructor
   ·rintro(h | h | h | h)
    ·exact .inl (.inl h)
    ·exact .inl (.inr (.inl h))
    ·exact .inr h
    ·exact .inl (.inr (.inr h))
   ·rintro((h | h | h) | h)
    ·exact .inl h
    ·exact .inr (.inl h)
    ·exact .inr (.inr (.inr h))
    ·exact .inr (.inr (.inl h))
  ·unfold dJ;simp only;rw [e2]
   have:(cN m.aB.Global++(A++(L8 (dS m.aB.Own (w * 3+c).toNat)).2 :: B)).Perm ((L8 (dS m.aB.Own (w * 3+c).toNat)).2 :: (cN m.aB.Global++(A++B))):=by
    rw [<-jM,<-jM];exact WB
   exact(WA.1 (this.nodup_iff.1 nd)).1
theorem aJI{m:Mem}(hm:nF m){c:Int}(hc:0<=c/\c<=2):(uP m c=(m,-1))\/0<=(uP m c).2/\aQP m (uP m c).1 (uP m c).2:=by
 obtain⟨hcnt,h3,h9,_⟩:=nF.facts hm
 have hk:c.toNat < m.aB.Global.length:=by omega
 unfold uP
 by_cases q:dS m.aB.Global c.toNat=[]
 ·left
  obtain⟨a,b⟩:=aOT hk q
  rw [a,b]
 ·right
  obtain⟨A,B,e1,e2⟩:=aOS hk q
  have nd:=hm.1.2.2.2.2.2
  have rg:=hm.1.2.2.2.2.1
  unfold dJ at nd rg
  rw [e1] at nd rg
  refine⟨(rg _ (by simp)).1,aKH hm (fun t=>?_) ?_⟩
  ·unfold dJ;simp only;rw [e1,e2];simp only [e9,fA]
   constructor
   ·rintro((h | h | h) | h)
    ·exact .inl (.inl (.inl h))
    ·exact .inr h
    ·exact .inl (.inl (.inr h))
    ·exact .inl (.inr h)
   ·rintro(((h | h) | h) | h)
    ·exact .inl (.inl h)
    ·exact .inl (.inr (.inr h))
    ·exact .inr h
    ·exact .inl (.inr (.inl h))
  ·unfold dJ;simp only;rw [e2]
   have:(A++(L8 (dS m.aB.Global c.toNat)).2 :: B++cN m.aB.Own).Perm ((L8 (dS m.aB.Global c.toNat)).2 :: (A++B++cN m.aB.Own)):=by
    rw [jM,jM,OS];exact WB
   exact(WA.1 (this.nodup_iff.1 nd)).1
theorem aQQ{m:Mem}(hm:nF m){c:Int}(hc:0<=c/\c<=2):(I9 m c=(m,-1))\/0<=(I9 m c).2/\aQP m (I9 m c).1 (I9 m c).2:=by
 obtain⟨hcnt,h3,h9,h1,_⟩:=nF.facts hm
 have hs:=hm.1.1.1
 unfold I9
 by_cases q:Z7 m.aC=6
 ·left;rw [if_pos q]
 right
 rw [if_neg q]
 obtain⟨hp,hun⟩:=aYD hs q
 generalize Z7 m.aC=p at hp hun
 obtain⟨a,b,d,e⟩:=W5.a2Q hm.1.1 hp (by omega) hc
 have hpp:0 < bS c:=gK.2 hc
 have hp4:=mP c
 have hk:c.toNat < m.aB.Global.length:=by omega
 have hcons:gS p (bS c).toNat=(p:Int) * 4 :: (gS p (bS c).toNat).drop 1:=by
  have:0 < (gS p (bS c).toNat).length:=by rw [L4];omega
  have h0:=y6 this
  rw [FW] at h0
  have e0:(gS p (bS c).toNat)[0]=(p:Int) * 4:=by simp [gS]
  rw [e0] at h0;exact h0
 have hnd:=aOB p (bS c).toNat
 rw [hcons,WA] at hnd
 have hxs:∀t,t∈(gS p (bS c).toNat).drop 1↔∃i,i < (bS c).toNat/\t=(p:Int) * 4+(i:Nat)/\i≠0:=fun t=>by
  constructor
  ·intro h
   obtain⟨i,hi,rfl⟩:=aX7 (List.mem_of_mem_drop h)
   refine⟨i,hi,rfl,fun z=>hnd.1 ?_⟩
   subst z;simpa using h
  ·rintro⟨i,hi,rfl,i0⟩
   have hmem:(p:Int) * 4+(i:Nat)∈gS p (bS c).toNat:=by simp only [gS,DD,S9];exact⟨i,hi,rfl⟩
   rw [hcons] at hmem
   rcases fA.1 hmem with h | h
   ·omega
   ·exact h
 generalize (gS p (bS c).toNat).drop 1=xs at hnd hxs
 have hmem:∀t,t∈dJ ⟨m.aB.Global.set c.toNat ⟨dS m.aB.Global c.toNat++xs⟩,m.aB.Own⟩↔t∈dJ m.aB\/t∈xs:=fun t=>by
  unfold dJ;rw [<-dK hk];simp only [e9,FL hk];rw [or_right_comm]
 have hno:∀i,i < (bS c).toNat->¬0<=aW m.aC ((p:Int) * 4+(i:Nat)):=fun i hi z=>(d _ z).1 (by omega)
 have e0:=e 0 (by omega)
 rw [show(p:Int) * 4+((0:Nat):Int)=(p:Int) * 4 by omega] at e0
 have hno0:=hno 0 (by omega)
 rw [show(p:Int) * 4+((0:Nat):Int)=(p:Int) * 4 by omega] at hno0
 have bts:=fun j=>(aX5 hm.1.1.1.1 hp hc (bS c).toNat (by omega) j).1
 have hbl:=LZ m.aC.Bytes p c (bS c).toNat
 refine⟨by simp only;omega,fun z=>hno0 (iA.1 z).1,iA.2 ⟨by simp only [e0.1];exact hc.1,fun z=>?_,by simp only [e0.2];omega⟩,by simp only [e0.2];omega,fun t ht=>?_,fun t ht=>?_⟩
 ·rcases(hmem _).1 z with y | y
  ·exact hno0 (nF.pM hm y).1
  ·exact hnd.1 y
 ·rw [iA,iA]
  simp only at ht
  by_cases z:0<=aW m.aC t
  ·obtain⟨z1,z2⟩:=d t z
   have zx:t∉xs:=fun y=>by obtain⟨i,hi,rfl,_⟩:=(hxs t).1 y;exact hno i hi z
   have:t∈dJ (⟨m.aB.Global.set c.toNat ⟨dS m.aB.Global c.toNat++xs⟩,m.aB.Own⟩:aB)↔t∈dJ m.aB:=by rw [hmem];exact⟨fun y=>y.elim id fun y=>absurd y zx,.inl⟩
   simp only [this,b t z1,z2]
  ·refine⟨fun y=>?_,fun y=>absurd y.1 z⟩
   exfalso
   obtain⟨y1,y2,y3⟩:=y
   by_cases zp:(t / 4).toNat=p
   ·obtain⟨r1,r2,r3⟩:=qH y1
    rw [zp,U3 hs hp,if_pos rfl] at r2
    exact y2 ((hmem t).2 (.inr ((hxs t).2 ⟨(t % 4).toNat,by omega,by omega,by omega⟩)))
   ·simp only at y1
    rw [b t zp] at y1;exact z y1
 ·have ht':=iA.1 ht
  obtain⟨z1,z2⟩:=d t ht'.1
  refine⟨z2,?_⟩
  obtain⟨p',i',p6',hi',es',ec',eo',ep'⟩:=nG ht'.1
  have hend:=VB ht'.1
  have hz':=uO hs p6' rfl hi'
  have room:8+i' * (aS (bQ m.aC p')).toNat+8<=64:=by
   have hcl:0<=bQ m.aC p'/\bQ m.aC p'<=2:=gK.1 (by omega)
   generalize bQ m.aC p'=c' at hi' hcl
   rcases eX hcl with rfl | rfl | rfl
   ·rw [show(bS 0).toNat=4 from rfl] at hi';rw [show(aS 0).toNat=12 from rfl];omega
   ·rw [show(bS 1).toNat=2 from rfl] at hi';rw [show(aS 1).toNat=20 from rfl];omega
   ·rw [show(bS 2).toNat=1 from rfl] at hi';rw [show(aS 2).toNat=44 from rfl];omega
  unfold vK
  simp only
  rw [b t z1]
  exact KO (by omega) hbl fun j j1 j2=>bts j (by omega)
structure aYX (b:aA) (r:aA×Sub) (s:Sub):Prop where
 clock:r.1.aD=b.aD
 a8O:r.1.aO=b.aO
 haz:r.1.l7=b.l7
 two:r.1.Mem=b.Mem/\(r.2.cZ=true/\r.2.Code≠0\/r.2.cZ=false/\r.2.Kind=1/\0<=r.2.Pc/\r.2.Pc<=3) \/
  r.2.cZ=true/\r.2.Code=0/\jN r.2.Out/\hC r.1.Mem r.2.Out/\aQP b.Mem r.1.Mem (r.2.Out % 32)
theorem a1V{b:aA}(hm:nF b.Mem){w:Int}(hw:0<=w/\w<=2){s:Sub}(hk:s.Kind=1)(hd:s.cZ=false)(hp:0<=s.Pc/\s.Pc<=3):aYX b (gJ b w s) s:=by
 have hr:=aHL s.A
 have e:gJ b w s=X7 b w s:=by unfold gJ;simp [hk,hd]
 rw [e]
 have fin:∀p:Mem×Int,(p=(b.Mem,-1)\/0<=p.2/\aQP b.Mem p.1 p.2)->aYX b (OM b s p) s:=fun p h=>by
  unfold OM
  rcases h with rfl | ⟨h0,h1⟩
  ·rw [if_neg (by simp)]
   split
   ·exact⟨rfl,rfl,rfl,.inl ⟨rfl,.inl ⟨rfl,by simp [CM]⟩⟩⟩
   ·exact⟨rfl,rfl,rfl,.inl ⟨rfl,.inr ⟨hd,hk,by simp only;omega,by simp only;omega⟩⟩⟩
  ·rw [if_pos h0]
   have h23:=(qH (iA.1 h1.now).1).1
   have eh:aQH p.1 p.2=iP p.1.aC p.2 * 32+p.2:=if_pos h1.gen
   have hg:=h1.gen
   have e1:aQH p.1 p.2 % 32=p.2:=by omega
   have e2:aQH p.1 p.2 / 32=iP p.1.aC p.2:=by omega
   have hn:jN (aQH p.1 p.2):=by unfold jN;omega
   refine⟨rfl,rfl,rfl,.inr ⟨rfl,rfl,hn,⟨hn,?_,?_⟩,?_⟩⟩
   ·simp only [CM];rw [e1];exact h1.now
   ·simp only [CM];rw [e1,e2]
   ·simp only [CM];rw [e1];exact h1
 unfold X7
 by_cases c0:y4 s.A < 0
 ·rw [if_pos c0]
  exact⟨rfl,rfl,rfl,.inl ⟨rfl,.inl ⟨rfl,by simp [CM]⟩⟩⟩
 rw [if_neg c0]
 have hc:0<=y4 s.A/\y4 s.A<=2:=by omega
 split
 ·exact fin _ (aME hm hw hc)
 split
 ·exact fin _ (aJI hm hc)
 split
 ·exact fin _ (aQQ hm hc)
 ·omega
end Go.Gv
end
noncomputable section
namespace Go.Gv
def DB(j:bE):Int:=if j.Op.Kind=1 then (if j.Pc=1\/j.Pc=2 then j.H else if j.Pc=3 then j.Old else 0) else 0
def nm(c:List Int)(J:Int->bE)(i:Int):Int:=if i < 2 then cellAt c i else DB (J (i - 2))
structure Ow (b:aA) (N:Int->Int):Prop where
 live:∀i,0<=i/\i<=4->N i≠0->hC b.Mem (N i)/\¬CK b.aO (N i % 32)
 once:∀i j,0<=i/\i<=4->0<=j/\j<=4->N i≠0->N i=N j->i=j
 all:∀t,dU b.Mem t=3->¬CK b.aO t->∃i,(0<=i/\i<=4)/\N i≠0/\N i % 32=t
theorem aAC{m:Mem}{h g:Int}(a:hC m h)(b:hC m g)(e:h % 32=g % 32):h=g:=by
 have h1:=a.2.2
 have h2:=b.2.2
 rw [e] at h1
 omega
theorem Ow.perm{b b':aA}{N N':Int->Int}(h:Ow b N)(hm:b'.Mem=b.Mem)(hl:b'.aO=b.aO)(σ:Int->Int)(hr:∀i,0<=i/\i<=4->0<=σ i/\σ i<=4)(hi:∀i,σ (σ i)=i)(he:∀i,0<=i/\i<=4->N' i=N (σ i)):Ow b' N':=by
 refine⟨fun i hi' hn=>?_,fun i j hi' hj' hn e=>?_,fun t ht hh=>?_⟩
 ·rw [he i hi'] at hn ⊢
  rw [hm,hl]
  exact h.live _ (hr i hi') hn
 ·rw [he i hi'] at hn
  rw [he i hi',he j hj'] at e
  have:=h.once _ _ (hr i hi') (hr j hj') hn e
  rw [<-hi i,this,hi]
 ·rw [hm] at ht
  rw [hl] at hh
  obtain⟨i,a,b,c⟩:=h.all t ht hh
  exact⟨σ i,hr i a,by rw [he _ (hr i a),hi];exact b,by rw [he _ (hr i a),hi];exact c⟩
theorem Ow.congr{b b':aA}{N N':Int->Int}(h:Ow b N)(hm:b'.Mem=b.Mem)(hl:b'.aO=b.aO)(he:∀i,0<=i/\i<=4->N' i=N i):Ow b' N':=h.perm hm hl id (fun _ h=>h) (fun _=>rfl) he
noncomputable section
variable {b b':aA} {N N':Int->Int} (h:Ow b N)
include h
theorem Ow.a74(hb:mC b)(hl:b'.aO=b.aO){H:Int}(ht:aQP b.Mem b'.Mem (H % 32))(hv:hC b'.Mem H){i:Int}(hi:0<=i/\i<=4)(h0:N i=0)(hN:N' i=H)(ho:∀j,0<=j/\j<=4->j≠i->N' j=N j):Ow b' N':=by
 have nh:¬CK b.aO (H % 32):=fun⟨r,r1,r2,r3⟩=>ht.was (by rw [<-r3];exact(hb.2 r r1).1.2.1)
 have ne:∀j,0<=j/\j<=4->N j≠0->N j % 32≠H % 32:=fun j hj hn e=>ht.was (by rw [<-e];exact(h.live j hj hn).1.2.1)
 have keep:∀g,hC b.Mem g->hC b'.Mem g:=fun g hg=>by
  have e:g % 32≠H % 32:=fun e=>ht.was (by rw [<-e];exact hg.2.1)
  exact⟨hg.1,(ht.rest _ e).2 hg.2.1,by rw [(ht.same _ hg.2.1).1];exact hg.2.2⟩
 refine⟨fun j hj hn=>?_,fun j k hj hk hn e=>?_,fun t hs hh=>?_⟩
 ·by_cases q:j=i
  ·subst q;rw [hN,hl];exact⟨hv,nh⟩
  ·rw [ho j hj q] at hn ⊢
   rw [hl]
   exact⟨keep _ (h.live j hj hn).1,(h.live j hj hn).2⟩
 ·by_cases q:j=i
  ·by_cases q2:k=i
   ·rw [q,q2]
   ·rw [q,hN,ho k hk q2] at e
    exact absurd (by rw [e]) (ne k hk (by rw [<-e];intro z;rw [q,hN] at hn;exact hn z))
  ·by_cases q2:k=i
   ·rw [q2,hN,ho j hj q] at e
    rw [ho j hj q] at hn
    exact absurd (by rw [e]) (ne j hj hn)
   ·rw [ho j hj q] at hn
    rw [ho j hj q,ho k hk q2] at e
    exact h.once j k hj hk hn e
 ·by_cases q:t=H % 32
  ·exact⟨i,hi,by rw [hN];have:=hv.1;unfold jN at this;omega,by rw [hN,q]⟩
  ·rw [hl] at hh
   obtain⟨j,j1,j2,j3⟩:=h.all t ((ht.rest t q).1 hs) hh
   have:j≠i:=fun e=>by rw [e,h0] at j2;exact j2 rfl
   exact⟨j,j1,by rw [ho j j1 this];exact j2,by rw [ho j j1 this];exact j3⟩
theorem Ow.retired(hm:b'.Mem=b.Mem){i:Int}(hi:0<=i/\i<=4)(hn:N i≠0)(hl:∀t,CK b'.aO t↔CK b.aO t\/t=N i % 32)(hN:N' i=0)(ho:∀j,0<=j/\j<=4->j≠i->N' j=N j):Ow b' N':=by
 have hiL:=(h.live i hi hn).1
 refine⟨fun j hj hjn=>?_,fun j k hj hk hjn e=>?_,fun t hs hh=>?_⟩
 ·have q:j≠i:=fun e=>hjn (by rw [e,hN])
  rw [ho j hj q] at hjn ⊢
  rw [hm,hl]
  obtain⟨a,b⟩:=h.live j hj hjn
  refine⟨a,fun z=>z.elim b fun z=>q (h.once j i hj hi hjn (aAC a hiL z))⟩
 ·have q:j≠i:=fun e=>hjn (by rw [e,hN])
  have q2:k≠i:=fun e'=>by rw [e',hN] at e;exact hjn e
  rw [ho j hj q] at hjn
  rw [ho j hj q,ho k hk q2] at e
  exact h.once j k hj hk hjn e
 ·rw [hm] at hs
  rw [hl] at hh
  obtain⟨j,j1,j2,j3⟩:=h.all t hs (fun z=>hh (.inl z))
  have:j≠i:=fun e=>hh (.inr (by rw [<-j3,e]))
  exact⟨j,j1,by rw [ho j j1 this];exact j2,by rw [ho j j1 this];exact j3⟩
theorem Ow.a6W{x:Int}(hx:CK b.aO x)(h3:dU b'.Mem x≠3)(hs:∀t,t≠x->dU b'.Mem t=dU b.Mem t)(hg:∀t,t≠x->dU b.Mem t=3->iP b'.Mem.aC t=iP b.Mem.aC t)(hl:∀t,t≠x->(CK b'.aO t↔CK b.aO t))(he:∀i,0<=i/\i<=4->N' i=N i):Ow b' N':=by
 refine⟨fun i hi hn=>?_,fun i j hi hj hn e=>?_,fun t ht hh=>?_⟩
 ·rw [he i hi] at hn ⊢
  obtain⟨a,c⟩:=h.live i hi hn
  have q:N i % 32≠x:=fun e=>c (by rw [e];exact hx)
  exact⟨⟨a.1,by rw [hs _ q];exact a.2.1,by rw [hg _ q a.2.1];exact a.2.2⟩,by rw [hl _ q];exact c⟩
 ·rw [he i hi] at hn
  rw [he i hi,he j hj] at e
  exact h.once i j hi hj hn e
 ·have q:t≠x:=fun e=>h3 (by rw [<-e];exact ht)
  rw [hs t q] at ht
  rw [hl t q] at hh
  obtain⟨i,a,c,d⟩:=h.all t ht hh
  exact⟨i,a,by rw [he i a];exact c,by rw [he i a];exact d⟩
end
def zEw:Ev:=⟨0,0,0,0,0,0,0⟩
def swp(L:List Ev)(k:Int):Ev:=L.foldl (fun a e=>if e.Kind=2/\e.Cell=k then e else a) zEw
theorem aAD(L:List Ev)(e:Ev)(k:Int):swp (L ++ [e]) k=if e.Kind=2/\e.Cell=k then e else swp L k:=by
 unfold swp;rw [List.foldl_append];rfl
def rdS(n:Int)(a:(Int->Ev)×Option (Ev×Ev))(e:Ev):(Int->Ev)×Option (Ev×Ev):=(fun k=>if e.Kind=2/\e.Cell=k then e else a.1 k,if e.Kind=3/\e.aI=n then some (e,a.1 e.Cell) else a.2)
def rdx(L:List Ev)(n:Int):Option (Ev×Ev):=(L.foldl (rdS n) (fun _=>zEw,none)).2
theorem a4W(L:List Ev)(n:Int)(k:Int):(L.foldl (rdS n) (fun _=>zEw,none)).1 k=swp L k:=by
 have:∀(L:List Ev) a,(L.foldl (rdS n) a).1 k=L.foldl (fun a e=>if e.Kind=2/\e.Cell=k then e else a) (a.1 k):=by
  intro L
  induction L with
  | nil=>intro a;rfl
  | cons e L ih=>intro a;rw [V8,V8,ih];rfl
 exact this L _
theorem V1(L:List Ev)(e:Ev)(n:Int):rdx (L ++ [e]) n=if e.Kind=3/\e.aI=n then some (e,swp L e.Cell) else rdx L n:=by
 unfold rdx
 rw [List.foldl_append,V8,List.foldl_nil]
 show(if e.Kind=3/\e.aI=n then some (e,(L.foldl (rdS n) (fun _=>zEw,none)).1 e.Cell) else _)=_
 rw [a4W]
theorem a1W{L:List Ev}{n:Int}(h:∀e∈L,e.aI≠n):rdx L n=none:=by
 have:∀(L:List Ev) a,(∀e∈L,e.aI≠n)->(L.foldl (rdS n) a).2=a.2:=by
  intro L
  induction L with
  | nil=>intro a _;rfl
  | cons e L ih =>
   intro a h
   rw [V8,ih _ fun x hx=>h x (j9 _ hx)]
   exact if_neg fun q=>h e (MM ..) q.2
 exact this L _ h
def Told(o:Option (Ev×Ev))(code val:Int):Prop:=(code=0->∃e x,o=some (e,x)/\x.Handle≠0/\x.Handle=e.Handle/\x.dQ=val)/\(code=8->∃e x,o=some (e,x)/\x.Handle=0/\e.Handle=0)
theorem Told.other{o:Option (Ev×Ev)}{code val:Int}(h0:code≠0)(h8:code≠8):Told o code val:=⟨fun q=>absurd q h0,fun q=>absurd q h8⟩
def TrL(L:List Ev):Prop:=∀M e N,L=M++e :: N->e.Kind=4->rdx M e.aI≠none->Told (rdx M e.aI) e.Code e.dQ
theorem TrL.snoc{L:List Ev}(h:TrL L){e:Ev}(he:e.Kind=4->rdx L e.aI≠none->Told (rdx L e.aI) e.Code e.dQ):TrL (L ++ [e]):=by
 intro M x N hx hk hr
 rcases YD N with rfl | ⟨N',y,rfl⟩
 ·have:=List.append_inj' hx (by rfl)
  obtain⟨rfl,q⟩:=this
  injection q with q
  subst q
  exact he hk hr
 ·have e1:M++x :: (N'.concat y)=(M++x :: N') ++ [y]:=by simp
  rw [e1] at hx
  have:=List.append_inj' hx (by rfl)
  exact h M x N' this.1 hk hr
def rN(b:aA)(c:List Int)(J:Int->bE)(e H:Int):Prop:=(∃k,(0<=k/\k<=1)/\cellAt c k=H)\/(∃v,(0<=v/\v<=2)/\(J v).Op.Kind=1/\(J v).Pc=3/\(J v).Old=H/\((J v).Sub.Pc=0\/e<=(J v).Sub.E))\/∃r∈bH b.aO,r.Handle=H/\e<=r.aJ
def UnJ(j:bE)(v H:Int):Prop:=j.Op.Kind=4->j.Pc=1->j.Sub.H=H->(j.Sub.Pc=2->j.Sub.B<=v)/\j.Sub.Pc≠3
def RM(J:Int->bE)(v H:Int):Prop:=∀a,0<=a/\a<=2->UnJ (J a) v H
def a4Y(b:aA)(old:Int)(s:Sub):Prop:=s.Kind=2/\s.cZ=false/\s.A=old/\(s.Pc=0\/s.Pc=1/\0<=s.E/\s.E<=b.aD.aJ)
def a4Z(e:Int)(l:List dA)(s:Sub):Prop:=s.Kind=4/\s.cZ=false/\(s.Pc=0\/s.E<=e/\(s.Pc=1/\0<=s.Row\/s.Pc=2/\(0<=s.B/\s.B<=2)/\IN l s/\FO (JA l s.Row) s.E\/s.Pc=3/\IN l s/\FO (JA l s.Row) s.E))
def aYZ(j:bE):Prop:=j.Op.Kind=2/\(j.Pc=2\/j.Pc=3)\/j.Op.Kind=7/\(j.Pc=1\/j.Pc=2)
def aHW(j:bE):Prop:=j.Op.Kind=2/\j.Pc=3\/j.Op.Kind=7/\j.Pc=2
def Reads(j:bE):Prop:=j.Op.Kind=2\/j.Op.Kind=3\/j.Op.Kind=7
def Saw(o:Option (Ev×Ev))(H:Int)(x:Ev):Prop:=∃e,o=some (e,x)/\e.Handle=H/\x.Handle=H/\H≠0
def Pinned(c:aD)(v:Int):Prop:=(bX c v).On=true/\(bX c v).dB=false
structure Jv (b:aA) (c:List Int) (J:Int->bE) (o:Option (Ev×Ev)) (v:Int) (j:bE):Prop where
 idle:j.eT=false->j.Op.Kind=0
 s0:j.Op.Kind=1->j.Pc=0->j.Sub.Kind=1/\j.Sub.cZ=false/\0<=j.Sub.Pc/\j.Sub.Pc<=3
 s1:j.Op.Kind=1->j.Pc=1\/j.Pc=2->j.H≠0
 s2:j.Op.Kind=1->j.Pc=2->vK b.Mem.aC (j.H % 32)=j.Op.dQ
 s3:j.Op.Kind=1->j.Pc=3->j.Old≠0/\a4Y b j.Old j.Sub
 k:j.Op.Kind=4->j.Pc=1->a4Z b.aD.aJ (dC b.aO v) j.Sub
 g:aYZ j->Pinned b.aD v->rN b c J (bX b.aD v).aJ j.H/\∃x,Saw o j.H x/\(¬aHW j->vK b.Mem.aC (j.H % 32)=x.dQ)/\(aHW j->j.dQ=x.dQ)
 z1:j.Op.Kind=3->j.Pc=1\/j.Pc=2\/j.Pc=3->j.H≠0
 z2:j.Op.Kind=3->j.Pc=2\/j.Pc=3->rK b.l7 v=j.H
 z3:j.Op.Kind=3->j.Pc=3->rN b c J 0 j.H/\RM J v j.H/\∃x,Saw o j.H x/\vK b.Mem.aC (j.H % 32)=x.dQ
 t:Reads j->j.Pc=9\/j.Pc=4->Told o j.Code j.dQ
 n:j.eT=true->¬Reads j->o=none
structure Frm (b b':aA) (c c':List Int) (J J':Int->bE) (v:Int) (j:bE):Prop where
 ep:b.aD.aJ<=b'.aD.aJ
 rows:dC b'.aO v=dC b.aO v
 pin:Pinned b'.aD v->Pinned b.aD v/\(bX b'.aD v).aJ=(bX b.aD v).aJ
 haz:rK b'.l7 v=rK b.l7 v
 safe:∀e H,H≠0->e<=b.aD.aJ->(b.aD.aJ<=e+1\/∃u,(0<=u/\u<=2)/\RM J u H)->rN b c J e H->rN b' c' J' e H
 unp:rK b.l7 v=j.H->RM J v j.H->RM J' v j.H
 a62:∀e H,rN b c J e H->H≠0->vK b'.Mem.aC (H % 32)=vK b.Mem.aC (H % 32)
 a79:DB j≠0->vK b'.Mem.aC (DB j % 32)=vK b.Mem.aC (DB j % 32)
theorem Jv.frame{b b':aA}{c c':List Int}{J J':Int->bE}{o o':Option (Ev×Ev)}{v:Int}{j:bE}(hv:0<=v/\v<=2)(h:Jv b c J o v j)(hc:LU b.aD)(he:aYZ j->Pinned b.aD v->b.aD.aJ<=(bX b.aD v).aJ+1)
  (f:Frm b b' c c' J J' v j) (ho:j.eT=true->o'=o):Jv b' c' J' o' v j:=by
 have busy:j.Op.Kind≠0->o'=o:=fun q=>ho (by cases hb:j.eT with
  | true=>rfl
  | false=>exact absurd (h.idle hb) q)
 have hpe:=(U6 hc hv).1
 refine⟨h.idle,h.s0,h.s1,fun k p=>?_,fun k p=>?_,fun k p=>?_,fun g p=>?_,h.z1,fun k p=>?_,fun k p=>?_,fun r p=>?_,fun bb r=>?_⟩
 ·have e:DB j=j.H:=by unfold DB;rw [if_pos k,if_pos (.inr p)]
  have:=f.a79 (by rw [e];exact h.s1 k (.inr p))
  rw [e] at this
  rw [this];exact h.s2 k p
 ·obtain⟨a,q1,q2,q3,q4⟩:=h.s3 k p
  exact⟨a,q1,q2,q3,q4.imp id fun z=>⟨z.1,z.2.1,Int.le_trans z.2.2 f.ep⟩⟩
 ·obtain⟨q1,q2,q3⟩:=h.k k p
  rw [f.rows]
  exact⟨q1,q2,q3.imp id fun z=>⟨Int.le_trans z.1 f.ep,z.2⟩⟩
 ·obtain⟨p1,p2⟩:=f.pin p
  obtain⟨s,x,x1,x2,x3⟩:=h.g g p1
  have hk:j.Op.Kind≠0:=by rcases g with g | g <;> omega
  rw [p2,busy hk]
  have h0:=x1.choose_spec.2.2.2
  refine⟨f.safe _ _ h0 hpe.2 (.inl (he g p1)) s,x,x1,fun l=>?_,x3⟩
  rw [f.a62 _ _ s h0];exact x2 l
 ·rw [f.haz];exact h.z2 k p
 ·obtain⟨s,u,x,x1,x2⟩:=h.z3 k p
  rw [busy (by omega)]
  have h0:=x1.choose_spec.2.2.2
  refine⟨f.safe _ _ h0 hc.1.1 (.inr ⟨v,hv,u⟩) s,f.unp (h.z2 k (.inr p)) u,x,x1,?_⟩
  rw [f.a62 _ _ s h0];exact x2
 ·rw [busy (by unfold Reads at r;omega)];exact h.t r p
 ·rw [ho bb];exact h.n bb r
structure Sv (b:aA) (c:List Int) (J:Int->bE) (L:List Ev) (n:Int):Prop where
 ow:Ow b (nm c J)
 cv:∀k,0<=k/\k<=1->(swp L k).Handle=cellAt c k/\(cellAt c k≠0->vK b.Mem.aC (cellAt c k % 32)=(swp L k).dQ)
 jv:∀v,0<=v/\v<=2->Jv b c J (rdx L (J v).aI) v (J v)
 tr:TrL L
 se:(∀e∈L,e.aI<=n)/\(∀v,0<=v/\v<=2->(J v).eT=true->(J v).aI<=n)/\∀v u,0<=v/\v<=2->0<=u/\u<=2->(J v).eT=true->(J u).eT=true->v≠u->(J v).aI≠(J u).aI
theorem kO(c:List Int)(J:Int->bE){k:Int}(hk:0<=k/\k<=1):nm c J k=cellAt c k:=by unfold nm;rw [if_pos (by omega)]
theorem fN(c:List Int)(J:Int->bE){v:Int}(hv:0<=v/\v<=2):nm c J (v+2)=DB (J v):=by unfold nm;rw [if_neg (by omega)];congr 2;omega
theorem aHX{i:Int}(hi:0<=i/\i<=4):(0<=i/\i<=1)\/∃v,(0<=v/\v<=2)/\i=v+2:=by
 by_cases h:i<=1
 ·exact .inl ⟨hi.1,h⟩
 ·exact .inr ⟨i - 2,by omega,by omega⟩
theorem aSQ{l:List bC}{r:dA}(hr:r∈bH l)(hh:jN r.Handle):CK l (r.Handle % 32):=⟨r,hr,hh,rfl⟩
theorem rN.live{b:aA}{c:List Int}{J:Int->bE}(hb:mC b)(ho:Ow b (nm c J)){e H:Int}(h:rN b c J e H)(h0:H≠0):hC b.Mem H:=by
 rcases h with ⟨k,hk,q⟩ | ⟨v,hv,k1,p3,q,_⟩ | ⟨r,hr,q,_⟩
 ·have:=ho.live k (by omega) (by rw [kO c J hk,q];exact h0)
  rw [kO c J hk,q] at this;exact this.1
 ·have en:DB (J v)=H:=by unfold DB;rw [if_pos k1,if_neg (by omega),if_pos p3,q]
  have:=ho.live (v+2) (by omega) (by rw [fN c J hv,en];exact h0)
  rw [fN c J hv,en] at this;exact this.1
 ·rw [<-q];exact(hb.2 r hr).1
theorem rN.apart{b:aA}{c:List Int}{J:Int->bE}(hb:mC b)(ho:Ow b (nm c J)){e H:Int}(h:rN b c J e H)(h0:H≠0){w:Int}(hw:0<=w/\w<=2)(hk:(J w).Op.Kind=1)(hp:(J w).Pc=1\/(J w).Pc=2)(hn:(J w).H≠0):H % 32≠(J w).H % 32:=by
 intro z
 have ew:DB (J w)=(J w).H:=by unfold DB;rw [if_pos hk,if_pos hp]
 have lw:=ho.live (w+2) (by omega) (by rw [fN c J hw,ew];exact hn)
 rw [fN c J hw,ew] at lw
 have e2:=aAC (h.live hb ho h0) lw.1 z
 rcases h with ⟨k,hk',q⟩ | ⟨v,hv,k1,p3,q,_⟩ | ⟨r,hr,q,_⟩
 ·have:=ho.once k (w+2) (by omega) (by omega) (by rw [kO c J hk',q];exact h0) (by rw [kO c J hk',q,fN c J hw,ew,e2])
  omega
 ·have en:DB (J v)=H:=by unfold DB;rw [if_pos k1,if_neg (by omega),if_pos p3,q]
  have:=ho.once (v+2) (w+2) (by omega) (by omega) (by rw [fN c J hv,en];exact h0) (by rw [fN c J hv,en,fN c J hw,ew,e2])
  have:v=w:=by omega
  subst this;omega
 ·apply lw.2
  rw [<-z,<-q]
  exact aSQ hr (hb.2 r hr).1.1
end Go.Gv
end
noncomputable section
namespace Go.Gv
noncomputable section
variable {b:aA} {c:List Int} {J:Int->bE} {L:List Ev} {n:Int} (h:Sv b c J L n) (hb:mC b) (hep:Ep b.aD J) {w:Int} (hw:0<=w/\w<=2)
include h hb hep hw
theorem Sv.make{b':aA}{c':List Int}{j':bE}{L':List Ev}{n':Int}(ow':Ow b' (nm c' (OQ J w j')))
  (cv':∀k,0<=k/\k<=1->(swp L' k).Handle=cellAt c' k/\(cellAt c' k≠0->vK b'.Mem.aC (cellAt c' k % 32)=(swp L' k).dQ))
  (fr:∀v,0<=v/\v<=2->v≠w->Frm b b' c c' J (OQ J w j') v (J v)) (jw:Jv b' c' (OQ J w j') (rdx L' j'.aI) w j')
  (rd:∀m,((J w).eT=true->m≠(J w).aI)->rdx L' m=rdx L m) (tr:TrL L') (se:∀e∈L',e.aI<=n') (hn:n<=n')
  (js:j'.eT=true->j'.aI<=n'/\(j'.aI=(J w).aI/\(J w).eT=true\/n < j'.aI)):Sv b' c' (OQ J w j') L' n':=by
 refine⟨ow',cv',fun v hv=>?_,tr,se,fun v hv hbv=>?_,fun v u hv hu hbv hbu hvu=>?_⟩
 ·by_cases q:v=w
  ·subst q;rw [gE];exact jw
  ·rw [eQ _ _ q]
   refine(h.jv v hv).frame hv hb.1.2.1 (fun g p=>(hep.2 v hv (fun z=>?_) p.1 p.2).1) (fr v hv q) fun bv=>rd _ fun bw=>h.se.2.2 v w hv hw bv bw q
   have:=z.2.2
   rcases g with g | g <;> omega
 ·by_cases q:v=w
  ·subst q;rw [gE] at hbv ⊢;exact(js hbv).1
  ·rw [eQ _ _ q] at hbv ⊢
   exact Int.le_trans (h.se.2.1 v hv hbv) hn
 ·have key:∀u,0<=u/\u<=2->(J u).eT=true->u≠w->j'.eT=true->j'.aI≠(J u).aI:=fun u hu bu q bw=>by
   rcases(js bw).2 with ⟨a1,a2⟩ | a
   ·rw [a1];exact h.se.2.2 w u hw hu a2 bu (fun z=>q z.symm)
   ·have:=h.se.2.1 u hu bu;omega
  by_cases q:v=w
  ·subst q
   rw [gE] at hbv ⊢
   rw [eQ _ _ (fun z=>hvu z.symm)] at hbu ⊢
   exact key u hu hbu (fun z=>hvu z.symm) hbv
  ·rw [eQ _ _ q] at hbv ⊢
   by_cases q2:u=w
   ·subst q2
    rw [gE] at hbu ⊢
    exact fun z=>key v hv hbv q hbu z.symm
   ·rw [eQ _ _ q2] at hbu ⊢
    exact h.se.2.2 v u hv hu hbv hbu hvu
omit h hb hep in
theorem IQ{c':List Int}{j':bE}{i:Int}(hi:0<=i/\i<=4)(q:i≠w+2)(hc:∀k,0<=k/\k<=1->i=k->cellAt c' k=cellAt c k):nm c' (OQ J w j') i=nm c J i:=by
 rcases aHX hi with hk | ⟨v,hv,rfl⟩
 ·rw [kO _ _ hk,kO _ _ hk];exact hc i hk rfl
 ·rw [fN _ _ hv,fN _ _ hv,eQ _ _ (by omega)]
structure Qt (b b':aA) (J:Int->bE) (w:Int) (j':bE):Prop where
 mem:b'.Mem=b.Mem
 lim:b'.aO=b.aO
 ep:b.aD.aJ<=b'.aD.aJ
 pin:∀v,0<=v/\v<=2->v≠w->Pinned b'.aD v->Pinned b.aD v/\(bX b'.aD v).aJ=(bX b.aD v).aJ
 haz:∀v,0<=v/\v<=2->v≠w->rK b'.l7 v=rK b.l7 v
 name:DB j'=DB (J w)
 old:(J w).Op.Kind=1->(J w).Pc=3->j'.Op.Kind=1/\j'.Pc=3/\j'.Old=(J w).Old/\(j'.Sub.Pc=0\/j'.Sub.E=(J w).Sub.E/\(J w).Sub.Pc≠0\/b.aD.aJ<=j'.Sub.E)
 col:∀v,0<=v/\v<=2->∀H,rK b.l7 v=H->UnJ (J w) v H->UnJ j' v H
omit h hb hep in
theorem Qt.safe{b':aA}{j':bE}(q:Qt b b' J w j'){e H:Int}(he:e<=b.aD.aJ)(s:rN b c J e H):rN b' c (OQ J w j') e H:=by
 rcases s with s | ⟨v,hv,k1,p3,o,s⟩ | s
 ·exact .inl s
 ·refine .inr (.inl ⟨v,hv,?_⟩)
  by_cases z:v=w
  ·subst z
   rw [gE]
   obtain⟨a1,a2,a3,a4⟩:=q.old k1 p3
   refine⟨a1,a2,by rw [a3];exact o,?_⟩
   rcases a4 with a4 | ⟨a4,a5⟩ | a4
   ·exact .inl a4
   ·rcases s with s | s
    ·exact absurd s a5
    ·exact .inr (by omega)
   ·exact .inr (by omega)
  ·rw [eQ _ _ z];exact⟨k1,p3,o,s⟩
 ·rw [<-q.lim] at s;exact .inr (.inr s)
omit h hb hep in
theorem Qt.frm{b':aA}{j':bE}(q:Qt b b' J w j'){v:Int}(hv:0<=v/\v<=2)(hn:v≠w):Frm b b' c c J (OQ J w j') v (J v):=by
 refine⟨q.ep,by rw [q.lim],q.pin v hv hn,q.haz v hv hn,fun e H _ he _ s=>q.safe hw he s,fun hz u a ha=>?_,fun e H _ _=>by rw [q.mem],fun _=>by rw [q.mem]⟩
 by_cases z:a=w
 ·subst z;rw [gE];exact q.col v hv _ hz (u _ hw)
 ·rw [eQ _ _ z];exact u a ha
theorem Sv.quiet{b':aA}{j':bE}(q:Qt b b' J w j')(hB:(J w).eT=true)(hser:j'.aI=(J w).aI){l:List Ev}(hl:l=[]\/∃x,l=[IP w (J w) x])
  (jw:Jv b' c (OQ J w j') (rdx (L++l) j'.aI) w j'):Sv b' c (OQ J w j') (L++l) n:=by
 have ow':Ow b' (nm c (OQ J w j')):=h.ow.congr q.mem q.lim fun i hi=>by
  by_cases z:i=w+2
  ·subst z;rw [fN _ _ hw,fN _ _ hw,gE,q.name]
  ·exact IQ hw hi z fun _ _ _=>rfl
 have fr:=fun v (hv:0<=v/\v<=2) hn=>q.frm (c:=c) hw hv hn
 have sn:=h.se.2.1 w hw hB
 rcases hl with rfl | ⟨x,rfl⟩
 ·rw [jP] at jw ⊢
  exact h.make hb hep hw ow' (fun k hk=>by rw [q.mem];exact h.cv k hk) fr jw (fun _ _=>rfl) h.tr h.se.1 (uQ _) fun _=>⟨by omega,.inl ⟨hser,hB⟩⟩
 ·have e2:∀k,swp (L ++ [IP w (J w) x]) k=swp L k:=fun k=>by rw [aAD,if_neg (fun z=>by have:=z.1;simp [IP] at this)]
  refine h.make hb hep hw ow' (fun k hk=>by rw [q.mem,e2];exact h.cv k hk) fr jw (fun m hm=>?_) (h.tr.snoc fun z=>by simp [IP] at z) (fun e he=>?_) (uQ _) fun _=>⟨by omega,.inl ⟨hser,hB⟩⟩
  ·rw [V1,if_neg (fun z=>hm hB z.2.symm)]
  ·rcases e9.1 he with z | z
   ·exact h.se.1 e z
   ·rw [YJ.1 z];exact sn
omit h hb hep hw in
theorem V2(j:bE)(x:Int):rdx (L ++ [IP w j x]) j.aI=some (IP w j x,swp L j.Op.Cell):=by
 rw [V1,if_pos ⟨rfl,rfl⟩];rfl
end
noncomputable section
variable {b:aA} {c:List Int} {J:Int->bE} {o:Option (Ev×Ev)} {v:Int} {j:bE} (hb:j.eT=true)
include hb
theorem JB(k:j.Op.Kind=2\/j.Op.Kind=7)(g:aYZ j->Pinned b.aD v->rN b c J (bX b.aD v).aJ j.H/\∃x,Saw o j.H x/\(¬aHW j->vK b.Mem.aC (j.H % 32)=x.dQ)/\(aHW j->j.dQ=x.dQ))(t:j.Pc=9\/j.Pc=4->Told o j.Code j.dQ):Jv b c J o v j:=
 ⟨fun q=>absurd (hb.symm.trans q) (by decide),fun q=>by omega,fun q=>by omega,fun q=>by omega,fun q=>by omega,fun q=>by omega,g,fun q=>by omega,fun q=>by omega,fun q=>by omega,fun _=>t,fun _ r=>absurd (by unfold Reads;omega) r⟩
theorem VC(k:j.Op.Kind=3)(z1:j.Pc=1\/j.Pc=2\/j.Pc=3->j.H≠0)(z2:j.Pc=2\/j.Pc=3->rK b.l7 v=j.H)(z3:j.Pc=3->rN b c J 0 j.H/\RM J v j.H/\∃x,Saw o j.H x/\vK b.Mem.aC (j.H % 32)=x.dQ)(t:j.Pc=9\/j.Pc=4->Told o j.Code j.dQ):Jv b c J o v j:=
 ⟨fun q=>absurd (hb.symm.trans q) (by decide),fun q=>by omega,fun q=>by omega,fun q=>by omega,fun q=>by omega,fun q=>by omega,fun q=>by rcases q with q | q <;> omega,fun _=>z1,fun _=>z2,fun _=>z3,fun _=>t,fun _ r=>absurd (by unfold Reads;omega) r⟩
theorem VD(k:j.Op.Kind=1)(s0:j.Pc=0->j.Sub.Kind=1/\j.Sub.cZ=false/\0<=j.Sub.Pc/\j.Sub.Pc<=3)(s1:j.Pc=1\/j.Pc=2->j.H≠0)(s2:j.Pc=2->vK b.Mem.aC (j.H % 32)=j.Op.dQ)(s3:j.Pc=3->j.Old≠0/\a4Y b j.Old j.Sub)(n:o=none):Jv b c J o v j:=
 ⟨fun q=>absurd (hb.symm.trans q) (by decide),fun _=>s0,fun _=>s1,fun _=>s2,fun _=>s3,fun q=>by omega,fun q=>by rcases q with q | q <;> omega,fun q=>by omega,fun q=>by omega,fun q=>by omega,fun r=>by unfold Reads at r;omega,fun _ _=>n⟩
theorem VE(k:j.Op.Kind=4\/j.Op.Kind=5\/j.Op.Kind=6)(kk:j.Op.Kind=4->j.Pc=1->a4Z b.aD.aJ (dC b.aO v) j.Sub)(n:o=none):Jv b c J o v j:=
 ⟨fun q=>absurd (hb.symm.trans q) (by decide),fun q=>by omega,fun q=>by omega,fun q=>by omega,fun q=>by omega,kk,fun q=>by rcases q with q | q <;> omega,fun q=>by omega,fun q=>by omega,fun q=>by omega,fun r=>by unfold Reads at r;omega,fun _ _=>n⟩
end
theorem KP{j:bE}(h:j.Pc=0\/j.Pc=1/\j.Op.Kind=2\/j.Pc=4\/j.Pc=9):¬aYZ j:=fun g=>by rcases g with g | g <;> omega
theorem RN{j:bE}{v H:Int}(h:j.Op.Kind≠4):UnJ j v H:=fun q=>absurd q h
theorem sV{j:bE}(h:j.Op.Kind≠1):DB j=0:=if_neg h
theorem XF{j:bE}(h1:j.Pc≠1)(h2:j.Pc≠2)(h3:j.Pc≠3):DB j=0:=by
 unfold DB
 split
 ·rw [if_neg (show ¬(j.Pc=1\/j.Pc=2) by omega)]
 ·rfl
theorem aUE{j:bE}(k:j.Op.Kind=1)(p:j.Pc=1\/j.Pc=2):DB j=j.H:=by unfold DB;rw [if_pos k,if_pos p]
theorem nm3{j:bE}(k:j.Op.Kind=1)(p:j.Pc=3):DB j=j.Old:=by unfold DB;rw [if_pos k,if_neg (by omega),if_pos p]
theorem VF{b:aA}{J:Int->bE}{w:Int}{j':bE}(name:DB j'=DB (J w))(old:(J w).Op.Kind≠1\/(J w).Pc≠3)(col:j'.Op.Kind≠4\/j'.Pc≠1):Qt b b J w j':=
 ⟨rfl,rfl,uQ _,fun _ _ _ p=>⟨p,rfl⟩,fun _ _ _=>rfl,name,fun k p=>by omega,fun _ _ _ _ _=>by rcases col with q | q;exact RN q;exact fun _ p=>absurd p q⟩
theorem VG{b:aA}{cl:aD}{J:Int->bE}{w:Int}{j':bE}(ep:b.aD.aJ<=cl.aJ)(pin:∀v,0<=v/\v<=2->v≠w->Pinned cl v->Pinned b.aD v/\(bX cl v).aJ=(bX b.aD v).aJ)(name:DB j'=DB (J w))(old:(J w).Op.Kind≠1\/(J w).Pc≠3)(col:j'.Op.Kind≠4\/j'.Pc≠1\/j'.Sub.Pc=0):Qt b ⟨b.Mem,cl,b.aO,b.l7⟩ J w j':=
 ⟨rfl,rfl,ep,pin,fun _ _ _=>rfl,name,fun k p=>by omega,fun _ _ _ _ _=>by
  rcases col with q | q | q
  ·exact RN q
  ·exact fun _ p=>absurd p q
  ·exact fun _ _ _=>by omega⟩
theorem aY0{b:aA}(hc:LU b.aD){w:Int}(hw:0<=w/\w<=2)(s:Sub):∃cl:aD,(Z8 b w s).1=⟨b.Mem,cl,b.aO,b.l7⟩/\cl.aJ=b.aD.aJ/\∀v,0<=v/\v<=2->v≠w->bX cl v=bX b.aD v:=by
 unfold Z8 RJ
 split
 ·exact⟨_,rfl,rfl,fun _ _ _=>rfl⟩
 split
 ·split
  ·refine⟨⟨b.aD.aJ,b.aD.b9.set w.toNat ⟨true,s.E,false,0⟩⟩,rfl,rfl,fun v hv hn=>by rw [yK hc hw hv,if_neg hn]⟩
  ·exact⟨_,rfl,rfl,fun _ _ _=>rfl⟩
 split
 ·split
  ·exact⟨_,rfl,rfl,fun _ _ _=>rfl⟩
  ·exact⟨_,rfl,rfl,fun _ _ _=>rfl⟩
 ·exact⟨_,rfl,rfl,fun _ _ _=>rfl⟩
theorem aSR{c:aD}(hc:LU c){w:Int}(hw:0<=w/\w<=2):(L9 c w).1.aJ=c.aJ/\∀v,0<=v/\v<=2->v≠w->bX (L9 c w).1 v=bX c v:=by
 unfold L9
 split
 ·exact⟨rfl,fun v hv hn=>by rw [yK hc hw hv,if_neg hn]⟩
 ·exact⟨rfl,fun _ _ _=>rfl⟩
theorem aAE{c c':aD}{v:Int}(h:bX c' v=bX c v)(p:Pinned c' v):Pinned c v/\(bX c' v).aJ=(bX c v).aJ:=by
 unfold Pinned at *;rw [h] at p;exact⟨p,by rw [h]⟩
theorem aQR{b:aA}(hc:LU b.aD)(s:Sub):∃cl:aD,(uD b s).1=⟨b.Mem,cl,b.aO,b.l7⟩/\b.aD.aJ<=cl.aJ/\∀v,0<=v/\v<=2->Pinned cl v->Pinned b.aD v/\(bX cl v).aJ=(bX b.aD v).aJ:=by
 unfold uD
 split
 ·exact⟨_,rfl,uQ _,fun _ _ p=>⟨p,rfl⟩⟩
 split
 ·split
  ·rename_i hB
   obtain⟨l1,l2,_⟩:=aOO hc hB s.E
   have key:b.aD.aJ<=(C7 b.aD s.B s.E).1.aJ/\∀v,0<=v/\v<=2->Pinned (C7 b.aD s.B s.E).1 v->Pinned b.aD v/\(bX (C7 b.aD s.B s.E).1 v).aJ=(bX b.aD v).aJ:=⟨by omega,fun v hv p=>by
    obtain⟨a1,a2,a3⟩:=l2 v hv
    exact⟨⟨by rw [<-a1];exact p.1,a3 p.2⟩,a2⟩⟩
   split <;> exact⟨_,rfl,key.1,key.2⟩
  ·exact⟨_,rfl,uQ _,fun _ _ p=>⟨p,rfl⟩⟩
 split
 ·refine⟨_,rfl,?_,?_⟩
  ·unfold aB3;split
   ·rename_i q;simp only;omega
   ·exact uQ _
  ·intro v hv p
   unfold aB3 at p ⊢
   split
   ·rename_i q
    rw [if_pos q] at p
    exact⟨p,rfl⟩
   ·rename_i q
    rw [if_neg q] at p
    exact⟨p,rfl⟩
 ·exact⟨_,rfl,uQ _,fun _ _ p=>⟨p,rfl⟩⟩
theorem aKI{z:List Int}(hz:KN z){w v:Int}(hw:0<=w/\w<=2)(hv:0<=v/\v<=2){H:Int}(hh:jN H):rK (P3 z w H) v=if v=w then H else rK z v:=by
 have:=hz.1
 unfold P3 rK
 rw [if_pos hh]
 simp only [gR,RO]
 by_cases q:v=w
 ·subst q;simp [show v.toNat < z.length by omega]
 ·rw [if_neg q,if_neg (by omega)]
theorem a1X{z:List Int}(hz:KN z){w v:Int}(hw:0<=w/\w<=2)(hv:0<=v/\v<=2)(hn:v≠w):rK (aBL z w) v=rK z v:=by
 unfold aBL
 split
 ·rfl
 ·unfold rK
  simp only [gR,RO]
  rw [if_neg (by omega)]
theorem aQS{c:List Int}(h2:c.length=2){k i:Int}(hk:0<=k/\k<=1)(hi:0<=i/\i<=1)(x:Int):cellAt (c.set k.toNat x) i=if i=k then x else cellAt c i:=by
 unfold cellAt
 simp only [gR,RO]
 by_cases q:i=k
 ·subst q;simp [show i.toNat < c.length by omega]
 ·rw [if_neg q,if_neg (by omega)]
end Go.Gv
end
noncomputable section
namespace Go.Gv
noncomputable section
variable {s:aG} (hs:DA s) {n:Int} (h:Sv s.aA s.Cells (aL s) s.Log n) (hep:Ep s.aA.aD (aL s)) {w:Int} (hw:0<=w/\w<=2) {j:bE} (hj:aL s w=j) (hb:j.eT=true) (hjk:lR j.Op/\cX j.H/\cX j.Old)
include hs h hep hw hj hb
theorem aHY{pc:Int}(g:aYZ j)(l:aHW j):Told (rdx s.Log j.aI) (rL s.aA.aD w j pc).Code (rL s.aA.aD w j pc).dQ:=by
 unfold rL
 by_cases q:(bX s.aA.aD w).On=true/\(bX s.aA.aD w).dB=false
 ·rw [if_pos q]
  have:=h.jv w hw
  rw [hj] at this
  obtain⟨_,x,⟨e,x1,x2,x3,x4⟩,_,x5⟩:=this.g g q
  refine⟨fun _=>⟨e,x,x1,by rw [x3];exact x4,by rw [x2,x3],(x5 l).symm⟩,fun q=>by simp [dR] at q⟩
 ·rw [if_neg q];exact Told.other (by simp [dR]) (by simp [dR])
theorem aMF{e H:Int}(sa:rN s.aA s.Cells (aL s) e H)(h0:H≠0):aBK s.aA.Mem.aC H=vK s.aA.Mem.aC (H % 32):=by
 have l:=sa.live hs.1 h.ow h0
 exact aYU l.1 (hJ l.2.1)
include hjk
theorem a41(k2:j.Op.Kind=2):Sv (aAA s w j).b (aAA s w j).c (OQ (aL s) w (aAA s w j).j) (s.Log++(aAA s w j).l) n:=by
 have hB:(aL s w).eT=true:=by rw [hj];exact hb
 have hc:=hs.1.1.2.1
 have own:=h.jv w hw
 have nk:(aL s w).Op.Kind≠1\/(aL s w).Pc≠3:=.inl (by rw [hj];omega)
 have nm0:∀j':bE,j'.Op.Kind=j.Op.Kind->DB j'=DB (aL s w):=fun j' q=>by rw [sV (by omega),sV (by rw [hj];omega)]
 have nc:∀j':bE,j'.Op.Kind=j.Op.Kind->j'.Op.Kind≠4\/j'.Pc≠1:=fun j' q=>.inl (by omega)
 have q0:=fun(j':bE) (q:j'.Op.Kind=j.Op.Kind)=>VF (b:=s.aA) (J:=aL s) (w:=w) (nm0 j' q) nk (nc j' q)
 have cell:=hjk.1.2.2.1
 have hcv:=h.cv j.Op.Cell cell
 rw [hj] at own
 unfold aAA
 by_cases p0:j.Pc=0
 ·rw [if_pos p0]
  obtain⟨_,_,_,i4⟩:=hep.1 w hw hB
  rw [hj] at i4
  obtain⟨sk,sd,_⟩:=i4 ⟨hb,.inl k2,p0⟩
  have es:gJ s.aA w j.Sub=Z8 s.aA w j.Sub:=by unfold gJ;simp [sk,sd]
  rw [es]
  obtain⟨cl,e1,e2,e3⟩:=aY0 hc hw j.Sub
  simp only [e1]
  refine h.quiet hs.1 hep hw (VG (by omega) (fun v hv hn p=>aAE (e3 v hv hn) p) (nm0 _ (by split <;> rfl)) nk (.inl (by split <;> (simp only [dR];omega)))) hB (by rw [hj];split <;> rfl) (.inl rfl) ?_
  split
  ·exact JB hb (.inl k2) (fun g=>absurd g (KP (.inr (.inl ⟨rfl,k2⟩)))) (fun q=>by simp [dR] at q)
  ·exact JB hb (.inl k2) (fun g=>absurd g (KP (.inl p0))) (fun q=>by simp only at q;omega)
 rw [if_neg p0]
 by_cases p1:j.Pc=1
 ·rw [if_pos p1]
  by_cases c0:cellAt s.Cells j.Op.Cell=0
  ·rw [if_pos c0,c0]
   refine h.quiet hs.1 hep hw (by exact q0 _ rfl) hB (by exact(congrArg bE.aI hj).symm) (.inr ⟨0,by rw [hj]⟩) ?_
   have rs:=V2 (L:=s.Log) (w:=w) j 0
   refine JB hb (.inl k2) (fun g=>absurd g (KP (.inr (.inr (.inl rfl))))) fun _=>⟨fun q=>by simp [dR] at q,fun _=>⟨_,_,rs,by rw [hcv.1,c0],rfl⟩⟩
  ·rw [if_neg c0]
   refine h.quiet hs.1 hep hw (by exact q0 _ rfl) hB (by exact(congrArg bE.aI hj).symm) (.inr ⟨_,by rw [hj]⟩) ?_
   have rs:=V2 (L:=s.Log) (w:=w) j (cellAt s.Cells j.Op.Cell)
   refine JB hb (.inl k2) (fun _ _=>⟨.inl ⟨_,cell,rfl⟩,_,⟨_,rs,rfl,hcv.1,c0⟩,fun _=>hcv.2 c0,fun l=>?_⟩) (fun q=>by simp [dR] at q)
   rcases l with ⟨_,l⟩ | ⟨l,_⟩
   ·simp [dR] at l
   ·simp only [dR] at l;omega
 rw [if_neg p1]
 by_cases p2:j.Pc=2
 ·rw [if_pos p2]
  have q:=q0 (dR {j with dQ:=aBK s.aA.Mem.aC j.H} 3 0) rfl
  refine h.quiet hs.1 hep hw q hB (by exact(congrArg bE.aI hj).symm) (.inl rfl) ?_
  rw [jP]
  refine JB hb (.inl k2) (fun _ p=>?_) (fun q=>by simp [dR] at q)
  obtain⟨sa,x,x1,x2,_⟩:=own.g (.inl ⟨k2,.inl p2⟩) p
  have x2:=x2 fun l=>by rcases l with l | l <;> omega
  have h0:=x1.choose_spec.2.2.2
  refine⟨q.safe hw ((U6 hc hw).1.2) sa,x,x1,fun nl=>absurd (.inl ⟨k2,rfl⟩) nl,fun _=>?_⟩
  show aBK s.aA.Mem.aC j.H=x.dQ
  rw [aMF hs h hep hw hj hb sa h0,x2]
 rw [if_neg p2]
 by_cases p3:j.Pc=3
 ·rw [if_pos p3]
  have ct:=aHY hs h hep hw hj hb (pc:=4) (.inl ⟨k2,.inr p3⟩) (.inl ⟨k2,p3⟩)
  have ce:(rL s.aA.aD w j 4).Op=j.Op/\(rL s.aA.aD w j 4).aI=j.aI/\(rL s.aA.aD w j 4).eT=true/\(rL s.aA.aD w j 4).Pc=4:=by unfold rL;split <;> exact⟨rfl,rfl,hb,rfl⟩
  generalize rL s.aA.aD w j 4=j' at ct ce
  refine h.quiet hs.1 hep hw (by exact q0 _ (by rw [ce.1])) hB (by rw [hj];exact ce.2.1) (.inl rfl) ?_
  rw [jP]
  exact JB ce.2.2.1 (.inl (by rw [ce.1];exact k2)) (fun g=>absurd g (KP (.inr (.inr (.inl ce.2.2.2))))) fun _=>by rw [ce.2.1];exact ct
 rw [if_neg p3]
 by_cases p4:j.Pc=4
 ·rw [if_pos p4]
  obtain⟨u1,u2⟩:=aSR hc hw
  refine h.quiet hs.1 hep hw (VG (by omega) (fun v hv hn p=>aAE (u2 v hv hn) p) (nm0 (dR j 9 j.Code) rfl) nk (.inl (by simp only [dR];omega))) hB (by exact(congrArg bE.aI hj).symm) (.inl rfl) ?_
  rw [jP]
  exact JB hb (.inl k2) (fun g=>absurd g (KP (.inr (.inr (.inr rfl))))) fun _=>own.t (.inl k2) (.inr p4)
 rw [if_neg p4]
 refine h.quiet hs.1 hep hw (by exact q0 _ rfl) hB (by exact(congrArg bE.aI hj).symm) (.inl rfl) ?_
 exact JB hb (.inl k2) (fun g=>absurd g (KP (.inr (.inr (.inr rfl))))) fun _=>Told.other (by simp [dR]) (by simp [dR])
theorem a1Y(k7:j.Op.Kind=7):Sv (VA s w j).b (VA s w j).c (OQ (aL s) w (VA s w j).j) (s.Log++(VA s w j).l) n:=by
 have hB:(aL s w).eT=true:=by rw [hj];exact hb
 have hc:=hs.1.1.2.1
 have own:=h.jv w hw
 have nk:(aL s w).Op.Kind≠1\/(aL s w).Pc≠3:=.inl (by rw [hj];omega)
 have nm0:∀j':bE,j'.Op.Kind=j.Op.Kind->DB j'=DB (aL s w):=fun j' q=>by rw [sV (by omega),sV (by rw [hj];omega)]
 have nc:∀j':bE,j'.Op.Kind=j.Op.Kind->j'.Op.Kind≠4\/j'.Pc≠1:=fun j' q=>.inl (by omega)
 have q0:=fun(j':bE) (q:j'.Op.Kind=j.Op.Kind)=>VF (b:=s.aA) (J:=aL s) (w:=w) (nm0 j' q) nk (nc j' q)
 have cell:=hjk.1.2.2.1
 have hcv:=h.cv j.Op.Cell cell
 rw [hj] at own
 have fin:∀{j':bE},j'.Op=j.Op->j'.aI=j.aI->j'.eT=true->j'.Pc=9->Told (rdx s.Log j.aI) j'.Code j'.dQ->Sv s.aA s.Cells (OQ (aL s) w j') (s.Log ++ []) n:=fun e1 e2 e3 e4 e5=>by
  refine h.quiet hs.1 hep hw (by exact q0 _ (by rw [e1])) hB (by rw [hj];exact e2) (.inl rfl) ?_
  rw [jP]
  exact JB e3 (.inr (by rw [e1];exact k7)) (fun g=>absurd g (KP (.inr (.inr (.inr e4))))) fun _=>by rw [e2];exact e5
 unfold VA
 by_cases p0:j.Pc=0
 ·rw [if_pos p0]
  split
  ·exact fin rfl rfl hb rfl (Told.other (by simp [dR]) (by simp [dR]))
  split
  ·exact fin rfl rfl hb rfl (Told.other (by simp [dR]) (by simp [dR]))
  by_cases c0:cellAt s.Cells j.Op.Cell=0
  ·rw [if_pos c0,c0]
   refine h.quiet hs.1 hep hw (by exact q0 _ rfl) hB (by exact(congrArg bE.aI hj).symm) (.inr ⟨0,by rw [hj]⟩) ?_
   have rs:=V2 (L:=s.Log) (w:=w) j 0
   refine JB hb (.inr k7) (fun g=>absurd g (KP (.inr (.inr (.inr rfl))))) fun _=>⟨fun q=>by simp [dR] at q,fun _=>⟨_,_,rs,by rw [hcv.1,c0],rfl⟩⟩
  ·rw [if_neg c0]
   refine h.quiet hs.1 hep hw (by exact q0 _ rfl) hB (by exact(congrArg bE.aI hj).symm) (.inr ⟨_,by rw [hj]⟩) ?_
   have rs:=V2 (L:=s.Log) (w:=w) j (cellAt s.Cells j.Op.Cell)
   refine JB hb (.inr k7) (fun _ _=>⟨.inl ⟨_,cell,rfl⟩,_,⟨_,rs,rfl,hcv.1,c0⟩,fun _=>hcv.2 c0,fun l=>?_⟩) (fun q=>by simp [dR] at q)
   rcases l with ⟨l,_⟩ | ⟨_,l⟩
   ·simp only [dR] at l;omega
   ·simp [dR] at l
 rw [if_neg p0]
 by_cases p1:j.Pc=1
 ·rw [if_pos p1]
  have q:=q0 (dR {j with dQ:=aBK s.aA.Mem.aC j.H} 2 0) rfl
  refine h.quiet hs.1 hep hw q hB (by exact(congrArg bE.aI hj).symm) (.inl rfl) ?_
  rw [jP]
  refine JB hb (.inr k7) (fun _ p=>?_) (fun q=>by simp [dR] at q)
  obtain⟨sa,x,x1,x2,_⟩:=own.g (.inr ⟨k7,.inl p1⟩) p
  have x2:=x2 fun l=>by rcases l with l | l <;> omega
  have h0:=x1.choose_spec.2.2.2
  refine⟨q.safe hw ((U6 hc hw).1.2) sa,x,x1,fun nl=>absurd (.inr ⟨k7,rfl⟩) nl,fun _=>?_⟩
  show aBK s.aA.Mem.aC j.H=x.dQ
  rw [aMF hs h hep hw hj hb sa h0,x2]
 rw [if_neg p1]
 by_cases p2:j.Pc=2
 ·rw [if_pos p2]
  have ct:=aHY hs h hep hw hj hb (pc:=9) (.inr ⟨k7,.inr p2⟩) (.inr ⟨k7,p2⟩)
  have ce:(rL s.aA.aD w j 9).Op=j.Op/\(rL s.aA.aD w j 9).aI=j.aI/\(rL s.aA.aD w j 9).eT=true/\(rL s.aA.aD w j 9).Pc=9:=by unfold rL;split <;> exact⟨rfl,rfl,hb,rfl⟩
  exact fin ce.1 ce.2.1 ce.2.2.1 ce.2.2.2 ct
 rw [if_neg p2]
 exact fin rfl rfl hb rfl (Told.other (by simp [dR]) (by simp [dR]))
theorem a42(k3:j.Op.Kind=3):Sv (aHQ s w j).b (aHQ s w j).c (OQ (aL s) w (aHQ s w j).j) (s.Log++(aHQ s w j).l) n:=by
 have hB:(aL s w).eT=true:=by rw [hj];exact hb
 have hc:=hs.1.1.2.1
 have hz:=hs.1.1.2.2.2
 have own:=h.jv w hw
 have nk:(aL s w).Op.Kind≠1\/(aL s w).Pc≠3:=.inl (by rw [hj];omega)
 have nm0:∀j':bE,j'.Op.Kind=j.Op.Kind->DB j'=DB (aL s w):=fun j' q=>by rw [sV (by omega),sV (by rw [hj];omega)]
 have nc:∀j':bE,j'.Op.Kind=j.Op.Kind->j'.Op.Kind≠4\/j'.Pc≠1:=fun j' q=>.inl (by omega)
 have q0:=fun(j':bE) (q:j'.Op.Kind=j.Op.Kind)=>VF (b:=s.aA) (J:=aL s) (w:=w) (nm0 j' q) nk (nc j' q)
 have cell:=hjk.1.2.2.1
 have hcv:=h.cv j.Op.Cell cell
 rw [hj] at own
 unfold aHQ
 by_cases p0:j.Pc=0
 ·rw [if_pos p0]
  by_cases c0:cellAt s.Cells j.Op.Cell=0
  ·rw [if_pos c0]
   refine h.quiet hs.1 hep hw (by exact q0 _ rfl) hB (by exact(congrArg bE.aI hj).symm) (.inr ⟨0,by rw [hj]⟩) ?_
   have rs:=V2 (L:=s.Log) (w:=w) j 0
   exact VC hb k3 (fun q=>by simp [dR] at q) (fun q=>by simp [dR] at q) (fun q=>by simp [dR] at q) fun _=>⟨fun q=>by simp [dR] at q,fun _=>⟨_,_,rs,by rw [hcv.1,c0],rfl⟩⟩
  ·rw [if_neg c0]
   refine h.quiet hs.1 hep hw (by exact q0 _ rfl) hB (by exact(congrArg bE.aI hj).symm) (.inl rfl) ?_
   exact VC hb k3 (fun _=>c0) (fun q=>by simp [dR] at q) (fun q=>by simp [dR] at q) (fun q=>by simp [dR] at q)
 rw [if_neg p0]
 by_cases p1:j.Pc=1
 ·rw [if_pos p1]
  have h0:=own.z1 k3 (.inl p1)
  have hh:jN j.H:=hjk.2.1.resolve_left h0
  have q:Qt s.aA ⟨s.aA.Mem,s.aA.aD,s.aA.aO,P3 s.aA.l7 w j.H⟩ (aL s) w (dR j 2 0):=⟨rfl,rfl,uQ _,fun _ _ _ p=>⟨p,rfl⟩,fun v hv hn=>by rw [aKI hz hw hv hh,if_neg hn],nm0 _ rfl,fun k p=>by omega,fun _ _ _ _ _=>RN (by simp only [dR];omega)⟩
  refine h.quiet hs.1 hep hw q hB (by exact(congrArg bE.aI hj).symm) (.inl rfl) ?_
  exact VC hb k3 (fun _=>h0) (fun _=>by rw [aKI hz hw hw hh,if_pos rfl];rfl) (fun q=>by simp [dR] at q) (fun q=>by simp [dR] at q)
 rw [if_neg p1]
 by_cases p2:j.Pc=2
 ·rw [if_pos p2]
  by_cases ce:cellAt s.Cells j.Op.Cell=j.H
  ·rw [if_pos ce]
   have h0:=own.z1 k3 (.inr (.inl p2))
   refine h.quiet hs.1 hep hw (by exact q0 _ rfl) hB (by exact(congrArg bE.aI hj).symm) (.inr ⟨j.H,by rw [hj]⟩) ?_
   have rs:=V2 (L:=s.Log) (w:=w) j j.H
   refine VC hb k3 (fun _=>h0) (fun _=>own.z2 k3 (.inl p2)) (fun _=>⟨.inl ⟨_,cell,ce⟩,fun a ha=>?_,_,⟨_,rs,rfl,by rw [hcv.1,ce];rfl,h0⟩,?_⟩) (fun q=>by simp [dR] at q)
   ·by_cases z:a=w
    ·subst z;rw [gE];exact RN (by simp only [dR];omega)
    ·rw [eQ _ _ z]
     intro k4 a1 aH
     simp only [dR] at aH
     obtain⟨_,_,ck⟩:=(h.jv a ha).k k4 a1
     have hl:=(h.ow.live j.Op.Cell (by omega) (by rw [kO _ _ cell,ce];exact h0)).2
     rw [kO _ _ cell,ce] at hl
     have no:∀{l},IN (dC s.aA.aO a) l->l.H=j.H->False:=fun{l} at_ e=>by
      obtain⟨b1,b2,b3⟩:=at_
      have hm:=U8 hs.1.1.2.2.1 ha (aHN (l:=dC s.aA.aO a) (k:=l.Row) ⟨b1,b2⟩)
      apply hl
      rw [<-e,<-b3]
      exact aSQ hm (hs.1.2 _ hm).1.1
     rcases ck with ck | ⟨_,ck | ck | ck⟩
     ·exact⟨fun z=>by omega,by omega⟩
     ·exact⟨fun z=>by omega,by omega⟩
     ·exact absurd (no ck.2.2.1 aH) id
     ·exact absurd (no ck.2.1 aH) id
   ·show vK s.aA.Mem.aC (j.H % 32)=_
    rw [<-ce];exact hcv.2 (by rw [ce];exact h0)
  ·rw [if_neg ce]
   refine h.quiet hs.1 hep hw (by exact q0 _ rfl) hB (by exact(congrArg bE.aI hj).symm) (.inl rfl) ?_
   exact VC hb k3 (fun q=>by simp [dR] at q) (fun q=>by simp [dR] at q) (fun q=>by simp [dR] at q) (fun q=>by simp [dR] at q)
 rw [if_neg p2]
 by_cases p3:j.Pc=3
 ·rw [if_pos p3]
  refine h.quiet hs.1 hep hw (by exact q0 _ rfl) hB (by exact(congrArg bE.aI hj).symm) (.inl rfl) ?_
  rw [jP]
  obtain⟨sa,u,x,x1,x2⟩:=own.z3 k3 p3
  obtain⟨e,y1,y2,y3,h0⟩:=x1
  refine VC hb k3 (fun q=>by simp [dR] at q) (fun q=>by simp [dR] at q) (fun q=>by simp [dR] at q) fun _=>⟨fun _=>⟨e,x,y1,by rw [y3];exact h0,by rw [y2,y3],?_⟩,fun q=>by simp [dR] at q⟩
  show x.dQ=aBK s.aA.Mem.aC j.H
  rw [aMF hs h hep hw hj hb sa h0,x2]
 rw [if_neg p3]
 by_cases p4:j.Pc=4
 ·rw [if_pos p4]
  have q:Qt s.aA ⟨s.aA.Mem,s.aA.aD,s.aA.aO,aBL s.aA.l7 w⟩ (aL s) w (dR j 9 j.Code):=⟨rfl,rfl,uQ _,fun _ _ _ p=>⟨p,rfl⟩,fun v hv hn=>a1X hz hw hv hn,nm0 _ rfl,fun k p=>by omega,fun _ _ _ _ _=>RN (by simp only [dR];omega)⟩
  refine h.quiet hs.1 hep hw q hB (by exact(congrArg bE.aI hj).symm) (.inl rfl) ?_
  rw [jP]
  exact VC hb k3 (fun q=>by simp [dR] at q) (fun q=>by simp [dR] at q) (fun q=>by simp [dR] at q) fun _=>own.t (.inr (.inl k3)) (.inr p4)
 rw [if_neg p4]
 refine h.quiet hs.1 hep hw (by exact q0 _ rfl) hB (by exact(congrArg bE.aI hj).symm) (.inl rfl) ?_
 exact VC hb k3 (fun q=>by simp [dR] at q) (fun q=>by simp [dR] at q) (fun q=>by simp [dR] at q) fun _=>Told.other (by simp [dR]) (by simp [dR])
end
end Go.Gv
end
noncomputable section
namespace Go.Gv
theorem map_inj{α:Type}{f:α->Int}:∀{l:List α},(l.map f).Nodup->∀x∈l,∀y∈l,f x=f y->x=y
 | [],_,x,hx,_,_,_=>by cases hx
 | a :: t, h, x, hx, y, hy, e => by
  rw [y8,WA] at h
  rcases fA.1 hx with ex | hx
  ·rcases fA.1 hy with ey | hy
   ·rw [ex,ey]
   ·exact absurd (DD.2 ⟨y,hy,by rw [<-e,ex]⟩) h.1
  ·rcases fA.1 hy with ey | hy
   ·exact absurd (DD.2 ⟨x,hx,by rw [e,ey]⟩) h.1
   ·exact map_inj h.2 x hx y hy e
theorem aHZ{l:List bC}(h3:l.length=3){w v:Int}(hw:0<=w/\w<=2)(hv:0<=v/\v<=2)(hn:v≠w)(x:bC):dC (l.set w.toNat x) v=dC l v:=by
 unfold dC
 simp only [gR,RO]
 rw [if_neg (by omega)]
theorem aY1{l:List bC}(hl:pR l){w:Int}(hw:0<=w/\w<=2){x r:dA}:r∈bH (l.set w.toNat ⟨dC l w ++ [x]⟩)↔r∈bH l\/r=x:=by
 have h3:=hl.1
 have kx:w.toNat < l.length:=by omega
 have hrow:l[w.toNat].Rows=dC l w:=by
  have:=GR hl hw
  rw [fU hw.1 (by omega)] at this
  injection this with this
  rw [this]
 rw [GO kx,C5 kx,hrow]
 simp only [e9,YJ]
 constructor
 ·rintro(a | (a | a) | a)
  ·exact .inl (.inl a)
  ·exact .inl (.inr (.inl a))
  ·exact .inr a
  ·exact .inl (.inr (.inr a))
 ·rintro((a | a | a) | a)
  ·exact .inl a
  ·exact .inr (.inl (.inl a))
  ·exact .inr (.inr a)
  ·exact .inr (.inl (.inr a))
noncomputable section
variable {s:aG} (hs:DA s) {n:Int} (h:Sv s.aA s.Cells (aL s) s.Log n) (hep:Ep s.aA.aD (aL s)) {w:Int} (hw:0<=w/\w<=2) {j:bE} (hj:aL s w=j) (hb:j.eT=true) (hjk:lR j.Op/\cX j.H/\cX j.Old)
include hs h hep hw hj hb
theorem aOU{b':aA}(hl:b'.aO=s.aA.aO){j':bE}(h3:(aL s w).Pc≠3\/(aL s w).Op.Kind≠1){e H:Int}(sa:rN s.aA s.Cells (aL s) e H):rN b' s.Cells (OQ (aL s) w j') e H:=by
 rcases sa with sa | ⟨v,hv,k1,p3,o⟩ | sa
 ·exact .inl sa
 ·have z:v≠w:=fun z=>by subst z;omega
  exact .inr (.inl ⟨v,hv,by rw [eQ _ _ z];exact⟨k1,p3,o⟩⟩)
 ·rw [<-hl] at sa;exact .inr (.inr sa)
theorem aMG{j':bE}(hk:j'.Op.Kind≠4){v H:Int}(u:RM (aL s) v H):RM (OQ (aL s) w j') v H:=fun a ha=>by
 by_cases z:a=w
 ·subst z;rw [gE];exact RN hk
 ·rw [eQ _ _ z];exact u a ha
include hjk
theorem a43(k1:j.Op.Kind=1):Sv (aBM s w j).b (aBM s w j).c (OQ (aL s) w (aBM s w j).j) (s.Log++(aBM s w j).l) n:=by
 have hB:(aL s w).eT=true:=by rw [hj];exact hb
 have hc:=hs.1.1.2.1
 have hm:=hs.1.1.1
 have own:=h.jv w hw
 have cell:=hjk.1.2.2.1
 have hcv:=h.cv j.Op.Cell cell
 have hval:0<=j.Op.dQ/\j.Op.dQ<=65535:=by have:=hjk.1.2.2.2;rw [if_pos k1] at this;exact this.2
 have sn:=h.se.2.1 w hw hB
 rw [hj] at own sn
 have rn:=own.n hb (by unfold Reads;omega)
 have i4:(w+2:Int) ≥ 0/\w+2<=4:=by omega
 unfold aBM
 by_cases p0:j.Pc=0
 ·rw [if_pos p0]
  obtain⟨sk,sd,sp⟩:=own.s0 k1 p0
  obtain⟨e1,e2,e3,e4⟩:=a1V hm hw sk sd sp
  have eb:(gJ s.aA w j.Sub).1=⟨(gJ s.aA w j.Sub).1.Mem,s.aA.aD,s.aA.aO,s.aA.l7⟩:=by rw [<-e1,<-e2,<-e3]
  have n0:DB (aL s w)=0:=by rw [hj];exact XF (by omega) (by omega) (by omega)
  have nk:(aL s w).Op.Kind≠1\/(aL s w).Pc≠3:=.inr (by rw [hj];omega)
  generalize hr:gJ s.aA w j.Sub=r at e1 e2 e3 e4 eb
  rcases e4 with ⟨m0,m1⟩ | ⟨d,c0,hn,lv,tk⟩
  ·rw [m0] at eb
   have eb':r.1=s.aA:=by rw [eb]
   have q:=fun(j':bE) (hk:j'.Op.Kind=j.Op.Kind) (hp:j'.Pc=0\/j'.Pc=9)=>VF (b:=s.aA) (J:=aL s) (w:=w) (j':=j') (by rw [n0,XF (by omega) (by omega) (by omega)]) nk (.inl (by omega))
   rcases m1 with ⟨d,c0⟩ | ⟨d,m1⟩
   ·rw [if_pos d,if_pos c0,eb']
    refine h.quiet hs.1 hep hw (by exact q _ rfl (.inr rfl)) hB (by exact(congrArg bE.aI hj).symm) (.inl rfl) ?_
    rw [jP]
    exact VD hb k1 (fun q=>by simp [dR] at q) (fun q=>by simp [dR] at q) (fun q=>by simp [dR] at q) (fun q=>by simp [dR] at q) rn
   ·rw [d,if_neg (by simp),eb']
    refine h.quiet hs.1 hep hw (by exact q _ rfl (.inl p0)) hB (by rw [hj]) (.inl rfl) ?_
    rw [jP]
    exact VD hb k1 (fun _=>⟨m1.1,d,m1.2⟩) (fun q=>by simp only at q;omega) (fun q=>by simp only at q;omega) (fun q=>by simp only at q;omega) rn
  ·rw [if_pos d,if_neg (by omega),if_pos hn,jP]
   have h0:r.2.Out≠0:=by unfold jN at hn;omega
   have nj:DB (dR {j with Sub:=r.2,H:=r.2.Out} 1 0)=r.2.Out:=aUE k1 (.inl rfl)
   have dat:∀H,hC s.aA.Mem H->vK r.1.Mem.aC (H % 32)=vK s.aA.Mem.aC (H % 32):=fun H hl=>(tk.same _ hl.2.1).2
   refine h.make hs.1 hep hw ?_ (fun k hk=>?_) (fun v hv hn=>⟨by rw [e1];exact uQ _,by rw [e2],fun p=>by rw [e1] at p ⊢;exact⟨p,rfl⟩,by rw [e3],fun e H _ _ _ sa=>aOU hs h hep hw hj hb e2 nk.symm sa,fun _ u=>aMG hs h hep hw hj hb (by simp only [dR];omega) u,fun e H sa hH=>dat H (sa.live hs.1 h.ow hH),fun hH=>?_⟩) ?_ (fun _ _=>rfl) h.tr h.se.1 (uQ _) fun _=>⟨sn,.inl ⟨by rw [hj];rfl,hB⟩⟩
   ·refine h.ow.a74 hs.1 e2 tk lv (i:=w+2) ⟨by omega,by omega⟩ (by rw [fN _ _ hw,n0]) (by rw [fN _ _ hw,gE,nj]) fun i hi q=>IQ hw hi q fun _ _ _=>rfl
   ·refine⟨(h.cv k hk).1,fun q=>?_⟩
    have l:=(h.ow.live k (by omega) (by rw [kO _ _ hk];exact q)).1
    rw [kO _ _ hk] at l
    rw [dat _ l];exact(h.cv k hk).2 q
   ·have l:=(h.ow.live (v+2) (by omega) (by rw [fN _ _ hv];exact hH)).1
    rw [fN _ _ hv] at l
    exact dat _ l
   ·exact VD hb k1 (fun q=>by simp [dR] at q) (fun _=>h0) (fun q=>by simp [dR] at q) (fun q=>by simp [dR] at q) rn
 rw [if_neg p0]
 by_cases p1:j.Pc=1
 ·rw [if_pos p1]
  have nk:(aL s w).Op.Kind≠1\/(aL s w).Pc≠3:=.inr (by rw [hj];omega)
  have hH:=own.s1 k1 (.inl p1)
  have nw:DB (aL s w)=j.H:=by rw [hj];exact aUE k1 (.inl p1)
  have lv:=(h.ow.live (w+2) (by omega) (by rw [fN _ _ hw,nw];exact hH)).1
  rw [fN _ _ hw,nw] at lv
  obtain⟨c0,st⟩:=aOR hm lv hval
  rw [c0,if_pos rfl,jP]
  have nj:DB (dR j 2 0)=j.H:=aUE (j:=dR j 2 0) k1 (.inr rfl)
  have dat:∀H,hC s.aA.Mem H->H % 32≠j.H % 32->vK (CN s.aA.Mem j.H j.Op.dQ).1.aC (H % 32)=vK s.aA.Mem.aC (H % 32):=fun H hl q=>by rw [st.dat _ (hJ hl.2.1),if_neg q]
  have gen:∀H,hC s.aA.Mem H->iP (CN s.aA.Mem j.H j.Op.dQ).1.aC (H % 32)=iP s.aA.Mem.aC (H % 32):=fun H hl=>st.gen _ (hJ hl.2.1)
  have ap:∀i,0<=i/\i<=4->i≠w+2->nm s.Cells (aL s) i≠0->nm s.Cells (aL s) i % 32≠j.H % 32:=fun i hi q hn e=>by
   have l:=(h.ow.live i hi hn).1
   have:=aAC l lv e
   exact q (h.ow.once i (w+2) hi (by omega) hn (by rw [fN _ _ hw,nw];exact this))
  refine h.make hs.1 hep hw ?_ (fun k hk=>?_) (fun v hv hn=>⟨uQ _,rfl,fun p=>⟨p,rfl⟩,rfl,fun e H _ _ _ sa=>aOU hs h hep hw hj hb rfl nk.symm sa,fun _ u=>aMG hs h hep hw hj hb (by simp only [dR];omega) u,fun e H sa hH'=>?_,fun hH'=>?_⟩) ?_ (fun _ _=>rfl) h.tr h.se.1 (uQ _) fun _=>⟨sn,.inl ⟨by rw [hj];rfl,hB⟩⟩
  ·have he:∀i,0<=i/\i<=4->nm s.Cells (OQ (aL s) w (dR j 2 0)) i=nm s.Cells (aL s) i:=fun i hi=>by
    by_cases z:i=w+2
    ·subst z;rw [fN _ _ hw,fN _ _ hw,gE,nj,nw]
    ·exact IQ hw hi z fun _ _ _=>rfl
   refine⟨fun i hi hn=>?_,fun i k hi hk hn e=>?_,fun t ht hh=>?_⟩
   ·rw [he i hi] at hn ⊢
    obtain⟨a,b⟩:=h.ow.live i hi hn
    exact⟨⟨a.1,by rw [st.state];exact a.2.1,by rw [gen _ a];exact a.2.2⟩,b⟩
   ·rw [he i hi] at hn
    rw [he i hi,he k hk] at e
    exact h.ow.once i k hi hk hn e
   ·rw [st.state] at ht
    obtain⟨i,a,b,c⟩:=h.ow.all t ht hh
    exact⟨i,a,by rw [he i a];exact b,by rw [he i a];exact c⟩
  ·refine⟨(h.cv k hk).1,fun q=>?_⟩
   have hn:nm s.Cells (aL s) k≠0:=by rw [kO _ _ hk];exact q
   have l:=(h.ow.live k (by omega) hn).1
   have a:=ap k (by omega) (by omega) hn
   rw [kO _ _ hk] at l a
   show vK (CN s.aA.Mem j.H j.Op.dQ).1.aC _=_
   rw [dat _ l a];exact(h.cv k hk).2 q
  ·have l:=sa.live hs.1 h.ow hH'
   have a:=sa.apart hs.1 h.ow hH' hw (by rw [hj];exact k1) (by rw [hj];exact .inl p1) (by rw [hj];exact hH)
   rw [hj] at a
   exact dat _ l a
  ·have hn':nm s.Cells (aL s) (v+2)≠0:=by rw [fN _ _ hv];exact hH'
   have l:=(h.ow.live (v+2) (by omega) hn').1
   have a:=ap (v+2) (by omega) (by omega) hn'
   rw [fN _ _ hv] at l a
   exact dat _ l a
  ·refine VD hb k1 (fun q=>by simp [dR] at q) (fun _=>hH) (fun _=>?_) (fun q=>by simp [dR] at q) rn
   show vK (CN s.aA.Mem j.H j.Op.dQ).1.aC (j.H % 32)=j.Op.dQ
   rw [st.dat _ (hJ lv.2.1),if_pos rfl]
 rw [if_neg p1]
 by_cases p2:j.Pc=2
 ·rw [if_pos p2]
  have hH:=own.s1 k1 (.inr p2)
  have nw:DB (aL s w)=j.H:=by rw [hj];exact aUE k1 (.inr p2)
  have c2:=hs.2.1
  have cs:=fun i (hi:0<=i/\i<=1)=>aQS (c:=s.Cells) c2 cell hi j.H
  have je:∃j',(if cellAt s.Cells j.Op.Cell=0 then dR {j with Old:=0} 9 0 else dR {j with Sub:=S3 2 (cellAt s.Cells j.Op.Cell),Old:=cellAt s.Cells j.Op.Cell} 3 0)=j'/\DB j'=cellAt s.Cells j.Op.Cell/\j'.Op=j.Op/\j'.aI=j.aI/\j'.eT=true/\(cellAt s.Cells j.Op.Cell≠0->j'.Pc=3/\j'.Old=cellAt s.Cells j.Op.Cell/\j'.Sub.Pc=0) /\
    ((cellAt s.Cells j.Op.Cell=0/\j'.Pc=9)\/j'.Pc=3/\j'.Old≠0/\a4Y s.aA j'.Old j'.Sub):=by
   by_cases c0:cellAt s.Cells j.Op.Cell=0
   ·exact⟨dR {j with Old:=0} 9 0,by rw [if_pos c0],by rw [c0];exact XF (by simp [dR]) (by simp [dR]) (by simp [dR]),rfl,rfl,hb,fun z=>absurd c0 z,.inl ⟨c0,rfl⟩⟩
   ·exact⟨dR {j with Sub:=S3 2 (cellAt s.Cells j.Op.Cell),Old:=cellAt s.Cells j.Op.Cell} 3 0,by rw [if_neg c0],nm3 k1 rfl,rfl,rfl,hb,fun _=>⟨rfl,rfl,rfl⟩,.inr ⟨rfl,c0,rfl,rfl,rfl,.inl rfl⟩⟩
  obtain⟨j',ej,nj,jo,jse,jb,j3,jc⟩:=je
  rw [ej]
  generalize hE:(⟨2,w,j.aI,j.Op.Cell,j.H,j.Op.dQ,0⟩:Ev)=E
  have eK:E.Kind=2:=by rw [<-hE]
  have eC:E.Cell=j.Op.Cell:=by rw [<-hE]
  have eH:E.Handle=j.H:=by rw [<-hE]
  have eV:E.dQ=j.Op.dQ:=by rw [<-hE]
  have eS:E.aI=j.aI:=by rw [<-hE]
  have sE:∀k,swp (s.Log ++ [E]) k=if k=j.Op.Cell then E else swp s.Log k:=fun k=>by
   rw [aAD,eK,eC]
   by_cases z:k=j.Op.Cell
   ·rw [if_pos ⟨rfl,z.symm⟩,if_pos z]
   ·rw [if_neg (fun q=>z q.2.symm),if_neg z]
  have rE:∀m,rdx (s.Log ++ [E]) m=rdx s.Log m:=fun m=>by rw [V1,if_neg (fun z=>by have:=z.1;omega)]
  have safe:∀e H,H≠0->rN s.aA s.Cells (aL s) e H->rN s.aA (s.Cells.set j.Op.Cell.toNat j.H) (OQ (aL s) w j') e H:=fun e H h0 sa=>by
   rcases sa with ⟨k,hk,q⟩ | ⟨v,hv,v1,v2,v3⟩ | sa
   ·by_cases z:k=j.Op.Cell
    ·subst z
     obtain⟨a1,a2,a3⟩:=j3 (by rw [q];exact h0)
     exact .inr (.inl ⟨w,hw,by rw [gE,jo];exact⟨k1,a1,by rw [a2,q],.inl a3⟩⟩)
    ·exact .inl ⟨k,hk,by rw [cs k hk,if_neg z];exact q⟩
   ·have z:v≠w:=fun z=>by subst z;rw [hj] at v2;omega
    exact .inr (.inl ⟨v,hv,by rw [eQ _ _ z];exact⟨v1,v2,v3⟩⟩)
   ·exact .inr (.inr sa)
  show Sv s.aA (s.Cells.set j.Op.Cell.toNat j.H) (OQ (aL s) w j') (s.Log ++ [E]) n
  refine h.make hs.1 hep hw ?_ (fun k hk=>?_) (fun v hv hn=>⟨uQ _,rfl,fun p=>⟨p,rfl⟩,rfl,fun e H h0 _ _ sa=>safe e H h0 sa,fun _ u=>aMG hs h hep hw hj hb (by rw [jo];omega) u,fun _ _ _ _=>rfl,fun _=>rfl⟩) ?_ (fun m _=>rE m) (h.tr.snoc fun z=>by omega) (fun e he=>?_) (uQ _) fun _=>⟨by rw [jse];exact sn,.inl ⟨by rw [hj];exact jse,hB⟩⟩
  ·refine h.ow.perm rfl rfl (fun i=>if i=j.Op.Cell then w+2 else if i=w+2 then j.Op.Cell else i) (fun i hi=>?_) (fun i=>?_) (fun i hi=>?_)
   ·(try simp only);split <;> (try split) <;> omega
   ·by_cases a:i=j.Op.Cell
    ·simp only [if_pos a,if_neg (show ¬w+2=j.Op.Cell by omega),if_true];omega
    ·by_cases b:i=w+2
     ·simp only [if_neg a,if_pos b,if_true];omega
     ·simp only [if_neg a,if_neg b]
   ·(try simp only)
    by_cases a:i=j.Op.Cell
    ·rw [if_pos a,a,kO _ _ cell,cs _ cell,if_pos rfl,fN _ _ hw,nw]
    ·rw [if_neg a]
     by_cases b:i=w+2
     ·rw [if_pos b,b,fN _ _ hw,gE,nj,kO _ _ cell]
     ·rw [if_neg b]
      exact IQ hw hi b fun k hk e=>by rw [cs k hk,if_neg (by omega)]
  ·rw [sE k,cs k hk]
   by_cases z:k=j.Op.Cell
   ·simp only [if_pos z]
    exact⟨eH,fun _=>by rw [eV];exact own.s2 k1 p2⟩
   ·simp only [if_neg z];exact h.cv k hk
  ·rw [rE,jse]
   have p93:j'.Pc=9\/j'.Pc=3:=jc.imp And.right And.left
   refine VD jb (by rw [jo];exact k1) (fun q=>by omega) (fun q=>by omega) (fun q=>by omega) (fun q=>?_) rn
   rcases jc with ⟨_,z⟩ | ⟨_,z⟩
   ·omega
   ·exact z
  ·rcases e9.1 he with z | z
   ·exact h.se.1 e z
   ·rw [YJ.1 z,eS];exact sn
 rw [if_neg p2]
 by_cases p3:j.Pc=3
 ·rw [if_pos p3]
  obtain⟨o0,sk,sd,sa,sp⟩:=own.s3 k1 p3
  have es:gJ s.aA w j.Sub=RK s.aA w j.Sub:=by unfold gJ;simp [sk,sd]
  have nw:DB (aL s w)=j.Old:=by rw [hj];exact nm3 k1 p3
  have lo:=h.ow.live (w+2) (by omega) (by rw [fN _ _ hw,nw];exact o0)
  rw [fN _ _ hw,nw] at lo
  rw [es]
  unfold RK
  rcases sp with sp | ⟨sp,se0,se1⟩
  ·simp only [if_pos sp,sd,aQ,if_false]
   have q:Qt s.aA s.aA (aL s) w {j with Sub:={j.Sub with Pc:=1,E:=s.aA.aD.aJ,cZ:=false}}:=⟨rfl,rfl,uQ _,fun _ _ _ p=>⟨p,rfl⟩,fun _ _ _=>rfl,(by rw [nw];exact nm3 (j:={j with Sub:={j.Sub with Pc:=1,E:=s.aA.aD.aJ,cZ:=false}}) k1 p3),fun _ _=>⟨k1,p3,by rw [hj],.inr (.inr (uQ _))⟩,fun _ _ _ _ _=>RN (by simp only;omega)⟩
   refine h.quiet hs.1 hep hw q hB (by rw [hj]) (.inl rfl) ?_
   rw [jP]
   exact VD hb k1 (fun q=>by simp only at q;omega) (fun q=>by simp only at q;omega) (fun q=>by simp only at q;omega) (fun _=>⟨o0,sk,rfl,sa,.inr ⟨rfl,hc.1.1,uQ _⟩⟩) rn
  ·have hcond:hC s.aA.Mem j.Sub.A/\¬CK s.aA.aO (j.Sub.A % 32):=by rw [sa];exact lo
   simp only [if_neg (show ¬j.Sub.Pc=0 by omega),if_pos sp,if_pos (show 0<=j.Sub.E/\j.Sub.E<=s.aA.aD.aJ from ⟨se0,se1⟩),if_pos hcond,CM,if_true,jP]
   have hL:=hs.1.1.2.2.1
   have fa:=fun r=>aY1 (l:=s.aA.aO) hL hw (x:=⟨j.Sub.A,j.Sub.E⟩) (r:=r)
   have n9:∀sub,DB (dR {j with Sub:=sub} 9 0)=0:=fun sub=>XF (by simp [dR]) (by simp [dR]) (by simp [dR])
   have ro:=fun v (hv:0<=v/\v<=2) hn=>aHZ hL.1 hw hv hn ⟨dC s.aA.aO w ++ [⟨j.Sub.A,j.Sub.E⟩]⟩
   generalize hN:s.aA.aO.set w.toNat ⟨dC s.aA.aO w ++ [⟨j.Sub.A,j.Sub.E⟩]⟩=NL at fa ro
   refine h.make hs.1 hep hw ?_ (fun k hk=>h.cv k hk) (fun v hv hn=>⟨uQ _,ro v hv hn,fun p=>⟨p,rfl⟩,rfl,fun e H h0 _ _ x=>?_,fun _ u=>aMG hs h hep hw hj hb (by simp only [dR];omega) u,fun _ _ _ _=>rfl,fun _=>rfl⟩) ?_ (fun _ _=>rfl) h.tr h.se.1 (uQ _) fun _=>⟨sn,.inl ⟨by rw [hj];rfl,hB⟩⟩
   ·refine h.ow.retired rfl (i:=w+2) ⟨by omega,by omega⟩ (by rw [fN _ _ hw,nw];exact o0) (fun t=>?_) (by rw [fN _ _ hw,gE,n9]) fun i hi q=>IQ hw hi q fun _ _ _=>rfl
    rw [fN _ _ hw,nw]
    unfold CK
    constructor
    ·rintro⟨r,r1,r2,r3⟩
     rcases(fa r).1 r1 with z | z
     ·exact .inl ⟨r,z,r2,r3⟩
     ·right;rw [<-r3,z,sa]
    ·rintro(⟨r,r1,r2,r3⟩ | z)
     ·exact⟨r,(fa r).2 (.inl r1),r2,r3⟩
     ·exact⟨_,(fa _).2 (.inr rfl),by simp only;rw [sa];exact lo.1.1,by simp only;rw [sa,z]⟩
   ·rcases x with x | ⟨u,hu,u1,u2,u3,u4⟩ | ⟨r,r1,r2⟩
    ·exact .inl x
    ·by_cases z:u=w
     ·subst z
      rw [hj] at u3 u4
      exact .inr (.inr ⟨_,(fa _).2 (.inr rfl),by simp only;rw [sa];exact u3,by simp only;omega⟩)
     ·exact .inr (.inl ⟨u,hu,by rw [eQ _ _ z];exact⟨u1,u2,u3,u4⟩⟩)
    ·exact .inr (.inr ⟨r,(fa r).2 (.inl r1),r2⟩)
   ·exact VD hb k1 (fun q=>by simp [dR] at q) (fun q=>by simp [dR] at q) (fun q=>by simp [dR] at q) (fun q=>by simp [dR] at q) rn
 rw [if_neg p3]
 refine h.quiet hs.1 hep hw (VF (by rw [hj,XF p1 p2 p3,XF (by simp [dR]) (by simp [dR]) (by simp [dR])]) (.inr (by rw [hj];exact p3)) (.inl (by simp only [dR];omega))) hB (by exact(congrArg bE.aI hj).symm) (.inl rfl) ?_
 rw [jP]
 exact VD hb k1 (fun q=>by simp [dR] at q) (fun q=>by simp [dR] at q) (fun q=>by simp [dR] at q) (fun q=>by simp [dR] at q) rn
end
end Go.Gv
end
noncomputable section
namespace Go.Gv
structure a77 (b:aA) (w:Int) (NL:List bC) (r:dA):Prop where
 mem:r∈bH b.aO
 live:hC b.Mem r.Handle
 rest:∀x∈bH b.aO,x.Handle≠r.Handle->x∈bH NL
 sub:∀x∈bH NL,x∈bH b.aO/\x.Handle≠r.Handle
 uni:∀x∈bH b.aO,x.Handle=r.Handle->x=r
 other:∀v,0<=v/\v<=2->v≠w->dC NL v=dC b.aO v
theorem a1Z{b:aA}(hb:mC b){w:Int}(hw:0<=w/\w<=2){k:Int}(hk:0<=k/\k < (dC b.aO w).length):a77 b w (b.aO.set w.toNat ⟨(dC b.aO w).eraseIdx k.toNat⟩) (JA (dC b.aO w) k):=by
 have hL:=hb.1.2.2.1
 have h3:=hL.1
 have kx:w.toNat < b.aO.length:=by omega
 have hm:=aHN (l:=dC b.aO w) hk
 have hf:=U8 hL hw hm
 have hjl:k.toNat < (dC b.aO w).length:=by omega
 have er:JA (dC b.aO w) k=(dC b.aO w)[k.toNat]:=by
  have:=aOQ (l:=dC b.aO w) hjl
  rw [show((k.toNat:Nat):Int)=k by omega] at this
  exact this
 have hrow:b.aO[w.toNat].Rows=dC b.aO w:=by
  have:=GR hL hw
  rw [fU hw.1 (by omega)] at this
  injection this with this
  rw [this]
 have hperm:=aHH hjl
 have hset:bH (b.aO.set w.toNat ⟨(dC b.aO w).eraseIdx k.toNat⟩)=bH (b.aO.take w.toNat)++((dC b.aO w).eraseIdx k.toNat++bH (b.aO.drop (w.toNat+1))):=GO kx _
 have hspl:bH b.aO=bH (b.aO.take w.toNat)++(dC b.aO w++bH (b.aO.drop (w.toNat+1))):=by rw [C5 kx,hrow]
 have hp:(bH b.aO).Perm (JA (dC b.aO w) k :: bH (b.aO.set w.toNat ⟨(dC b.aO w).eraseIdx k.toNat⟩)):=by
  rw [hspl,hset,er]
  have e1:=(hperm.append_right (bH (b.aO.drop (w.toNat+1)))).append_left (bH (b.aO.take w.toNat))
  refine e1.trans ?_
  rw [OS]
  exact WB
 have nd:=hL.2.2.2
 have nd2:=(hp.map lQ).nodup_iff.1 nd
 rw [y8,WA] at nd2
 refine⟨hf,(hb.2 _ hf).1,fun x hx hn=>?_,fun x hx=>⟨hp.mem_iff.2 (j9 _ hx),fun e=>?_⟩,fun x hx e=>?_,fun v hv hn=>aHZ h3 hw hv hn _⟩
 ·rcases fA.1 (hp.mem_iff.1 hx) with z | z
  ·exact absurd (by rw [z]) hn
  ·exact z
 ·exact nd2.1 (DD.2 ⟨x,hx,by unfold lQ;rw [e]⟩)
 ·exact map_inj nd x hx _ hf (by unfold lQ;rw [e])
noncomputable section
variable {s:aG} (hs:DA s) {n:Int} (h:Sv s.aA s.Cells (aL s) s.Log n) (hep:Ep s.aA.aD (aL s)) {w:Int} (hw:0<=w/\w<=2) {j:bE} (hj:aL s w=j) (hb:j.eT=true) (hjk:lR j.Op/\cX j.H/\cX j.Old)
include hs h hep hw hj hb
theorem aH0(k4:j.Op.Kind=4)(p1:j.Pc=1){j':bE}(jo:j'.Op=j.Op)(jse:j'.aI=j.aI)(jb:j'.eT=true)(jp:(pE s.aA w j.Sub).2.cZ=true/\j'.Pc=9\/(pE s.aA w j.Sub).2.cZ=false/\j'.Pc=1/\j'.Sub=(pE s.aA w j.Sub).2) :
  Sv (pE s.aA w j.Sub).1 s.Cells (OQ (aL s) w j') (s.Log ++ []) n:=by
 have hB:(aL s w).eT=true:=by rw [hj];exact hb
 have hL:=hs.1.1.2.2.1
 have own:=h.jv w hw
 rw [hj] at own
 have rn:=own.n hb (by unfold Reads;omega)
 obtain⟨sk,sd,ck⟩:=own.k k4 p1
 have nk:(aL s w).Op.Kind≠1\/(aL s w).Pc≠3:=.inl (by rw [hj];omega)
 have n0:DB (aL s w)=0:=sV (by rw [hj];omega)
 have nj:DB j'=0:=sV (by rw [jo];omega)
 have quiet:(pE s.aA w j.Sub).1=s.aA->(∀v,0<=v/\v<=2->∀H,rK s.aA.l7 v=H->UnJ j v H->j'.Pc=1->UnJ j' v H)->(j'.Pc=1->a4Z s.aA.aD.aJ (dC s.aA.aO w) j'.Sub)->Sv (pE s.aA w j.Sub).1 s.Cells (OQ (aL s) w j') (s.Log ++ []) n:=fun eb hu hk=>by
  rw [eb]
  have q:Qt s.aA s.aA (aL s) w j':=⟨rfl,rfl,uQ _,fun _ _ _ p=>⟨p,rfl⟩,fun _ _ _=>rfl,by rw [nj,n0],fun k _=>by rw [hj] at k;omega,fun v hv H hz u=>by
   rw [hj] at u
   by_cases z:j'.Pc=1
   ·exact hu v hv H hz u z
   ·exact fun _ p=>absurd p z⟩
  refine h.quiet hs.1 hep hw q hB (by rw [hj];exact jse) (.inl rfl) ?_
  rw [jP,jse]
  exact VE jb (.inl (by rw [jo];exact k4)) (fun _ p=>hk p) rn
 have e0:=hep
 unfold pE at jp quiet ⊢
 rcases ck with q0 | ⟨eE,⟨q1,r0⟩ | ⟨q2,hB2,ha,hr⟩ | ⟨q3,ha,hr⟩⟩
 ·simp only [if_pos q0] at jp quiet ⊢
  rcases jp with jp | ⟨jd,jp,js⟩
  ·rw [sd] at jp;cases jp.1
  refine quiet trivial (fun v hv H hz u _ _ _ _=>?_) fun _=>?_
  ·rw [js];exact⟨fun z=>by simp at z,by simp⟩
  ·rw [js];exact⟨sk,sd,.inr ⟨uQ _,.inl ⟨rfl,by simp⟩⟩⟩
 ·simp only [if_neg (show ¬j.Sub.Pc=0 by omega),if_pos q1] at jp quiet ⊢
  by_cases q:xA (dC s.aA.aO w) j.Sub.E j.Sub.Row.toNat < (dC s.aA.aO w).length
  ·simp only [if_pos q] at jp quiet ⊢
   rcases jp with jp | ⟨jd,jp,js⟩
   ·rw [sd] at jp;cases jp.1
   obtain⟨f1,f2⟩:=aQJ q
   refine quiet trivial (fun v hv H hz u _ _ _ _=>?_) fun _=>?_
   ·rw [js];exact⟨fun _=>hv.1,by simp⟩
   ·rw [js]
    refine⟨sk,sd,.inr ⟨eE,.inr (.inl ⟨rfl,by simp,⟨by simp only;omega,by simp only;omega,rfl⟩,?_⟩)⟩⟩
    simp only
    rw [aOQ q];exact f2
  ·simp only [if_neg q] at jp quiet ⊢
   rcases jp with ⟨jd,jp⟩ | ⟨jd,jp,js⟩
   ·exact quiet trivial (fun v hv H hz u p=>by omega) fun p=>by omega
   ·cases jd
 ·simp only [if_neg (show ¬j.Sub.Pc=0 by omega),if_neg (show ¬j.Sub.Pc=1 by omega),if_pos q2,if_pos (show(0<=j.Sub.B/\j.Sub.B<=2)/\IN (dC s.aA.aO w) j.Sub from ⟨hB2,ha⟩)] at jp quiet ⊢
  by_cases q:rK s.aA.l7 j.Sub.B=j.Sub.H
  ·simp only [if_pos q] at jp quiet ⊢
   rcases jp with jp | ⟨jd,jp,js⟩
   ·rw [sd] at jp;cases jp.1
   refine quiet trivial (fun v hv H hz u _ _ _ _=>?_) fun _=>?_
   ·rw [js];exact⟨fun z=>by simp at z,by simp⟩
   ·rw [js];exact⟨sk,sd,.inr ⟨eE,.inl ⟨rfl,by have:=ha.1;simp only;omega⟩⟩⟩
  ·simp only [if_neg q] at jp quiet ⊢
   rcases jp with jp | ⟨jd,jp,js⟩
   ·rw [sd] at jp;cases jp.1
   refine quiet trivial (fun v hv H hz u _ _ _ hH=>?_) fun _=>?_
   ·rw [js] at hH ⊢
    simp only at hH ⊢
    obtain⟨u1,u2⟩:=u k4 p1 hH
    have u1:=u1 q2
    have ne:j.Sub.B≠v:=fun z=>q (by rw [z,hz,hH])
    refine⟨fun _=>by omega,?_⟩
    rw [if_neg (by omega)];omega
   ·rw [js]
    refine⟨sk,sd,.inr ⟨eE,.inr ?_⟩⟩
    by_cases z:j.Sub.B=2
    ·exact .inr ⟨by simp only [if_pos z],ha,hr⟩
    ·exact .inl ⟨by simp only [if_neg z],by simp only;omega,ha,hr⟩
 ·simp only [if_neg (show ¬j.Sub.Pc=0 by omega),if_neg (show ¬j.Sub.Pc=1 by omega),if_neg (show ¬j.Sub.Pc=2 by omega),if_pos q3,if_pos (show IN (dC s.aA.aO w) j.Sub/\FO (JA (dC s.aA.aO w) j.Sub.Row) j.Sub.E from ⟨ha,hr⟩)] at jp ⊢
  rcases jp with jp | ⟨jd,jp,js⟩
  ·rw [sd] at jp;cases jp.1
  obtain⟨a0,a1,a2⟩:=ha
  obtain⟨o1,o2,o3,o4,o5,o6⟩:=a1Z hs.1 hw (k:=j.Sub.Row) ⟨a0,a1⟩
  rw [a2] at o2 o3 o4 o5
  generalize s.aA.aO.set w.toNat ⟨(dC s.aA.aO w).eraseIdx j.Sub.Row.toNat⟩=NL at o3 o4 o6
  obtain⟨f1,f2,f3,f4⟩:=aHV hs.1.1.1 hw o2
  have fs:=fun{t:Int} (ht:t≠j.Sub.H % 32)=>aQO hs.1.1.1 hw o2 ht
  have dat:∀H,hC s.aA.Mem H->vK (FP s.aA.Mem w j.Sub.H).aC (H % 32)=vK s.aA.Mem.aC (H % 32):=fun H hl=>aYW hs.1.1.1 o2 (hJ hl.2.1)
  have hheld:CK s.aA.aO (j.Sub.H % 32):=⟨_,o1,by rw [a2];exact o2.1,by rw [a2]⟩
  have hrl:=fun(H:Int)=>(h.ow.live H)
  have ripe:(JA (dC s.aA.aO w) j.Sub.Row).aJ<=j.Sub.E - 2:=by
   have:=hr.2
   have ec:=hs.1.1.2.1.1
   rw [aM (by have:=hr.1;omega) (by omega)] at this
   exact this
  have hln:∀t,t≠j.Sub.H % 32->(CK NL t↔CK s.aA.aO t):=fun t ht=>by
   constructor
   ·rintro⟨r,r1,r2,r3⟩
    exact⟨r,(o4 r r1).1,r2,r3⟩
   ·rintro⟨r,r1,r2,r3⟩
    exact⟨r,o3 r r1 (fun z=>ht (by rw [<-r3,z])),r2,r3⟩
  rw [jP]
  have un':∀v,0<=v/\v<=2->∀H,RM (aL s) v H->RM (OQ (aL s) w j') v H:=fun v hv H u a ha'=>by
   by_cases z:a=w
   ·subst z;rw [gE]
    intro _ _ _
    rw [js];exact⟨fun z=>by simp at z,by simp⟩
   ·rw [eQ _ _ z];exact u a ha'
  refine h.make hs.1 hep hw ?_ (fun k hk=>?_) (fun v hv hn=>⟨uQ _,o6 v hv hn,fun p=>⟨p,rfl⟩,rfl,fun e H h0 _ hbl sa=>?_,fun _ u=>un' v hv _ u,fun e H sa hH'=>dat H (sa.live hs.1 h.ow hH'),fun hH'=>?_⟩) ?_ (fun _ _=>rfl) h.tr h.se.1 (uQ _) fun _=>⟨by rw [jse,<-hj];exact h.se.2.1 w hw hB,.inl ⟨by rw [hj];exact jse,hB⟩⟩
  ·refine h.ow.a6W (x:=j.Sub.H % 32) hheld f4 (fun t ht=>fs ht) (fun t ht h3=>by rw [f2 t (hJ h3),if_neg ht]) hln fun i hi=>?_
   by_cases z:i=w+2
   ·subst z;rw [fN _ _ hw,fN _ _ hw,gE,nj,n0]
   ·exact IQ hw hi z fun _ _ _=>rfl
  ·refine⟨(h.cv k hk).1,fun q=>?_⟩
   have l:=(h.ow.live k (by omega) (by rw [kO _ _ hk];exact q)).1
   rw [kO _ _ hk] at l
   show vK (FP s.aA.Mem w j.Sub.H).aC _=_
   rw [dat _ l];exact(h.cv k hk).2 q
  ·rcases sa with sa | ⟨u,hu,u1,u2,u3⟩ | ⟨r,r1,r2,r3⟩
   ·exact .inl sa
   ·have z:u≠w:=fun z=>by subst z;rw [hj] at u1;omega
    exact .inr (.inl ⟨u,hu,by rw [eQ _ _ z];exact⟨u1,u2,u3⟩⟩)
   ·refine .inr (.inr ⟨r,o3 r r1 fun z=>?_,r2,r3⟩)
    rcases hbl with hbl | ⟨u,hu,un⟩
    ·have er:=o5 r r1 z
     rw [er] at r3
     omega
    ·have:=un w hw
     rw [hj] at this
     exact(this k4 p1 (by rw [<-z];exact r2)).2 q3
  ·have l:=(h.ow.live (v+2) (by omega) (by rw [fN _ _ hv];exact hH')).1
   rw [fN _ _ hv] at l
   exact dat _ l
  ·rw [jse]
   refine VE jb (.inl (by rw [jo];exact k4)) (fun _ _=>?_) rn
   rw [js]
   exact⟨sk,sd,.inr ⟨eE,.inl ⟨rfl,a0⟩⟩⟩
include hjk
theorem aY2(k:j.Op.Kind=4\/j.Op.Kind=5\/j.Op.Kind=6):Sv (RL s w j).b (RL s w j).c (OQ (aL s) w (RL s w j).j) (s.Log++(RL s w j).l) n:=by
 have hB:(aL s w).eT=true:=by rw [hj];exact hb
 have hc:=hs.1.1.2.1
 have own:=h.jv w hw
 have nk:(aL s w).Op.Kind≠1\/(aL s w).Pc≠3:=.inl (by rw [hj];omega)
 have nm0:∀j':bE,j'.Op.Kind=j.Op.Kind->DB j'=DB (aL s w):=fun j' q=>by rw [sV (by omega),sV (by rw [hj];omega)]
 rw [hj] at own
 have rn:=own.n hb (by unfold Reads;omega)
 have bad:Sv s.aA s.Cells (OQ (aL s) w (dR j 9 1)) (s.Log ++ []) n:=by
  refine h.quiet hs.1 hep hw (VF (j':=dR j 9 1) (nm0 _ rfl) nk (.inr (by simp [dR]))) hB (by exact(congrArg bE.aI hj).symm) (.inl rfl) ?_
  rw [jP]
  exact VE hb k (fun _ q=>by simp [dR] at q) rn
 unfold RL
 by_cases k6:j.Op.Kind=6
 ·rw [if_pos k6]
  by_cases p0:j.Pc=0
  ·rw [if_pos p0]
   obtain⟨u1,u2⟩:=aSR hc hw
   refine h.quiet hs.1 hep hw (VG (by omega) (fun v hv hn p=>aAE (u2 v hv hn) p) (nm0 (dR j 9 _) rfl) nk (.inr (.inl (by simp [dR])))) hB (by exact(congrArg bE.aI hj).symm) (.inl rfl) ?_
   rw [jP]
   exact VE hb k (fun _ q=>by simp [dR] at q) rn
  ·rw [if_neg p0];exact bad
 rw [if_neg k6]
 by_cases k5:j.Op.Kind=5
 ·by_cases p0:j.Pc=0
  ·rw [if_pos (.inl p0)]
   obtain⟨_,_,_,i4⟩:=hep.1 w hw hB
   rw [hj] at i4
   obtain⟨sk,sd,_⟩:=i4 ⟨hb,.inr k5,p0⟩
   have es:gJ s.aA w j.Sub=Z8 s.aA w j.Sub:=by unfold gJ;simp [sk,sd]
   rw [es]
   obtain⟨cl,e1,e2,e3⟩:=aY0 hc hw j.Sub
   simp only [e1,if_pos k5]
   refine h.quiet hs.1 hep hw (VG (by omega) (fun v hv hn p=>aAE (e3 v hv hn) p) (nm0 _ (by split <;> rfl)) nk (.inl (by split <;> (simp only [dR];omega)))) hB (by rw [hj];split <;> rfl) (.inl rfl) ?_
   rw [jP]
   split
   ·exact VE hb k (fun _ q=>by simp [dR] at q) rn
   ·exact VE hb k (fun _ q=>by simp only at q;omega) rn
  ·rw [if_neg (fun q=>q.elim p0 fun q=>q.2 k5)];exact bad
 have k4:j.Op.Kind=4:=by omega
 by_cases p0:j.Pc=0
 ·rw [if_pos (.inl p0)]
  obtain⟨_,_,i3,_⟩:=hep.1 w hw hB
  rw [hj] at i3
  obtain⟨sk,sd,_⟩:=i3 ⟨hb,k4,p0⟩
  have es:gJ s.aA w j.Sub=uD s.aA j.Sub:=by unfold gJ;simp [sk,sd]
  rw [es]
  obtain⟨cl,e1,e2,e3⟩:=aQR hc j.Sub
  simp only [e1,if_neg k5,if_pos p0]
  refine h.quiet hs.1 hep hw (VG e2 (fun v hv hn p=>e3 v hv p) (nm0 _ (by split <;> rfl)) nk ?_) hB (by rw [hj];split <;> rfl) (.inl rfl) ?_
  ·split
   ·exact .inr (.inr rfl)
   ·exact .inr (.inl (by simp only;omega))
  rw [jP]
  split
  ·exact VE hb k (fun _ _=>⟨rfl,rfl,.inl rfl⟩) rn
  ·exact VE hb k (fun _ q=>by simp only at q;omega) rn
 by_cases p1:j.Pc=1
 ·rw [if_pos (.inr ⟨p1,k5⟩)]
  obtain⟨sk,sd,_⟩:=own.k k4 p1
  have es:gJ s.aA w j.Sub=pE s.aA w j.Sub:=by unfold gJ;simp [sk,sd]
  rw [es]
  simp only [if_neg k5,if_neg p0]
  cases hd:(pE s.aA w j.Sub).2.cZ with
  | true=>rw [if_pos rfl];exact aH0 hs h hep hw hj hb k4 p1 rfl rfl hb (.inl ⟨hd,rfl⟩)
  | false=>rw [if_neg (by simp)];exact aH0 hs h hep hw hj hb k4 p1 rfl rfl hb (.inr ⟨hd,p1,rfl⟩)
 ·rw [if_neg (fun q=>q.elim p0 fun q=>p1 q.1)];exact bad
end
theorem a21{b:aA}{c:List Int}{J:Int->bE}{o:Option (Ev×Ev)}{v:Int}:Jv b c J o v L6:=by
 have k:L6.Op.Kind=0:=rfl
 have bb:L6.eT=false:=rfl
 refine⟨fun _=>k,?_,?_,?_,?_,?_,?_,?_,?_,?_,?_,?_⟩
 ·intro q;omega
 ·intro q;omega
 ·intro q;omega
 ·intro q;omega
 ·intro q;omega
 ·intro q;rcases q with q | q <;> omega
 ·intro q;omega
 ·intro q;omega
 ·intro q;omega
 ·intro q;unfold Reads at q;omega
 ·intro q;rw [bb] at q;cases q
theorem a13{s:aG}(hs:DA s){w:Int}(hw:0<=w/\w<=2)(hep:Ep s.aA.aD (aL s))(h:Sv s.aA s.Cells (aL s) s.Log s.aI):Sv (MA s w).aA (MA s w).Cells (aL (MA s w)) (MA s w).Log (MA s w).aI:=by
 have h3:=hs.2.2.1
 have hjk:JOk (aL s w):=by
  have h:=rM hs hw
  rw [fU hw.1 (by omega)] at h
  injection h with h
  rw [<-h];exact hs.2.2.2.2.2.2 _ (eN _)
 have close:∀{b:aA} {c:List Int} {j':bE} {t:List Queue} {L:List Ev} {m:Int},Sv b c (OQ (aL s) w j') L m->Sv b c (aL ⟨b,c,s.aX.set w.toNat j',t,L,m⟩) L m:=fun{b c j' t L m} x=>by
  have e:∀v,0<=v/\v<=2->aL ⟨b,c,s.aX.set w.toNat j',t,L,m⟩ v=OQ (aL s) w j' v:=fun v hv=>VZ h3 hw hv b c j' t L m
  have es:∀{e H},rN b c (OQ (aL s) w j') e H->rN b c (aL ⟨b,c,s.aX.set w.toNat j',t,L,m⟩) e H:=fun{e' H} q=>by
   rcases q with q | ⟨v,hv,q⟩ | q
   ·exact .inl q
   ·exact .inr (.inl ⟨v,hv,by rw [e v hv];exact q⟩)
   ·exact .inr (.inr q)
  refine⟨x.ow.congr rfl rfl fun i hi=>?_,x.cv,fun v hv=>?_,x.tr,x.se.1,fun v hv=>by rw [e v hv];exact x.se.2.1 v hv,fun v u hv hu=>by rw [e v hv,e u hu];exact x.se.2.2 v u hv hu⟩
  ·rcases aHX hi with hk | ⟨v,hv,rfl⟩
   ·rw [kO _ _ hk,kO _ _ hk]
   ·rw [fN _ _ hv,fN _ _ hv,e v hv]
  ·rw [e v hv]
   obtain⟨a1,a2,a3,a4,a5,a6,a7,a8,a9,a10,a11,a12⟩:=x.jv v hv
   refine⟨a1,a2,a3,a4,a5,a6,fun g p=>?_,a8,a9,fun k p=>?_,a11,a12⟩
   ·obtain⟨q,r⟩:=a7 g p
    exact⟨es q,r⟩
   ·obtain⟨q,u,r⟩:=a10 k p
    exact⟨es q,fun a ha=>by rw [e a ha];exact u a ha,r⟩
 unfold MA
 by_cases hb:(aL s w).eT=false
 ·rw [if_pos hb]
  unfold aHR
  cases ho:XD s.dT w with
  | nil=>exact h
  | cons o r =>
   simp only
   by_cases hm:s.aI=1000000
   ·rw [if_pos hm];exact h
   rw [if_neg hm]
   refine close ?_
   obtain⟨f1,f2,_,_⟩:=aYT s.aA.aD w o (s.aI+1)
   have n0:DB (aL s w)=0:=sV (by have:=(h.jv w hw).idle hb;omega)
   have k0:=(h.jv w hw).idle hb
   have st:(CP s.aA.aD w o (s.aI+1)).Op=o/\((CP s.aA.aD w o (s.aI+1)).Pc=0\/(CP s.aA.aD w o (s.aI+1)).Pc=9/\(CP s.aA.aD w o (s.aI+1)).Code=1)/\(o.Kind=1->(CP s.aA.aD w o (s.aI+1)).Sub=S3 1 o.iI):=by
    unfold CP
    split
    ·exact⟨rfl,.inl rfl,fun _=>rfl⟩
    split
    ·rename_i q1 q2
     split
     ·exact⟨rfl,.inr ⟨rfl,rfl⟩,fun q=>absurd q q1⟩
     ·exact⟨rfl,.inl rfl,fun q=>absurd q q1⟩
    split
    ·rename_i q1 q2 q3
     exact⟨rfl,.inl rfl,fun q=>absurd q q1⟩
    ·rename_i q1 q2 q3
     exact⟨rfl,.inl rfl,fun q=>absurd q q1⟩
   obtain⟨so,sp,ss⟩:=st
   generalize CP s.aA.aD w o (s.aI+1)=j at f1 f2 so sp ss
   generalize hE:(⟨1,w,s.aI+1,o.Cell,0,0,0⟩:Ev)=E
   have eK:E.Kind=1:=by rw [<-hE]
   have eS:E.aI=s.aI+1:=by rw [<-hE]
   have rE:∀m,rdx (s.Log ++ [E]) m=rdx s.Log m:=fun m=>by rw [V1,if_neg (fun z=>by have:=z.1;omega)]
   have sE:∀k,swp (s.Log ++ [E]) k=swp s.Log k:=fun k=>by rw [aAD,if_neg (fun z=>by have:=z.1;omega)]
   have nj:DB j=0:=XF (by omega) (by omega) (by omega)
   have q:Qt s.aA s.aA (aL s) w j:=VF (by rw [n0,nj]) (.inl (by omega)) (.inr (by omega))
   refine h.make hs.1 hep hw ?_ (fun k hk=>by rw [sE];exact h.cv k hk) (fun v hv hn=>q.frm hw hv hn) ?_ (fun m _=>rE m) (h.tr.snoc fun z=>by omega) (fun e he=>?_) (by omega) fun _=>⟨by omega,.inr (by omega)⟩
   ·refine h.ow.congr rfl rfl fun i hi=>?_
    by_cases z:i=w+2
    ·subst z;rw [fN _ _ hw,fN _ _ hw,gE,nj,n0]
    ·exact IQ hw hi z fun _ _ _=>rfl
   ·have rn:rdx (s.Log ++ [E]) j.aI=none:=by rw [rE];exact a1W fun e he=>by have:=h.se.1 e he;omega
    refine⟨fun q=>(by rw [f1] at q;cases q),fun k p=>?_,fun k p=>by omega,fun k p=>by omega,fun k p=>by omega,fun k p=>by omega,fun g=>?_,fun k p=>by omega,fun k p=>by omega,fun k p=>by omega,fun k p=>?_,fun _ _=>rn⟩
    ·rw [ss (by rw [<-so];exact k)];exact⟨rfl,rfl,by simp [S3],by simp [S3]⟩
    ·exact absurd g (KP (by omega))
    ·exact Told.other (by omega) (by omega)
   ·rcases e9.1 he with z | z
    ·have:=h.se.1 e z;omega
    ·rw [YJ.1 z,eS];omega
 rw [if_neg hb]
 have hb':(aL s w).eT=true:=by simpa using hb
 by_cases h9:(aL s w).Pc=9
 ·rw [if_pos h9]
  refine close ?_
  have own:=h.jv w hw
  have n0:DB (aL s w)=0:=XF (by omega) (by omega) (by omega)
  have nj:DB L6=0:=sV (by decide)
  generalize hE:a2R w (aL s w)=E
  have eK:E.Kind=4:=by rw [<-hE];rfl
  have eS:E.aI=(aL s w).aI:=by rw [<-hE];rfl
  have eC:E.Code=(aL s w).Code:=by rw [<-hE];rfl
  have eV:E.dQ=(aL s w).dQ:=by rw [<-hE];rfl
  have rE:∀m,rdx (s.Log ++ [E]) m=rdx s.Log m:=fun m=>by rw [V1,if_neg (fun z=>by have:=z.1;omega)]
  have sE:∀k,swp (s.Log ++ [E]) k=swp s.Log k:=fun k=>by rw [aAD,if_neg (fun z=>by have:=z.1;omega)]
  have q:Qt s.aA s.aA (aL s) w L6:=VF (by rw [n0,nj]) (.inr (by omega)) (.inl (by decide))
  refine h.make hs.1 hep hw ?_ (fun k hk=>by rw [sE];exact h.cv k hk) (fun v hv hn=>q.frm hw hv hn) a21 (fun m _=>rE m) (h.tr.snoc fun _ hr=>?_) (fun e he=>?_) (uQ _) fun q=>by cases q
  ·refine h.ow.congr rfl rfl fun i hi=>?_
   by_cases z:i=w+2
   ·subst z;rw [fN _ _ hw,fN _ _ hw,gE,nj,n0]
   ·exact IQ hw hi z fun _ _ _=>rfl
  ·rw [eS] at hr ⊢
   rw [eC,eV]
   by_cases rr:Reads (aL s w)
   ·exact own.t rr (.inl h9)
   ·exact absurd (own.n hb' rr) hr
  ·rcases e9.1 he with z | z
   ·exact h.se.1 e z
   ·rw [YJ.1 z,eS];exact h.se.2.1 w hw hb'
 rw [if_neg h9]
 have hjo:=(A0 hb').1 hjk
 have hk:=hjo.1.1
 unfold mD
 refine close ?_
 unfold aT3
 by_cases k1:(aL s w).Op.Kind=1
 ·rw [if_pos k1];exact a43 hs h hep hw rfl hb' hjo k1
 rw [if_neg k1]
 by_cases k2:(aL s w).Op.Kind=2
 ·rw [if_pos k2];exact a41 hs h hep hw rfl hb' hjo k2
 rw [if_neg k2]
 by_cases k3:(aL s w).Op.Kind=3
 ·rw [if_pos k3];exact a42 hs h hep hw rfl hb' hjo k3
 rw [if_neg k3]
 by_cases k7:(aL s w).Op.Kind=7
 ·rw [if_pos k7];exact a1Y hs h hep hw rfl hb' hjo k7
 rw [if_neg k7]
 exact aY2 hs h hep hw rfl hb' hjo (by omega)
end Go.Gv
end
noncomputable section
namespace Go.Gv
def lst(L:List Ev):Int:=L.foldl (fun a e=>if e.Kind=4/\e.Who=1/\e.Code=0 then e.dQ else a) 0
def a6Y(a:Int)(e:Ev):Prop:=e.Kind=4->e.Who=1->e.Code=6\/(e.Code=8/\a=0)\/(e.Code=0/\(100<=e.dQ/\e.dQ<=105)/\a<=e.dQ)
def Good(L:List Ev):Prop:=∀M e N,L=M++e :: N->a6Y (lst M) e
theorem Good.snoc{L:List Ev}(h:Good L){e:Ev}(he:a6Y (lst L) e):Good (L ++ [e]):=by
 intro M x N hx
 rcases YD N with rfl | ⟨N',y,rfl⟩
 ·obtain⟨rfl,q⟩:=List.append_inj' hx (by rfl)
  injection q with q
  subst q
  exact he
 ·have e1:M++x :: (N'.concat y)=(M++x :: N') ++ [y]:=by simp
  rw [e1] at hx
  exact h M x N' (List.append_inj' hx (by rfl)).1
def w1N(L:List Ev):Nat:=L.countP fun e=>e.Kind == 4 && e.Who == 1
structure Rg (T:Int->List dY) (J:Int->bE) (L:List Ev) (on:Bool):Prop where
 q0:∀o∈T 0,o.Kind=1/\o.Cell=0/\100<=o.dQ/\o.dQ<=105
 p0:(T 0).Pairwise fun a b=>a.dQ < b.dQ
 j0:(J 0).eT=true->(J 0).Op.Kind=1/\(J 0).Op.Cell=0/\(100<=(J 0).Op.dQ/\(J 0).Op.dQ<=105)/\∀o∈T 0,(J 0).Op.dQ < o.dQ
 sw:∀e∈L,e.Kind=2->e.Cell=0/\(100<=e.dQ/\e.dQ<=105)/\(∀o∈T 0,e.dQ < o.dQ)/\((J 0).eT=true->(J 0).Pc=0\/(J 0).Pc=1\/(J 0).Pc=2->e.dQ < (J 0).Op.dQ)
 q1:∀o∈T 1,(o.Kind=2\/o.Kind=3)/\o.Cell=0
 j1:(J 1).eT=true->((J 1).Op.Kind=2\/(J 1).Op.Kind=3)/\(J 1).Op.Cell=0/\((J 1).Code=0\/(J 1).Code=6\/(J 1).Code=8)/\(0<=(J 1).Pc/\(J 1).Pc<=4\/(J 1).Pc=9)
 q2:∀o∈T 2,o.Kind=4
 j2:(J 2).eT=true->(J 2).Op.Kind=4
 pin:on=true->(J 1).eT=true/\(J 1).Op.Kind=2/\(J 1).Pc≠9
 cnt:w1N L+(if (J 1).eT=true then 1 else 0)+(T 1).length=6
 m1:lst L<=(swp L 0).dQ/\(lst L≠0->(swp L 0).Handle≠0)
 m2:(J 1).eT=true->∀e x,rdx L (J 1).aI=some (e,x)->x.dQ<=(swp L 0).dQ/\lst L<=x.dQ/\(x.Handle≠0->(swp L 0).Handle≠0/\100<=x.dQ/\x.dQ<=105)/\(x.Handle=0->lst L=0)
 a8B:Good L
noncomputable section
variable (s:aG) (w:Int) (j:bE)
end
structure a8L (s:aG) (w:Int) (j:bE) (r:JR):Prop where
 ev:r.l=[]\/∃x,r.l=[IP w j x]
 code:r.j.Code=0\/r.j.Code=6\/r.j.Code=8
 pc:0<=r.j.Pc/\r.j.Pc<=4\/r.j.Pc=9
 on:(bX r.b.aD w).On=true->j.Op.Kind=2/\r.j.Pc≠9
noncomputable section
variable {T:Int->List dY} {J:Int->bE} {L:List Ev} {on:Bool} (h:Rg T J L on)
include h
theorem Rg.congr{T':Int->List dY}{J':Int->bE}{on':Bool}(t0:T' 0=T 0)(t1:T' 1=T 1)(j0:J' 0=J 0)(j1:J' 1=J 1)(t2:∀o∈T' 2,o.Kind=4)(j2:(J' 2).eT=true->(J' 2).Op.Kind=4)(o:on'=true->on=true):Rg T' J' L on':=by
 refine⟨by rw [t0];exact h.q0,by rw [t0];exact h.p0,by rw [t0,j0];exact h.j0,by rw [t0,j0];exact h.sw,by rw [t1];exact h.q1,by rw [j1];exact h.j1,t2,j2,by rw [j1];exact fun q=>h.pin (o q),by rw [t1,j1];exact h.cnt,h.m1,by rw [j1];exact h.m2,h.a8B⟩
end
noncomputable section
variable {s:aG} (hs:DA s) (hv:Sv s.aA s.Cells (aL s) s.Log s.aI) (hep:Ep s.aA.aD (aL s)) (h:Rg (XD s.dT) (aL s) s.Log (bX s.aA.aD 1).On)
include hs hv hep h
end
end Go.Gv
end
noncomputable section
namespace Go.Gv
noncomputable section
variable {b:List UInt8} {i h:Int} (hc:Cu b i)
include hc
end
theorem aY3:∀q:List dY,kq q<=q.length
 | []=>iE _
 | o :: r => by
  have:=aY3 r
  simp only [kq,y8,List.sum_cons,yL] at *
  split <;> omega
theorem a23(k:Nat):∀q:List dY,qC k q<=16 * kq q+(q.length - kq q) * (15+5 * k)
 | []=>by simp [qC,kq]
 | o :: r => by
  have h1:=a23 k r
  have h2:=aY3 r
  by_cases k1:o.Kind=1
  ·have e1:kq (o :: r)=kq r+1:=by simp [kq,k1];omega
   have e2:qC k (o :: r)=16+qC k r:=by simp [qC,opC,k1]
   rw [e1,e2,yL,show r.length+1 - (kq r+1)=r.length - kq r by omega]
   omega
  ·have e1:kq (o :: r)=kq r:=by simp [kq,k1]
   have e2:qC k (o :: r)=opC k o+qC k r:=by simp [qC]
   have e3:opC k o<=15+5 * k:=by
    unfold opC
    rw [if_neg k1]
    repeat' split
    all_goals omega
   rw [e1,e2,yL,show r.length+1 - kq r=(r.length - kq r)+1 by omega,iD,Nat.one_mul]
   omega
theorem q8{q:List dY}(h:q.length<=8):qC (kq q) q<=204:=by
 have h1:=a23 (kq q) q
 have h2:=aY3 q
 have h3:(q.length - kq q) * (15+5 * kq q)<=(8 - kq q) * (15+5 * kq q):=Nat.mul_le_mul (by omega) (iE _)
 generalize kq q=k at h1 h2 h3 ⊢
 have hk:k=0\/k=1\/k=2\/k=3\/k=4\/k=5\/k=6\/k=7\/k=8:=by omega
 rcases hk with rfl | rfl | rfl | rfl | rfl | rfl | rfl | rfl | rfl <;> omega
end Go.Gv
end
noncomputable section
namespace Go.Gv
theorem sv0(t:List Queue):Sv (lH t).aA (lH t).Cells (aL (lH t)) (lH t).Log (lH t).aI:=by
 have e1:∀v:Int,0<=v/\v<=2->aL (lH t) v=L6:=fun v hv=>by
  have hc:v=0\/v=1\/v=2:=by omega
  rcases hc with rfl | rfl | rfl <;> rfl
 have c0:∀k:Int,0<=k/\k<=1->cellAt (lH t).Cells k=0:=fun k hk=>by
  have hc:k=0\/k=1:=by omega
  rcases hc with rfl | rfl <;> rfl
 have n0:∀i,0<=i/\i<=4->nm (lH t).Cells (aL (lH t)) i=0:=fun i hi=>by
  rcases aHX hi with hk | ⟨v,hv,rfl⟩
  ·rw [kO _ _ hk];exact c0 i hk
  ·rw [fN _ _ hv,e1 v hv];exact sV (by decide)
 have un:∀t',dU aHO.Mem t'≠3:=fun t' h=>by
  have h1:=(iA.1 h).1
  obtain⟨a,b,c⟩:=qH h1
  have key:∀p:Nat,p < 6->bQ aHO.Mem.aC p = -1:=by decide
  rw [key _ (by omega)] at c
  omega
 refine⟨⟨fun i hi hn=>absurd (n0 i hi) hn,fun i j hi _ hn=>absurd (n0 i hi) hn,fun t' ht=>absurd ht (un t')⟩,fun k hk=>⟨(c0 k hk).symm,fun q=>absurd (c0 k hk) q⟩,fun v hv=>by rw [e1 v hv];exact a21,fun M e N hx=>by simp [lH] at hx,fun e he=>by simp [lH] at he,fun v hv hb=>(by rw [e1 v hv] at hb;cases hb),fun v u hv _ hb=>by rw [e1 v hv] at hb;cases hb⟩
end Go.Gv
end
noncomputable section
namespace Go.Gv
def MH:List Int->Int->List Int
 | [],x=>[x]
 | a :: t,x=>if a=x then a :: t else if x < a then x :: a :: t else a :: MH t x
theorem IS(y x:Int):∀l:List Int,y∈MH l x↔y=x\/y∈l
 | []=>by simp [MH]
 | a :: t => by
  unfold MH
  split
  ·rename_i h
   constructor
   ·exact .inr
   ·rintro(rfl | h')
    ·rw [<-h];exact MM ..
    ·exact h'
  split
  ·rw [fA]
  ·rw [fA,fA,IS y x t]
   constructor
   ·rintro(h | h | h)
    ·exact .inr (.inl h)
    ·exact .inl h
    ·exact .inr (.inr h)
   ·rintro(h | h | h)
    ·exact .inr (.inl h)
    ·exact .inl h
    ·exact .inr (.inr h)
theorem VH(x:Int):∀{l:List Int},l.Pairwise (· < ·)->(MH l x).Pairwise (· < ·)
 | [],_=>List.pairwise_singleton _ _
 | a :: t, h => by
  have h':=YL.1 h
  unfold MH
  split
  ·exact h
  split
  ·rename_i hx
   rw [YL]
   refine⟨fun y hy=>?_,h⟩
   rcases fA.1 hy with rfl | hy
   ·exact hx
   ·have:=h'.1 y hy;omega
  ·rename_i h1 h2
   rw [YL]
   refine⟨fun y hy=>?_,VH x h'.2⟩
   rcases(IS y x t).1 hy with rfl | hy
   ·omega
   ·exact h'.1 y hy
theorem aH1{x:Int}:∀{l:List Int},x∉l->(MH l x).length=l.length+1
 | [],_=>rfl
 | a :: t, h => by
  unfold MH
  rw [if_neg (fun e=>h (by rw [e];exact MM ..))]
  split
  ·rfl
  ·rw [yL,aH1 (fun z=>h (j9 _ z))];rfl
theorem aAF{x:Int}:∀{l:List Int},l.Pairwise (· < ·)->x∈l->MH l x=l
 | [],_,h=>by cases h
 | a :: t, hp, h => by
  have h':=YL.1 hp
  unfold MH
  split
  ·rfl
  ·rename_i ne
   have ht:x∈t:=by
    rcases fA.1 h with e | e
    ·exact absurd e.symm ne
    ·exact e
   have:=h'.1 x ht
   rw [if_neg (by omega),aAF h'.2 ht]
noncomputable section
variable {l:List Int} (hl:l.length<=1000) {x:Int}
include hl
theorem aOV:∀d k:Nat,k+d=l.length->(∀y∈l.drop k,y≠x)->∀out:List Int,out.length<=100000+k->loop (jW l x) (out,true,(k:Int))=some (Out.brk (out++l.drop k,true))
 | 0, k, hk, _, out, _ => by
  refine bL ?_
  simp only [jW]
  rw [if_neg (by simp;omega),List.drop_of_length_le (by omega),jP]
 | d + 1, k, hk, hy, out, ho => by
  have hkl:k < l.length:=by omega
  have hd:l.drop k=l[k] :: l.drop (k+1):=y6 hkl
  have ne:(l[k] == x)=false:=by simpa using hy l[k] (by rw [hd];exact MM ..)
  rw [bP (s':=(out ++ [l[k]],true,((k+1:Nat):Int))) (by
   simp only [jW,rA,qZ]
   rw [if_pos (by simp;omega),aU hkl,aE,ne]
   simp only [aQ,if_false,dE,aE]
   rw [aN (by simp;omega),aM (by omega) (by omega)];rfl),aOV d (k+1) (by omega) (fun y h=>hy y (by rw [hd];exact j9 _ h)) (out ++ [l[k]]) (by simp;omega),hd,jM]
  rfl
theorem aOW:∀d k:Nat,k+d=l.length->(l.drop k).Pairwise (· < ·)->∀out:List Int,out.length<=50000+k->((loop (jW l x) (out,false,(k:Int))).bind fun o=>wK x o)=some (if x∈l.drop k then l else out++MH (l.drop k) x)
 | 0, k, hk, _, out, ho => by
  rw [bL (r:=Out.brk (out,false)) (by simp only [jW];rw [if_neg (by simp;omega)]),aE]
  simp only [wK,LA,wJ]
  rw [List.drop_of_length_le (by omega),if_pos (by simp),aN (by simp;omega),if_neg (by simp)]
  rfl
 | d + 1, k, hk, hp, out, ho => by
  have hkl:k < l.length:=by omega
  have hd:l.drop k=l[k] :: l.drop (k+1):=y6 hkl
  have hp':=hp
  rw [hd] at hp'
  obtain⟨h1,h2⟩:=YL.1 hp'
  by_cases e:l[k]=x
  ·rw [bL (r:=Out.ret l) (by
    simp only [jW]
    rw [if_pos (by simp;omega),aU hkl,aE,if_pos (by simpa using e)]),aE]
   simp only [wK]
   rw [if_pos (by rw [hd,e];exact MM ..)]
  have ne:(l[k] == x)=false:=by simpa using e
  by_cases g:x < l[k]
  ·have hx:∀y∈l.drop (k+1),y≠x:=fun y hy=>by have:=h1 y hy;omega
   rw [bP (s':=(out ++ [x] ++ [l[k]],true,((k+1:Nat):Int))) (by
    simp only [jW,rA,qZ]
    rw [if_pos (by simp;omega),aU hkl,aE,ne,aZ g]
    simp only [aQ,if_false,iU,if_true,aE]
    rw [aN (by simp;omega),aN (by simp;omega),aM (by omega) (by omega)];rfl),aOV hl d (k+1) (by omega) hx _ (by simp;omega),aE]
   simp only [wK,LA,wJ,dE,aQ,if_false]
   rw [if_neg (by rw [hd];exact fun z=>(fA.1 z).elim (fun z=>e z.symm) (fun z=>hx x z rfl)),hd]
   unfold MH
   rw [if_neg e,if_pos g]
   simp
  ·rw [bP (s':=(out ++ [l[k]],false,((k+1:Nat):Int))) (by
    simp only [jW,rA,qZ]
    rw [if_pos (by simp;omega),aU hkl,aE,ne,bM g]
    simp only [aQ,if_false,iU,if_true,aE]
    rw [aN (by simp;omega),aM (by omega) (by omega)];rfl),aOW d (k+1) (by omega) h2 (out ++ [l[k]]) (by simp;omega),hd]
   have eI:MH (l[k] :: l.drop (k+1)) x=l[k] :: MH (l.drop (k+1)) x:=by
    conv=>lhs;unfold MH
    rw [if_neg e,if_neg g]
   rw [eI]
   by_cases m:x∈l.drop (k+1)
   ·rw [if_pos m,if_pos (j9 _ m)]
   ·rw [if_neg m,if_neg (fun z=>(fA.1 z).elim (fun z=>e z.symm) m)]
    simp
theorem put_eq(hp:l.Pairwise (· < ·)):rU l x=some (MH l x):=by
 have:=aOW hl (x:=x) l.length 0 (by omega) (by rw [FW];exact hp) [] (by simp)
 unfold rU
 rw [FW] at this
 rw [show(([]:List Int),false,(0:Int))=([],false,((0:Nat):Int)) from rfl]
 by_cases m:x∈l
 ·rw [if_pos m] at this
  rw [aAF hp m];exact this
 ·rw [if_neg m] at this;exact this
end
def aOX(l:List Int)(x:Int):List Int:=if x=0 then l else MH l x
def gP(c:List Int)(J:Int->bE):Nat->List Int
 | 0=>[]
 | k+1=>aOX (gP c J k) (nm c J k)
theorem FQ(c:List Int)(J:Int->bE):∀k,(gP c J k).Pairwise (· < ·)
 | 0=>List.Pairwise.nil
 | k + 1 => by
  have:=FQ c J k
  unfold gP aOX
  split
  ·exact this
  ·exact VH _ this
theorem KW(c:List Int)(J:Int->bE)(y:Int):∀k,y∈gP c J k↔∃i:Nat,i < k/\nm c J i=y/\y≠0
 | 0=>by simp [gP]
 | k + 1 => by
  have ih:=KW c J y k
  unfold gP aOX
  constructor
  ·intro h
   split at h
   ·obtain⟨i,h1,h2⟩:=ih.1 h
    exact⟨i,by omega,h2⟩
   ·rename_i q
    rcases(IS _ _ _).1 h with e | e
    ·exact⟨k,by omega,e.symm,by rw [e];exact q⟩
    ·obtain⟨i,h1,h2⟩:=ih.1 e
     exact⟨i,by omega,h2⟩
  ·rintro⟨i,h1,h2,h3⟩
   by_cases e:i=k
   ·subst e
    rw [if_neg (by rw [h2];exact h3),IS];exact .inl h2.symm
   ·have:=ih.2 ⟨i,by omega,h2,h3⟩
    split
    ·exact this
    ·rw [IS];exact .inr this
theorem V3(c:List Int)(J:Int->bE):∀k,(gP c J k).length<=k
 | 0=>iE _
 | k + 1 => by
  have ih:=V3 c J k
  unfold gP aOX
  split
  ·omega
  ·by_cases m:nm c J k∈gP c J k
   ·rw [aAF (FQ c J k) m];omega
   ·rw [aH1 m];omega
theorem add_eq(c:List Int)(J:Int->bE){k:Nat}(hk:k<=10)(x:Int):rU (gP c J k) x=some (MH (gP c J k) x):=put_eq (by have:=V3 c J k;omega) (FQ c J k)
noncomputable section
variable {s:aG} (hs:DA s) (hl:s.Log.length<=1000000)
include hs hl
theorem aQT:QT s=some (gP s.Cells (aL s) 5):=by
 have hsm:=rV hs hl
 have c2:=hs.2.1
 unfold QT
 rw [aEN hsm,aZ hs,aE]
 have k1:loop (AH s true) (([]:List Int),0)=some (gP s.Cells (aL s) 2):=fV (f:=AH s true) 2 (fun k=>(gP s.Cells (aL s) k,(k:Int))) _ (fun k hk=>by
  have hx:idx s.Cells (k:Int)=some (nm s.Cells (aL s) k):=by rw [CQ hs (k:=(k:Int)) (by omega),kO _ _ (k:=(k:Int)) (by omega)]
  have ae:=add_eq s.Cells (aL s) (k:=k) (by omega) (nm s.Cells (aL s) k)
  have ew:aY ((k:Int)+1)=((k+1:Nat):Int):=by rw [aM (by omega) (by omega)];rfl
  simp only [AH,AG,HO]
  rw [if_pos (by simp;omega),if_pos trivial,hx]
  simp only [aE,ew]
  by_cases q:nm s.Cells (aL s) k=0
  ·rw [if_neg (by simpa using q)]
   have:gP s.Cells (aL s) (k+1)=gP s.Cells (aL s) k:=by simp only [gP,aOX];rw [if_pos q]
   rw [this]
  ·rw [if_pos (by simpa using q),ae,aE]
   have:gP s.Cells (aL s) (k+1)=MH (gP s.Cells (aL s) k) (nm s.Cells (aL s) k):=by simp only [gP,aOX];rw [if_neg q]
   rw [this]) (by simp [AH,AG])
 rw [k1,aE]
 simp only [WR,WQ]
 have k2:loop (AF s true) (gP s.Cells (aL s) 2,0)=some (gP s.Cells (aL s) 5):=fV (f:=AF s true) 3 (fun k=>(gP s.Cells (aL s) (k+2),(k:Int))) _ (fun k hk=>by
  have hx:idx s.aX (k:Int)=some (aL s k):=rM hs (by omega)
  have en:nm s.Cells (aL s) ((k+2:Nat):Int)=DB (aL s k):=by
   have:=fN s.Cells (aL s) (v:=(k:Int)) (by omega)
   rw [<-this];rfl
  have ae:=fun x=>add_eq s.Cells (aL s) (k:=k+2) (by omega) x
  have ew:aY ((k:Int)+1)=((k+1:Nat):Int):=by rw [aM (by omega) (by omega)];rfl
  have same:DB (aL s k)=0->gP s.Cells (aL s) (k+1+2)=gP s.Cells (aL s) (k+2):=fun q=>by
   rw [show k+1+2=(k+2)+1 by omega]
   conv=>lhs;unfold gP aOX
   rw [en,if_pos q]
  have more:DB (aL s k)≠0->gP s.Cells (aL s) (k+1+2)=MH (gP s.Cells (aL s) (k+2)) (DB (aL s k)):=fun q=>by
   rw [show k+1+2=(k+2)+1 by omega]
   conv=>lhs;unfold gP aOX
   rw [en,if_neg q]
  simp only [AF,AE,AD,HN,HM,AB]
  rw [if_pos (by simp;omega),if_pos trivial,hx,aE,ew]
  generalize aL s k=j at same more
  by_cases k1:j.Op.Kind=1
  ·have k1':(j.Op.Kind != 1)=false:=by simpa using k1
   rw [k1',if_neg (by simp)]
   by_cases p1:j.Pc=1
   ·have e:DB j=j.H:=aUE k1 (.inl p1)
    rw [e] at same more
    have q1:(j.Pc == 1)=true:=by simpa using p1
    have q3:(j.Pc == 3)=false:=by rw [p1];rfl
    simp only [q1,q3,if_true,aQ,if_false]
    by_cases z:j.H=0
    ·rw [if_neg (by simpa using z),same z]
    ·rw [if_pos (by simpa using z),ae,aE,more z]
   have q1:(j.Pc == 1)=false:=by simpa using p1
   by_cases p2:j.Pc=2
   ·have e:DB j=j.H:=aUE k1 (.inr p2)
    rw [e] at same more
    have q2:(j.Pc == 2)=true:=by simpa using p2
    have q3:(j.Pc == 3)=false:=by rw [p2];rfl
    simp only [q1,q2,q3,if_true,aQ,if_false]
    by_cases z:j.H=0
    ·rw [if_neg (by simpa using z),same z]
    ·rw [if_pos (by simpa using z),ae,aE,more z]
   have q2:(j.Pc == 2)=false:=by simpa using p2
   by_cases p3:j.Pc=3
   ·have e:DB j=j.Old:=nm3 k1 p3
    rw [e] at same more
    have q3:(j.Pc == 3)=true:=by simpa using p3
    simp only [q1,q2,q3,if_true,aQ,if_false]
    by_cases z:j.Old=0
    ·rw [if_neg (by simpa using z),same z]
    ·rw [if_pos (by simpa using z),ae,aE,more z]
   ·have q3:(j.Pc == 3)=false:=by simpa using p3
    simp only [q1,q2,q3,aQ,if_false]
    rw [same (XF p1 p2 p3)]
  ·have k1':(j.Op.Kind != 1)=true:=by simpa using k1
   rw [k1',if_pos rfl,same (sV k1)]) (by simp [AF,AE])
 rw [k2];rfl
theorem aH2(ho:Ow s.aA (nm s.Cells (aL s))):(kH s.aA 24).getD 4 0=((gP s.Cells (aL s) 5).length:Int):=by
 have hb:=hs.1
 rw [aUB s.aA 24 4 (by omega)]
 have hsort:=FQ s.Cells (aL s) 5
 have lv:∀y∈gP s.Cells (aL s) 5,hC s.aA.Mem y/\¬CK s.aA.aO (y % 32):=fun y hy=>by
  obtain⟨i,h1,h2,h3⟩:=(KW _ _ y 5).1 hy
  have:=ho.live (i:Int) (by omega) (by rw [h2];exact h3)
  rw [h2] at this;exact this
 have:=aUA (p:=fun i=>decide (j4 s.aA i=((4:Nat):Int))) (n:=24) (l:=(gP s.Cells (aL s) 5).map (· % 32)) ?_ (fun x hx=>?_) (fun i hi=>?_)
 ·rw [this,List.length_map]
 ·rw [List.Nodup,List.pairwise_map]
  refine List.Pairwise.imp_of_mem (fun{a b} ha hb' hab e=>?_) hsort
  have:=aAC (lv a ha).1 (lv b hb').1 e
  omega
 ·obtain⟨y,hy,rfl⟩:=DD.1 hx
  have:=(lv y hy).1.1
  unfold jN at this
  (try simp only);omega
 ·rw [decide_eq_true_iff]
  unfold j4
  constructor
  ·intro h
   split at h
   ·rename_i h3
    split at h
    ·omega
    ·rename_i nh
     obtain⟨k,hk,k1,k2⟩:=ho.all (i:Int) h3 nh
     refine DD.2 ⟨nm s.Cells (aL s) k,(KW _ _ _ 5).2 ⟨k.toNat,by omega,by rw [aSW hk.1],k1⟩,k2⟩
   ·have:=X8 s.aA.Mem i;omega
  ·intro h
   obtain⟨y,hy,e⟩:=DD.1 h
   obtain⟨a,b⟩:=lv y hy
   have e:y % 32=(i:Int):=e
   rw [e] at b
   have:=a.2.1
   rw [e] at this
   rw [if_pos this,if_neg b];rfl
theorem aKJ:idx (kH s.aA 24) 4=some ((kH s.aA 24).getD 4 0):=by
 have hl5:=X9 s.aA 24
 rw [show(4:Int)=((4:Nat):Int) from rfl,aU (by omega)]
 simp [gR,eM (show 4 < (kH s.aA 24).length by omega)]
theorem VI(ho:Ow s.aA (nm s.Cells (aL s))):wL s=some true:=by
 have hsm:=rV hs hl
 have hb:=hs.1
 obtain⟨hcnt,h3,h9,h1,_⟩:=nF.facts hb.1.1
 have hnl:=V3 s.Cells (aL s) 5
 unfold wL
 rw [aQT hs hl,aE]
 have lp:loop (pA s (gP s.Cells (aL s) 5)) 0=some (Out.brk ()):=fV (f:=pA s (gP s.Cells (aL s) 5)) (gP s.Cells (aL s) 5).length (fun k=>(k:Int)) _ (fun k hk=>by
  have hm:=eN hk
  obtain⟨i,i1,i2,i3⟩:=(KW _ _ _ 5).1 hm
  have lv:=ho.live (i:Int) (by omega) (by rw [i2];exact i3)
  rw [i2] at lv
  have ew:aY ((k:Int)+1)=((k+1:Nat):Int):=by rw [aM (by omega) (by omega)];rfl
  simp only [pA,vF]
  rw [if_pos (by simp;omega),aU hk,aE,l8 hb.1.1.1.1.1 (by omega) (by simp only [maxLen];omega) (by simp only [maxLen];omega),aZ lv.1]
  simp only [aE,dE,aQ,if_false,cQ,if_pos lv.1.1,B4 hb.1.2.2.1,bM lv.2,ew]) (by simp [pA])
 rw [lp,aE]
 simp only [NB,NA,vD]
 rw [aEN hsm,aZ hs,aE,if_pos rfl,aQK hb,aE,aKJ hs hl,aE,aH2 hs hl ho]
 simp
end
end Go.Gv
end
noncomputable section
namespace Go.Gv
noncomputable section
variable {α:Type} {p:α->Bool}
theorem aOY{f:Int->Option (Step Int (Out Unit Int))}{s:List α}(hl:s.length<=4611686018427387904)
  (hf:∀k:Nat,f (k:Int)=if h:k < s.length then (if p s[k] then some (.stop (Out.ret (k:Int))) else some (.next ((k+1:Nat):Int))) else some (.stop (Out.brk ()))) :
  ∀d k,k+d=s.length->(∃j,∃h:j < s.length,k<=j/\(∀i (h:i < s.length),k<=i->i < j->p s[i]=false)/\p s[j]=true/\loop f (k:Int)=some (Out.ret (j:Int)))\/((∀i (h:i < s.length),k<=i->p s[i]=false)/\loop f (k:Int)=some (Out.brk ()))
 | 0,k,hk=>.inr ⟨fun i h h2=>by omega,bL (by rw [hf k,dif_neg (by omega)])⟩
 | d + 1, k, hk => by
  have hks:k < s.length:=by omega
  by_cases hp:p s[k]=true
  ·exact .inl ⟨k,hks,iE _,fun i h h1 h2=>by omega,hp,bL (by rw [hf k,dif_pos hks,if_pos hp])⟩
  ·have hp:p s[k]=false:=by simpa using hp
   have hn:f (k:Int)=some (.next ((k+1:Nat):Int)):=by rw [hf k,dif_pos hks,if_neg (by simp [hp])]
   rcases aOY hl hf d (k+1) (by omega) with ⟨j,h,h1,h2,h3,h4⟩ | ⟨h1,h2⟩
   ·refine .inl ⟨j,h,by omega,fun i hi a b=>?_,h3,by rw [bP hn];exact h4⟩
    by_cases e:i=k
    ·subst e;exact hp
    ·exact h2 i hi (by omega) b
   ·refine .inr ⟨fun i hi a=>?_,by rw [bP hn];exact h2⟩
    by_cases e:i=k
    ·subst e;exact hp
    ·exact h1 i hi (by omega)
theorem aMH{f:List α×Int×Int->Option (Step (List α×Int×Int) (List α×Int))}{n:Nat}(hl:n<=4611686018427387904)
  (hf:∀(L:List α) (i j:Nat) (h:j < L.length),L.length=n->i<=j->f (L,(i:Int),(j:Int))=if p L[j] then some (.next (L,(i:Int),((j+1:Nat):Int))) else some (.next (L.set i L[j],((i+1:Nat):Int),((j+1:Nat):Int))))
  (he:∀(L:List α) (i j:Nat),j=L.length->f (L,(i:Int),(j:Int))=some (.stop (L,(i:Int)))) :
  ∀d (L:List α) (i j:Nat),j+d=L.length->L.length=n->i<=j->∃(M:List α) (k:Nat),loop f (L,(i:Int),(j:Int))=some (M,(k:Int))/\M.length=n/\k<=n/\M.take k=L.take i++(L.drop j).filter (fun x=>!p x)
 | 0,L,i,j,hj,hn,hi=>⟨L,i,bL (he L i j (by omega)),hn,by omega,by rw [List.drop_of_length_le (by omega)];simp⟩
 | d + 1, L, i, j, hj, hn, hi => by
  have hjl:j < L.length:=by omega
  have hd:L.drop j=L[j] :: L.drop (j+1):=y6 hjl
  by_cases hp:p L[j]=true
  ·obtain⟨M,k,h1,h2,h3,h4⟩:=aMH hl hf he d L i (j+1) (by omega) hn (by omega)
   refine⟨M,k,by rw [bP (by rw [hf L i j hjl hn hi,if_pos hp])];exact h1,h2,h3,by rw [h4,hd,List.filter_cons_of_neg (by simp [hp])]⟩
  ·have hp:p L[j]=false:=by simpa using hp
   obtain⟨M,k,h1,h2,h3,h4⟩:=aMH hl hf he d (L.set i L[j]) (i+1) (j+1) (by simp;omega) (by simpa using hn) (by omega)
   refine⟨M,k,by rw [bP (by rw [hf L i j hjl hn hi,if_neg (by simp [hp])])];exact h1,h2,h3,?_⟩
   rw [h4,hd,List.filter_cons_of_pos (by simp [hp])]
   have e1:(L.set i L[j]).take (i+1)=L.take i ++ [L[j]]:=by
    rw [RQ (by simp;omega),List.take_set_of_le (iE _)]
    simp
   have e2:(L.set i L[j]).drop (j+1)=L.drop (j+1):=by rw [List.drop_set_of_lt (by omega)]
   rw [e1,e2];simp
end
theorem aUF{α:Type}{l xs:List α}{a:Nat}(h:a<=l.length):((dF l a xs).take a).drop 0=l.take a:=by
 unfold dF
 rw [FW,YM (by simp;omega),List.take_take,Nat.min_self]
theorem aY4{α:Type}{q:α->Bool}{s:List α}{j:Nat}(h:j < s.length)(h1:∀i (h:i < s.length),i < j->q s[i]=true)(h2:q s[j]=false):s.take j++(s.drop (j+1)).filter q=s.filter q:=by
 have e:s=s.take j++s[j] :: s.drop (j+1):=by rw [<-y6 h,TA]
 have e3:(s.take j).filter q=s.take j:=by
  rw [List.filter_eq_self]
  intro x hx
  obtain⟨i,hi,rfl⟩:=aMV hx
  rw [List.getElem_take]
  simp at hi
  exact h1 i (by omega) (by omega)
 conv=>rhs;rw [e]
 rw [List.filter_append,List.filter_cons_of_neg (by simp [h2]),e3]
theorem aQU{s:List Int}{p:Int->Bool}(hl:s.length<=4611686018427387904) :
  (∃j,∃h:j < s.length,(∀i (h:i < s.length),i < j->p s[i]=false)/\p s[j]=true/\fL s (fun y=>some (p y))=some (j:Int))\/((∀i (h:i < s.length),p s[i]=false)/\fL s (fun y=>some (p y))=some (-1)):=by
 rcases aOY (f:=cW s (fun y=>some (p y))) (p:=p) hl (fun k=>by
  simp only [cW]
  by_cases h:k < s.length
  ·rw [dif_pos h,if_pos (by simp;omega),aU h,aE,aE,aM (by omega) (by omega)]
   rfl
  ·rw [dif_neg h,if_neg (by simpa using h)]) s.length 0 (by omega) with ⟨j,h,_,h2,h3,h4⟩ | ⟨h1,h2⟩
 ·refine .inl ⟨j,h,fun i hi a=>h2 i hi (sW _) a,h3,?_⟩
  unfold fL
  rw [show(0:Int)=((0:Nat):Int) from rfl,h4];rfl
 ·refine .inr ⟨fun i hi=>h1 i hi (sW _),?_⟩
  unfold fL
  rw [show(0:Int)=((0:Nat):Int) from rfl,h2];rfl
theorem aOZ{s:List Int}{p:Int->Bool}(hl:s.length<=4611686018427387904):nI s (fun y=>some (p y))=some (s.filter fun x=>!p x):=by
 unfold nI
 rcases aQU (p:=p) hl with ⟨j,h,h1,h2,h3⟩ | ⟨h1,h3⟩
 ·have ne:¬(((j:Int) == -1)=true):=by simp <;> omega
  rw [h3,aE,if_neg ne,aM (by omega) (by omega)]
  obtain⟨M,k,g1,g2,g3,g4⟩:=aMH (p:=p) (n:=s.length) (f:=lB (fun y=>some (p y))) hl (fun L i j h hn hi=>by
   simp only [lB]
   rw [if_pos (by simp;omega),aU h,aE,aE]
   by_cases hp:p L[j]=true
   ·rw [if_pos hp,if_neg (by simp [hp])]
    simp only [iZ]
    rw [aM (by omega) (by omega)];rfl
   ·rw [if_neg hp,if_pos (by simpa using hp),aU (by omega),aE]
    simp only [iZ]
    rw [aM (by omega) (by omega),aM (by omega) (by omega)];rfl) (fun L i j h=>by
   simp only [lB]
   rw [if_neg (by simp;omega)]) (s.length - (j+1)) s j (j+1) (by omega) rfl (by omega)
  rw [show((j:Int)+1)=((j+1:Nat):Int) by omega,g1,aE]
  simp only [zQ,zP,P7]
  rw [aN (by omega),aN (by rw [fE (by omega)];omega),aUF (by omega),g4,aY4 h (fun i hi a=>by simp [h1 i hi a]) (by simp [h2])]
 ·rw [h3,aE,if_pos (by rfl),List.filter_eq_self.2]
  intro x hx
  obtain⟨i,hi,rfl⟩:=aMV hx
  simp [h1 i hi]
theorem aO0(x y:Int):cmp_Less_int x y=some (decide (x < y)):=by
 simp [cmp_Less_int,cmp_isNaN_int,tI]
theorem aMI{A B:List Int}{x:Int}{k:Int}(h:k=(A.length:Int)):idx (A++x :: B) k=some x:=by
 subst h
 rw [aU (by simp)];simp
theorem aSS{A B:List Int}{x y:Int}{k:Nat}(h:k=A.length):(A++x :: B).set k y=A++y :: B:=by
 subst h;simp
theorem aO1{data:List Int}(hd:data.length<=4611686018427387904):∀(j:Nat) (A B C:List Int) (x:Int),A.length=j->(A++x :: (B++C)).length=data.length->(A++B).Pairwise (·<=·)->(∀b∈B,x<=b) ->
  ∃M:List Int,loop (dP data 0) (A++x :: (B++C),(j:Int))=some (M++C)/\M.Perm (A++x :: B)/\M.Pairwise (·<=·)
 | 0, A, B, C, x, hj, hn, hs, hx => by
  obtain rfl:A=[]:=uV hj
  refine⟨x :: B,bL ?_,.refl _,YL.2 ⟨hx,hs⟩⟩
  simp only [dP,dO]
  rw [aN hn,if_neg (by simp),aN hn,if_neg (by simp)]
  rfl
 | j + 1, A, B, C, x, hj, hn, hs, hx => by
  obtain⟨A,y,rfl⟩:∃A' y,A=A' ++ [y]:=by
   rcases YD A with h | ⟨A',y,h⟩
   ·rw [h] at hj;cases hj
   ·exact⟨A',y,by rw [h,aMT]⟩
  have hjA:A.length=j:=by simpa using hj
  have e0:A ++ [y]++x :: (B++C)=A++y :: (x :: (B++C)):=by simp
  have ew:aY (((j+1:Nat):Int) - 1)=(j:Int):=by
   have:(A ++ [y]++x :: (B++C)).length=data.length:=hn
   simp at this
   rw [aM (by omega) (by omega)];omega
  have i1:idx (A++y :: (x :: (B++C))) ((j+1:Nat):Int)=some x:=by
   have:=aMI (A:=A ++ [y]) (B:=B++C) (x:=x) (k:=((j+1:Nat):Int)) (by simp;omega)
   rwa [e0] at this
  have i2:idx (A++y :: (x :: (B++C))) (j:Int)=some y:=aMI (by omega)
  rw [e0] at hn ⊢
  have hyB:∀b∈B,y<=b:=fun b hb=>(aJL.1 hs).2.2 y (by simp) b hb
  by_cases hlt:x < y
  ·have st:dP data 0 (A++y :: (x :: (B++C)),((j+1:Nat):Int))=some (.next (A++x :: ((y :: B)++C),(j:Int))):=by
    simp only [dP]
    rw [aN hn,if_pos (by simp <;> omega),ew,i1,aE,i2,aE,aO0,aE]
    simp only [dO,jE]
    rw [aN hn,if_pos (by simpa using hlt),ew,i2,aE,i1,aE]
    have es:(A++y :: (x :: (B++C))).set (((j+1:Nat):Int)).toNat y=A++y :: (y :: (B++C)):=by
     have:=aSS (A:=A ++ [y]) (B:=B++C) (x:=x) (y:=y) (k:=(((j+1:Nat):Int)).toNat) (by simp;omega)
     simpa using this
    rw [es,aMI (A:=A) (by omega),aE,aSS (A:=A) (by simp;omega),aN (by simpa using hn)]
    rfl
   obtain⟨M,h1,h2,h3⟩:=aO1 hd j A (y :: B) C x hjA (by simpa using hn) (by simpa using hs) (fun b hb=>by
    rcases fA.1 hb with rfl | hb
    ·omega
    ·exact hx b hb)
   refine⟨M,by rw [bP st];exact h1,h2.trans ?_,h3⟩
   have:(A++x :: y :: B).Perm (A++y :: x :: B):=List.Perm.append_left A (List.Perm.swap y x B)
   simpa using this
  ·refine⟨A ++ [y]++x :: B,bL ?_,.refl _,?_⟩
   ·simp only [dP]
    rw [aN hn,if_pos (by simp <;> omega),ew,i1,aE,i2,aE,aO0,aE]
    simp only [dO]
    rw [aN hn,if_neg (by simpa using hlt)]
    simp
   ·rw [aJL] at hs ⊢
    refine⟨hs.1,YL.2 ⟨hx,hs.2.1⟩,fun a ha b hb=>?_⟩
    rcases fA.1 hb with rfl | hb
    ·rcases e9.1 ha with ha' | ha'
     ·have:=(aJL.1 hs.1).2.2 a ha' y (by simp);omega
     ·simp at ha';omega
    ·exact hs.2.2 a ha b hb
theorem aKK{data:List Int}(hd:data.length<=4611686018427387904):∀d (S R:List Int),R.length=d->S≠[]->(S++R).length=data.length->S.Pairwise (·<=·) ->
  ∃M:List Int,loop (cO data 0 (data.length:Int)) (S++R,(S.length:Int))=some M/\M.Perm (S++R)/\M.Pairwise (·<=·)
 | 0, S, R, hR, h0, hn, hs => by
  obtain rfl:R=[]:=uV hR
  refine⟨S,bL ?_,by simp,hs⟩
  simp only [cO]
  rw [aN hn,if_neg (by simp at hn ⊢;omega)]
  simp
 | d+1,S,[],hR,h0,hn,hs=>by cases hR
 | d + 1, S, x :: R, hR, h0, hn, hs => by
  obtain⟨M,h1,h2,h3⟩:=aO1 hd S.length S [] R x rfl (by simpa using hn) (by simpa using hs) (fun b hb=>by cases hb)
  have hl:=h2.length_eq
  simp at hl
  have hn':=hn
  simp at hn'
  have st:cO data 0 (data.length:Int) (S++x :: R,(S.length:Int))=some (.next (M++R,((S.length+1:Nat):Int))):=by
   simp only [cO]
   rw [aN hn,if_pos (by simp;omega)]
   rw [show S++x :: R=S++x :: ([]++R) by simp,h1,aE]
   simp only [nB,nA]
   rw [aN (by simp;omega),aM (by omega) (by omega)];rfl
  obtain⟨N,g1,g2,g3⟩:=aKK hd d M R (by simpa using hR) (by intro h;rw [h] at hl;simp at hl) (by simp;omega) h3
  refine⟨N,by rw [bP st,<-hl];exact g1,g2.trans ?_,g3⟩
  have:(M++R).Perm (S ++ [x]++R):=List.Perm.append_right R h2
  simpa using this
theorem aY5{x:List Int}(h:x.length<=12)(hb:∃n,zR (IntKind.u64.wrap (x.length:Int))=some n):∃y:List Int,BM x=some y/\y.Perm x/\y.Pairwise (·<=·):=by
 have key:∃y:List Int,iC x 0 (x.length:Int)=some y/\y.Perm x/\y.Pairwise (·<=·):=by
  unfold iC
  rw [aM (by omega) (by omega)]
  cases x with
  | nil =>
   refine⟨[],?_,.refl _,.nil⟩
   rw [bL (r:=[]) (by simp only [cO];rw [aN trivial,if_neg (by simp)]),aE]
   simp only [jF,jD]
   rw [aN trivial]
  | cons a r =>
   obtain⟨M,h1,h2,h3⟩:=aKK (data:=a :: r) (by omega) r.length [a] r rfl (by simp) (by simp) (List.pairwise_singleton _ _)
   refine⟨M,?_,by simpa using h2,h3⟩
   have h1':loop (cO (a :: r) 0 ((a :: r).length:Int)) (a :: r,(0:Int)+1)=some M:=h1
   rw [h1',aE]
   simp only [jF,jD]
   have h4:=h2.length_eq
   rw [aN (by simpa using h4)]
 obtain⟨y,h1,h2,h3⟩:=key
 obtain⟨n,hn⟩:=hb
 refine⟨y,?_,h2,h3⟩
 unfold BM nN
 rw [hn,aE,bL (r:=y) (by
  simp only [tJ]
  rw [aM (by omega) (by omega),if_pos (by simp;omega),h1];rfl),aE]
 rfl
def a44(n:Nat):Bool:=(zR (IntKind.u64.wrap (n:Int))).isSome
theorem aY6:(List.range 13).all a44=true:=by kernel_rfl
theorem aQV(n:Nat)(h:n<=12):∃m,zR (IntKind.u64.wrap (n:Int))=some m:=
 aES.1 (MI.1 aY6 n (S9.2 (by omega)))
theorem aO2{l:List Int}(h:l.Pairwise (·<=·)):(zD l).Pairwise (· < ·)/\∀a,a∈zD l↔a∈l:=by
 obtain⟨n,hn⟩:∃n,l.length=n:=⟨_,rfl⟩
 revert l
 induction n with
 | zero=>intro l h hn;obtain rfl:l=[]:=uV hn;exact⟨.nil,fun a=>Iff.rfl⟩
 | succ n ih=>
 intro l h hn
 obtain⟨l,x,rfl⟩:∃L z,l=L ++ [z]:=by
  rcases YD l with h0 | ⟨L,z,h0⟩
  ·rw [h0] at hn;cases hn
  ·exact⟨L,z,by rw [h0,aMT]⟩
 rw [aJL] at h
 obtain⟨i1,i2⟩:=ih h.1 (by simpa using hn)
 rw [aAQ]
 split
 ·rename_i hx
  have hm:x∈l:=(i2 x).1 (List.mem_of_getLast? hx)
  exact⟨i1,fun a=>by rw [i2,e9];exact⟨.inl,fun h=>h.elim id fun h=>by simp at h;rw [h];exact hm⟩⟩
 ·rename_i hx
  refine⟨aJL.2 ⟨i1,List.pairwise_singleton _ _,fun a ha b hb=>?_⟩,fun a=>by rw [e9,e9,i2]⟩
  simp at hb;subst hb
  have hle:a<=b:=h.2.2 a ((i2 a).1 ha) b (by simp)
  by_cases e:a=b
  ·subst e
   exfalso
   obtain⟨L,z,hz⟩:∃L z,zD l=L ++ [z]:=by
    rcases YD (zD l) with h0 | ⟨L,z,h0⟩
    ·rw [h0] at ha;cases ha
    ·exact⟨L,z,by rw [h0,aMT]⟩
   rw [hz] at ha hx i1
   have hz':z<=a:=h.2.2 z ((i2 z).1 (by rw [hz];simp)) a (by simp)
   rcases e9.1 ha with ha' | ha'
   ·have:=(aJL.1 i1).2.2 a ha' z (by simp);omega
   ·simp at ha';subst ha';simp at hx
  ·omega
theorem aAG{l:List Int}(h:l.length<=12):∃y:List Int,v8 l=some y/\y.Pairwise (· < ·)/\∀a,a∈y↔a∈l/\a≠0:=by
 unfold v8 fF
 rw [aN (by simp;omega),aE,aBO]
 have hd:=aOZ (s:=l) (p:=fun x=>x == 0) (by omega)
 rw [show(fun y0=>GG y0)=(fun y=>some (y == 0)) from rfl,hd,aE]
 have hfl:(l.filter fun x=>!(x == 0)).length<=12:=yN (List.length_filter_le _ _) h
 obtain⟨y,h1,h2,h3⟩:=aY5 hfl (aQV _ hfl)
 obtain⟨c1,c2⟩:=aO2 h3
 refine⟨zD y,by rw [h1,aE];rfl,c1,fun a=>?_⟩
 rw [c2,h2.mem_iff,aEQ]
 simp
theorem YB:∀{a b:List Int},a.Pairwise (· < ·)->b.Pairwise (· < ·)->(∀x,x∈a↔x∈b)->a=b
 | [],[],_,_,_=>rfl
 | [],y :: b,_,_,h=>by have:=(h y).2 (by simp);cases this
 | x :: a,[],_,_,h=>by have:=(h x).1 (by simp);cases this
 | x :: a, y :: b, ha, hb, h => by
  have ha':=YL.1 ha
  have hb':=YL.1 hb
  have e:x=y:=by
   have h1:=(h x).1 (by simp)
   have h2:=(h y).2 (by simp)
   rcases fA.1 h1 with e | h1
   ·exact e
   ·rcases fA.1 h2 with e | h2
    ·exact e.symm
    ·have:=ha'.1 y h2;have:=hb'.1 x h1;omega
  subst e
  congr 1
  refine YB ha'.2 hb'.2 fun z=>?_
  have:=h z
  rw [fA,fA] at this
  constructor
  ·intro hz
   rcases this.1 (.inr hz) with e | q
   ·have:=ha'.1 z hz;omega
   ·exact q
  ·intro hz
   rcases this.2 (.inr hz) with e | q
   ·have:=hb'.1 z hz;omega
   ·exact q
end Go.Gv
end
noncomputable section
namespace Go.Gv
def guG(p:pQ)(j:bE):Bool:=if j.eT=false\/j.H=0 then false else if j.Op.Kind=2 then p.On && !p.dB && (j.Pc == 2 || j.Pc == 3) else if j.Op.Kind=7 then p.On && !p.dB && (j.Pc == 1 || j.Pc == 2) else if j.Op.Kind=3 then j.Pc == 3 else false
def guI(p:pQ)(j:bE):Bool:=if j.Op.Kind=2 then p.On && !p.dB && (j.Pc == 2 || j.Pc == 3) else if j.Op.Kind=7 then p.On && !p.dB && (j.Pc == 1 || j.Pc == 2) else if j.Op.Kind=3 then j.Pc == 3 else false
theorem aMJ{p:pQ}{j:bE}(h:j.eT=false->j.Op.Kind=0):guG p j=(guI p j && decide (j.H≠0)):=by
 unfold guG guI
 by_cases hb:j.eT=false
 ·have:=h hb
  rw [if_pos (.inl hb),this];simp
 ·by_cases h0:j.H=0
  ·rw [if_pos (.inr h0)];simp [h0]
  ·rw [if_neg (fun q=>q.elim hb h0)];simp [h0]
def gsN(G:Nat->Bool)(H:Nat->Int):Nat->List Int
 | 0=>[]
 | k+1=>if G k then MH (gsN G H k) (H k) else gsN G H k
theorem P4(G:Nat->Bool)(H:Nat->Int):∀k,(gsN G H k).Pairwise (· < ·)
 | 0=>.nil
 | k + 1 => by
  unfold gsN
  split
  ·exact VH _ (P4 G H k)
  ·exact P4 G H k
theorem aQW(G:Nat->Bool)(H:Nat->Int)(y:Int):∀k,y∈gsN G H k↔∃i:Nat,i < k/\G i=true/\H i=y
 | 0=>by simp [gsN]
 | k + 1 => by
  have ih:=aQW G H y k
  unfold gsN
  constructor
  ·intro h
   split at h
   ·rename_i g
    rcases(IS _ _ _).1 h with e | e
    ·exact⟨k,by omega,g,e.symm⟩
    ·obtain⟨i,h1,h2⟩:=ih.1 e
     exact⟨i,by omega,h2⟩
   ·obtain⟨i,h1,h2⟩:=ih.1 h
    exact⟨i,by omega,h2⟩
  ·rintro⟨i,h1,h2,h3⟩
   by_cases e:i=k
   ·subst e
    rw [if_pos h2,IS];exact .inl h3.symm
   ·have:=ih.2 ⟨i,by omega,h2,h3⟩
    split
    ·rw [IS];exact .inr this
    ·exact this
theorem aMK(G:Nat->Bool)(H:Nat->Int):∀k,(gsN G H k).length<=k
 | 0=>iE _
 | k + 1 => by
  have ih:=aMK G H k
  unfold gsN
  split
  ·by_cases m:H k∈gsN G H k
   ·rw [aAF (P4 G H k) m];omega
   ·rw [aH1 m];omega
  ·omega
noncomputable section
variable {s:aG} (hs:DA s)
include hs
theorem a45{w:Int}(hw:0<=w/\w<=2):EO s w=some (guG (bX s.aA.aD w) (aL s w)):=by
 unfold EO guG
 rw [rM hs hw,aE,yJ hs.1.1.2.1 hw,aE]
 simp only [vC,vB,o8,o9]
 generalize bX s.aA.aD w=p
 generalize aL s w=j
 cases hb:j.eT
 ·cases p.On <;> simp
 ·by_cases h0:j.H=0
  ·cases p.On <;> simp [h0]
  ·by_cases k2:j.Op.Kind=2
   ·cases p.On <;> cases p.dB <;> by_cases q:j.Pc=2 <;> simp [h0,k2,q]
   ·by_cases k7:j.Op.Kind=7
    ·cases p.On <;> cases p.dB <;> by_cases q:j.Pc=1 <;> simp [h0,k7,q]
    ·by_cases k3:j.Op.Kind=3
     ·cases p.On <;> simp [h0,k3]
     ·cases p.On <;> simp [h0,k2,k7,k3]
end
def gdS(s:aG):List Int:=gsN (fun k=>guG (bX s.aA.aD k) (aL s k)) (fun k=>(aL s k).H) 3
noncomputable section
variable {s:aG} (hs:DA s) (hl:s.Log.length<=1000000)
include hs hl
theorem aML:KF s=some (gdS s):=by
 have hsm:=rV hs hl
 unfold KF
 rw [aEN hsm,aZ hs,aE]
 have key:loop (tW s true) (([]:List Int),0)=some (gdS s):=fV (f:=tW s true) 3 (fun k=>(gsN (fun k=>guG (bX s.aA.aD k) (aL s k)) (fun k=>(aL s k).H) k,(k:Int))) _ (fun k hk=>by
  have ew:aY ((k:Int)+1)=((k+1:Nat):Int):=by rw [aM (by omega) (by omega)];rfl
  simp only [tW,tV,BS]
  rw [if_pos (by simp;omega),if_pos trivial,a45 hs (w:=(k:Int)) (by omega),aE]
  by_cases g:guG (bX s.aA.aD k) (aL s k)=true
  ·rw [if_pos g,rM hs (w:=(k:Int)) (by omega),aE,put_eq (by have:=aMK (fun k=>guG (bX s.aA.aD k) (aL s k)) (fun k=>(aL s k).H) k;omega) (P4 _ _ k),aE,ew]
   have:gsN (fun k=>guG (bX s.aA.aD k) (aL s k)) (fun k=>(aL s k).H) (k+1)=MH (gsN (fun k=>guG (bX s.aA.aD k) (aL s k)) (fun k=>(aL s k).H) k) (aL s k).H:=by simp only [gsN];rw [if_pos g]
   rw [this]
  ·rw [if_neg g,ew]
   have:gsN (fun k=>guG (bX s.aA.aD k) (aL s k)) (fun k=>(aL s k).H) (k+1)=gsN (fun k=>guG (bX s.aA.aD k) (aL s k)) (fun k=>(aL s k).H) k:=by simp only [gsN];rw [if_neg g]
   rw [this]) (by simp [tW,tV,gdS])
 rw [key];rfl
theorem aMM(hid:∀v,0<=v/\v<=2->(aL s v).eT=false->(aL s v).Op.Kind=0):KE s=some (gdS s):=by
  have hsm:=rV hs hl
  have h3:=hs.2.2.1
  unfold KE
  rw [aEO hsm,aZ hs,aE,dE,if_neg (by simp)]
  obtain⟨R,hR0,hRl,hRs,hRm⟩:∃R:Nat->List Int,R 0=[]/\(∀k,(R k).length<=k)/\(∀k:Nat,R (k+1)=if guI (bX s.aA.aD (k:Int)) (aL s (k:Int))=true then R k ++ [(aL s (k:Int)).H] else R k)/\∀a,a∈R 3↔∃i:Nat,(i < 3/\guI (bX s.aA.aD (i:Int)) (aL s (i:Int))=true)/\(aL s (i:Int)).H=a:=by
    refine⟨fun k=>((List.range k).filter fun i:Nat=>guI (bX s.aA.aD (i:Int)) (aL s (i:Int))).map fun i:Nat=>(aL s (i:Int)).H,rfl,fun k=>?_,fun k=>?_,fun a=>by simp [DD,aEQ,S9]⟩
    · rw [List.length_map]
      exact yN (List.length_filter_le _ _) (by simp)
    · simp only [List.range_succ,List.filter_append,y7]
      by_cases g:guI (bX s.aA.aD (k:Int)) (aL s (k:Int))=true
      · rw [if_pos g];simp [g]
      · rw [if_neg g];simp [g]
  have key:loop (tU s) (([]:List Int),0)=some (R 3):=by
   have:=fV (f:=tU s) 3 (fun k=>(R k,(k:Int))) (R 3) (fun k hk=>by
    have ew:aY ((k:Int)+1)=((k+1:Nat):Int):=by rw [aM (by omega) (by omega)];rfl
    have hl1:(R k).length + [(aL s k).H].length<=1073741824:=by have:=hRl k;simp;omega
    simp only [tU]
    rw [if_pos (by simp;omega),rM hs (w:=(k:Int)) (by omega),aE,yJ hs.1.1.2.1 (w:=(k:Int)) (by omega),aE,hRs k]
    simp only [kS,iW,dX,tT,tS,oC,BR,ew,aN hl1,guI]
    generalize R k=r
    generalize bX s.aA.aD (k:Int)=p
    generalize aL s (k:Int)=j
    obtain⟨po,pe,pm,pl⟩:=p
    dsimp only
    by_cases k2:j.Op.Kind=2
    · by_cases q:j.Pc=2
      · cases po <;> cases pm <;> simp [k2,q]
      · by_cases q':j.Pc=3
        · cases po <;> cases pm <;> simp [k2,q']
        · have:¬(2<=j.Pc/\j.Pc<=3):=by omega
          cases po <;> cases pm <;> simp [k2,q,q',this]
    · by_cases k7:j.Op.Kind=7
      · by_cases q:j.Pc=1
        · cases po <;> cases pm <;> simp [k7,q]
        · by_cases q':j.Pc=2
          · cases po <;> cases pm <;> simp [k7,q']
          · have:¬(1<=j.Pc/\j.Pc<=2):=by omega
            cases po <;> cases pm <;> simp [k7,q,q',this]
      · by_cases k3:j.Op.Kind=3
        · by_cases q:j.Pc=3 <;> cases po <;> cases pm <;> simp [k3,q]
        · cases po <;> cases pm <;> simp [k2,k7,k3]) (by
    simp only [tU]
    rw [if_neg (by rw [h3];simp)])
   rw [hR0] at this
   exact this
  rw [key,aE]
  simp only [SD,SC]
  obtain⟨y,h1,h2,h4⟩:=aAG (l:=R 3) (by have:=hRl 3;omega)
  rw [h1,aE]
  congr 1
  refine YB h2 (P4 _ _ 3) fun a=>?_
  unfold gdS
  rw [h4,aQW,hRm]
  constructor
  · rintro⟨⟨i,⟨hi,g⟩,e⟩,h0⟩
    exact⟨i,hi,by rw [aMJ (hid i (by omega)),g,e];simp [h0],e⟩
  · rintro⟨i,hi,g,e⟩
    rw [aMJ (hid i (by omega))] at g
    simp only [xB,decide_eq_true_eq] at g
    exact⟨⟨i,⟨hi,g.1⟩,e⟩,by rw [<-e];exact g.2⟩
theorem aQX:QQ s=some (gP s.Cells (aL s) 5):=by
 have hsm:=rV hs hl
 have h3:=hs.2.2.1
 have c2:=hs.2.1
 unfold QQ
 rw [aEO hsm,aZ hs,aE,dE,if_neg (by simp),sU (by omega),aE]
 obtain⟨R,hR0,hRl,hRs,hRm⟩:∃R:Nat->List Int,R 0=s.Cells/\(∀k,(R k).length<=k+2)/\(∀k:Nat,R (k+1)=if (aL s (k:Int)).Op.Kind=1/\((aL s (k:Int)).Pc=1\/(aL s (k:Int)).Pc=2\/(aL s (k:Int)).Pc=3) then R k ++ [DB (aL s (k:Int))] else R k) /\
   ∀a,a∈R 3↔a∈s.Cells\/∃i:Nat,(i < 3/\((aL s (i:Int)).Op.Kind=1/\((aL s (i:Int)).Pc=1\/(aL s (i:Int)).Pc=2\/(aL s (i:Int)).Pc=3)))/\DB (aL s (i:Int))=a:=by
  refine⟨fun k=>s.Cells++((List.range k).filter fun i:Nat=>decide ((aL s (i:Int)).Op.Kind=1/\((aL s (i:Int)).Pc=1\/(aL s (i:Int)).Pc=2\/(aL s (i:Int)).Pc=3))).map fun i:Nat=>DB (aL s (i:Int)),by simp,fun k=>?_,fun k=>?_,fun a=>by simp [DD,aEQ,S9]⟩
  ·rw [FX,List.length_map]
   have:=yN (List.length_filter_le (fun i:Nat=>decide ((aL s (i:Int)).Op.Kind=1/\((aL s (i:Int)).Pc=1\/(aL s (i:Int)).Pc=2\/(aL s (i:Int)).Pc=3))) (List.range k)) (TB List.length_range)
   omega
  ·simp only [List.range_succ,List.filter_append,y7]
   by_cases g:(aL s (k:Int)).Op.Kind=1/\((aL s (k:Int)).Pc=1\/(aL s (k:Int)).Pc=2\/(aL s (k:Int)).Pc=3)
   ·rw [if_pos g];simp [g]
   ·rw [if_neg g];simp [g]
 have key:loop (zU s) (s.Cells,0)=some (R 3):=by
  have := fV (f := zU s) 3 (fun k => (R k, (k : Int))) (R 3) (fun k hk => by
   have ew:aY ((k:Int)+1)=((k+1:Nat):Int):=by rw [aM (by omega) (by omega)];rfl
   have hl1:∀x:Int,(R k).length + [x].length<=1073741824:=fun x=>by have:=hRl k;simp;omega
   simp only [zU]
   rw [if_pos (by simp;omega),rM hs (w:=(k:Int)) (by omega),aE,hRs k]
   simp only [dX,HI,HH,zT,ew,aN (hl1 _),DB]
   generalize R k=r
   generalize aL s (k:Int)=j
   by_cases k1:j.Op.Kind=1
   ·by_cases p1:j.Pc=1
    ·simp [k1,p1]
    ·by_cases p2:j.Pc=2
     ·simp [k1,p2]
     ·have:¬(1<=j.Pc/\j.Pc<=2):=by omega
      by_cases p3:j.Pc=3 <;> simp [k1,p1,p2,p3,this]
   ·simp [k1]) (by
   simp only [zU]
   rw [if_neg (by rw [h3];simp)])
  rw [hR0] at this
  exact this
 rw [key,aE]
 simp only [WI,WH]
 obtain⟨y,h1,h2,h4⟩:=aAG (l:=R 3) (by have:=hRl 3;omega)
 rw [h1,aE]
 congr 1
 refine YB h2 (FQ _ _ 5) fun a=>?_
 rw [h4,KW,hRm]
 constructor
 ·rintro⟨h | ⟨i,⟨hi,g⟩,e⟩,h0⟩
  ·obtain⟨k,hk,e⟩:=aMV h
   refine⟨k,by omega,?_,h0⟩
   rw [kO _ _ (k:=(k:Int)) (by omega)]
   have:=CQ hs (k:=(k:Int)) (by omega)
   rw [aU hk] at this
   rw [<-Option.some.inj this,e]
  ·refine⟨i+2,by omega,?_,h0⟩
   have:=fN s.Cells (aL s) (v:=(i:Int)) (by omega)
   rw [show((i+2:Nat):Int)=(i:Int)+2 by omega,this,e]
 ·rintro ⟨i, hi, e, h0⟩
  refine⟨?_,h0⟩
  by_cases q:i < 2
  ·left
   rw [kO _ _ (k:=(i:Int)) (by omega)] at e
   have:=CQ hs (k:=(i:Int)) (by omega)
   rw [aU (by omega)] at this
   rw [<-e,<-Option.some.inj this]
   exact eN _
  ·right
   have:=fN s.Cells (aL s) (v:=((i - 2:Nat):Int)) (by omega)
   rw [show((i - 2:Nat):Int)+2=(i:Int) by omega,e] at this
   refine⟨i - 2,⟨by omega,?_⟩,this.symm⟩
   have nz:DB (aL s ((i - 2:Nat):Int))≠0:=by rw [<-this];exact h0
   by_cases k1:(aL s ((i - 2:Nat):Int)).Op.Kind=1
   ·refine⟨k1,?_⟩
    by_cases p1:(aL s ((i - 2:Nat):Int)).Pc=1
    ·exact .inl p1
    ·by_cases p2:(aL s ((i - 2:Nat):Int)).Pc=2
     ·exact .inr (.inl p2)
     ·by_cases p3:(aL s ((i - 2:Nat):Int)).Pc=3
      ·exact .inr (.inr p3)
      ·exact absurd (XF p1 p2 p3) nz
   ·exact absurd (sV k1) nz
end
end Go.Gv
end
noncomputable section
namespace Go.Gv
theorem aY7(L:List Ev)(c:Int):(L.reverse.find? (XT c)).getD zEw=swp L c:=by
 have:∀(L:List Ev) a,(L.reverse.find? (XT c)).getD a=L.foldl (fun a e=>if e.Kind=2/\e.Cell=c then e else a) a:=by
  intro L
  induction L with
  | nil=>intro a;rfl
  | cons e L ih =>
   intro a
   rw [List.reverse_cons,List.find?_append,V8,<-ih]
   have q:XT c e=decide (e.Kind=2/\e.Cell=c):=by simp [XT]
   cases L.reverse.find? (XT c) with
   | some x=>rfl
   | none =>
    by_cases z:e.Kind=2/\e.Cell=c
    ·simp [q,z]
    ·rw [if_neg z];simp [List.find?,q,z]
 exact this L _
theorem a6Z{L:List Ev}{i:Nat}(hi:i<=L.length)(c:Int):IC L (i:Int) c=some (swp (L.take i) c):=by
 unfold IC
 rw [show(max (min (i:Int) (L.length:Int)) 0).toNat=i from by omega]
 exact congrArg some (aY7 _ c)
theorem a60{L:List Ev}(hl:L.length<=1000000){i:Nat}(hi:i<=L.length)(c:Int):M6 L (i:Int) c=some (swp (L.take i) c):=by
 unfold M6
 have key:=fV (f:=EK L (i:Int) c) i (fun k=>((k:Int),swp (L.take k) c)) (swp (L.take i) c) (fun k hk=>by
  have hk':k < L.length:=by omega
  have e:swp (L.take (k+1)) c=if L[k].Kind=2/\L[k].Cell=c then L[k] else swp (L.take k) c:=by
   rw [RQ hk',aAD]
  rw [e]
  generalize swp (L.take k) c=a
  simp only [EK,v7,EJ,EI]
  rw [if_pos (by simp;omega),aZ (show(k:Int) < (L.length:Int) by omega),if_pos rfl,aU hk']
  simp only [aE]
  rw [aM (by omega) (by omega)]
  by_cases q:L[k].Kind=2
  ·have q1:(L[k].Kind == 2)=true:=by simpa using q
   rw [q1,if_pos rfl]
   by_cases z:L[k].Cell=c
   ·have z1:(L[k].Cell == c)=true:=by simpa using z
    rw [z1,if_pos rfl,if_pos ⟨q,z⟩];rfl
   ·have z1:(L[k].Cell == c)=false:=by simpa using z
    rw [z1,if_neg (by simp),if_neg (fun y=>z y.2)];rfl
  ·have q1:(L[k].Kind == 2)=false:=by simpa using q
   rw [q1,if_neg (by simp),if_neg (by simp),if_neg (fun y=>q y.1)];rfl) (by
  simp only [EK,v7]
  rw [if_neg (by simp),if_neg (by simp)])
 have z:swp (L.take 0) c=zEw:=rfl
 rw [z] at key
 exact(congrArg (fun x=>x.bind T1) key).trans rfl
def rkL(L:List Ev)(n:Int):Nat->Int
 | 0=>-1
 | k+1=>if (L.getD k zEw).Kind=3/\(L.getD k zEw).aI=n then (k:Int) else rkL L n k
theorem a61{L:List Ev}(hl:L.length<=1000000){i:Nat}(hi:i<=L.length)(n:Int):J8 L (i:Int) n=some (rkL L n i):=by
 unfold J8
 have key:=fV (f:=BJ L (i:Int) n) i (fun k=>(rkL L n k,(k:Int))) (rkL L n i) (fun k hk=>by
  have hk':k < L.length:=by omega
  have e:rkL L n (k+1)=if L[k].Kind=3/\L[k].aI=n then (k:Int) else rkL L n k:=by
   have:L.getD k zEw=L[k]:=by rw [gR,eM hk'];rfl
   simp only [rkL,this]
  rw [e]
  generalize rkL L n k=a
  simp only [BJ,BI,BH]
  rw [if_pos (by simp;omega),aU hk']
  simp only [aE]
  rw [aM (by omega) (by omega)]
  by_cases q:L[k].Kind=3
  ·have q1:(L[k].Kind == 3)=true:=by simpa using q
   rw [q1,if_pos rfl]
   by_cases z:L[k].aI=n
   ·have z1:(L[k].aI == n)=true:=by simpa using z
    rw [z1,if_pos rfl,if_pos ⟨q,z⟩];rfl
   ·have z1:(L[k].aI == n)=false:=by simpa using z
    rw [z1,if_neg (by simp),if_neg (fun y=>z y.2)];rfl
  ·have q1:(L[k].Kind == 3)=false:=by simpa using q
   rw [q1,if_neg (by simp),if_neg (by simp),if_neg (fun y=>q y.1)];rfl) (by
  simp only [BJ]
  rw [if_neg (by simp)])
 exact(congrArg (fun x=>x.bind R3) key).trans rfl
theorem aQZ(L:List Ev)(n:Int):∀i,i<=L.length->(rkL L n i = -1/\rdx (L.take i) n=none)\/∃(k:Nat) (h:k < L.length),k < i/\rkL L n i=(k:Int)/\rdx (L.take i) n=some (L[k],swp (L.take k) L[k].Cell)
 | 0,_=>.inl ⟨rfl,rfl⟩
 | i + 1, hi => by
  have hi':i < L.length:=by omega
  have:L.getD i zEw=L[i]:=by rw [gR,eM hi'];rfl
  rw [RQ hi',V1]
  simp only [rkL,this]
  by_cases q:L[i].Kind=3/\L[i].aI=n
  ·rw [if_pos q,if_pos q]
   exact .inr ⟨i,hi',by omega,rfl,rfl⟩
  ·rw [if_neg q,if_neg q]
   rcases aQZ L n i (by omega) with h | ⟨k,h,a,b,c⟩
   ·exact .inl h
   ·exact .inr ⟨k,h,by omega,b,c⟩
theorem aUH{L:List Ev}(hl:L.length<=1000000)(h:TrL L):J9 L=some true:=by
 unfold J9
 have key:=fV (f:=BL L) L.length (fun k=>(k:Int)) (Out.brk ()) (fun k hk=>by
  have hsp:L=L.take k++L[k] :: L.drop (k+1):=by rw [<-y6 hk,TA]
  have ht:=h _ _ _ hsp
  simp only [BL]
  rw [if_pos (by simp;omega),aU hk,aE,a61 hl (by omega),aE,aE]
  have nx:l4 (k:Int)=some (.next ((k+1:Nat):Int)):=by
   simp only [l4];rw [aM (by omega) (by omega)];rfl
  by_cases q:L[k].Kind=4
  ·have q1:(L[k].Kind != 4)=false:=by simpa using q
   rw [q1,if_neg (by simp)]
   rcases aQZ L L[k].aI k (by omega) with ⟨a,b⟩ | ⟨i,hi,i1,a,b⟩
   ·rw [a]
    simp only [nS]
    rw [if_pos (by decide)];exact nx
   ·rw [a]
    have t:=ht q (by rw [b];simp)
    rw [b] at t
    simp only [nS]
    rw [if_neg (by simp),aU hi]
    simp only [aE]
    rw [a60 hl (by omega)]
    simp only [aE,aU hk,aU hi]
    by_cases c0:L[k].Code=0
    ·obtain⟨e,x,e1,e2,e3,e4⟩:=t.1 c0
     simp only [YO,Prod.mk.injEq] at e1
     obtain⟨rfl,rfl⟩:=e1
     have z1:(L[k].Code == 0)=true:=by simpa using c0
     rw [z1,if_pos rfl,if_neg (by simpa using e2),if_neg (by simpa using e3)]
     have z2:((swp (L.take i) L[i].Cell).dQ != L[k].dQ)=false:=by simpa using e4
     rw [z2]
     simp only [tH]
     exact nx
    ·have z1:(L[k].Code == 0)=false:=by simpa using c0
     rw [z1,if_neg (by simp)]
     by_cases c8:L[k].Code=8
     ·obtain⟨e,x,e1,e2,e3⟩:=t.2 c8
      simp only [YO,Prod.mk.injEq] at e1
      obtain⟨rfl,rfl⟩:=e1
      have z3:(L[k].Code == 8)=true:=by simpa using c8
      rw [z3,if_pos rfl,if_neg (by simpa using e2)]
      have z2:(L[i].Handle != 0)=false:=by simpa using e3
      rw [z2]
      simp only [BK]
      exact nx
     ·have z3:(L[k].Code == 8)=false:=by simpa using c8
      rw [z3,if_neg (by simp)];exact nx
  ·have q1:(L[k].Kind != 4)=true:=by simpa using q
   rw [q1,if_pos rfl]
   simp only [nS,if_true]
   exact nx) (by simp [BL])
 exact(congrArg (fun x=>x.bind R4) key).trans rfl
end Go.Gv
end
noncomputable section
namespace Go.Gv
noncomputable section
variable {s:aG} (hs:DA s) (hl:s.Log.length<=1000000) (hv:Sv s.aA s.Cells (aL s) s.Log s.aI)
include hs hv
theorem aST{y:Int}(h:y∈gdS s):hC s.aA.Mem y:=by
 obtain⟨i,hi,g,e⟩:=(aQW _ _ y 3).1 h
 have hj:=hv.jv (i:Int) (by omega)
 have h0:(aL s (i:Int)).H≠0:=by
  intro z
  unfold guG at g
  rw [if_pos (.inr z)] at g;cases g
 rw [aMJ hj.idle] at g
 simp only [xB] at g
 obtain⟨g,_⟩:=g
 rw [<-e]
 unfold guI at g
 by_cases k2:(aL s (i:Int)).Op.Kind=2
 ·rw [if_pos k2] at g
  simp only [xB,Bool.or_eq_true,beq_iff_eq,Bool.not_eq_true'] at g
  exact(hj.g (.inl ⟨k2,g.2⟩) ⟨g.1.1,g.1.2⟩).1.live hs.1 hv.ow h0
 ·rw [if_neg k2] at g
  by_cases k7:(aL s (i:Int)).Op.Kind=7
  ·rw [if_pos k7] at g
   simp only [xB,Bool.or_eq_true,beq_iff_eq,Bool.not_eq_true'] at g
   exact(hj.g (.inr ⟨k7,g.2⟩) ⟨g.1.1,g.1.2⟩).1.live hs.1 hv.ow h0
  ·rw [if_neg k7] at g
   by_cases k3:(aL s (i:Int)).Op.Kind=3
   ·rw [if_pos k3] at g
    exact(hj.z3 k3 (by simpa using g)).1.live hs.1 hv.ow h0
   ·rw [if_neg k3] at g;cases g
include hl
theorem aAH:EP s=some true:=by
 have hm:=hs.1.1.1
 obtain⟨hcnt,h3,h9,_⟩:=nF.facts hm
 have hg:(gdS s).length<=3:=aMK _ _ 3
 have hlive:=fun y h=>aST hs hv (y:=y) h
 unfold EP
 rw [aML hs hl,aE]
 generalize gdS s=l at hg hlive
 have key:loop (tX s l) 0=some (Out.brk ()):=fV (f:=tX s l) l.length (fun k=>(k:Int)) _ (fun k hk=>by
  simp only [tX]
  rw [if_pos (by simp;omega),aU hk,aE,l8 hm.1.1.1 (by omega) (by simp only [maxLen];omega) (by simp only [maxLen];omega),aZ (hlive _ (eN hk)),aE,if_neg (by simp),aM (by omega) (by omega)];rfl) (by simp [tX])
 rw [key,aE]
 simp only [SG,SF]
 rw [aEN (rV hs hl),aZ hs];rfl
theorem aMN:KG s=some true:=by
 have hm:=hs.1.1.1
 obtain⟨hcnt,h3,h9,_⟩:=nF.facts hm
 have hg:(gdS s).length<=3:=aMK _ _ 3
 unfold KG
 rw [aEO (rV hs hl),aZ hs,aE,if_pos rfl,aMM hs hl (fun v hv'=>(hv.jv v hv').idle),aE]
 have e:(fun y0=>ER y0 s)=fun x=>some (!decide (hC s.aA.Mem x)):=funext fun x=>by
  unfold ER
  rw [wY hm.1.1.1 (by omega) (by simp only [maxLen];omega) (by simp only [maxLen];omega)];rfl
 rw [e,sT (by simp only [maxLen];omega),aE]
 simp only [BT]
 have:(gdS s).any (fun x=>!decide (hC s.aA.Mem x))=false:=by
  rw [List.any_eq_false]
  intro x hx
  simp [aST hs hv hx]
 rw [this];rfl
theorem aH3:ET s=some true:=by
 have hb:=hs.1
 have hm:=hb.1.1
 obtain⟨hcnt,h3,h9,_⟩:=nF.facts hm
 have hnl:=V3 s.Cells (aL s) 5
 unfold ET
 rw [aEO (rV hs hl),aZ hs,aE,if_pos rfl,aQX hs hl,aE]
 have how:QX s.aA (gP s.Cells (aL s) 5)=some true:=by
  unfold QX
  rw [aQL hb,aE,aKJ hs hl,aE,aH2 hs hl hv.ow,if_pos (by simp)]
  have e:∀x∈gP s.Cells (aL s) 5,xV x s.aA=some false:=fun x hx=>by
   obtain⟨i,h1,h2,h4⟩:=(KW _ _ _ 5).1 hx
   have lv:=hv.ow.live (i:Int) (by omega) (by rw [h2];exact h4)
   rw [h2] at lv
   have hx0:0<=x:=by have:=lv.1.1;unfold jN at this;omega
   unfold xV
   rw [wY hm.1.1.1 (by omega) (by simp only [maxLen];omega) (by simp only [maxLen];omega),aZ lv.1,aE,if_neg (by simp),wW hx0,I7 hb.1.2.2.1,bM lv.2];rfl
  generalize gP s.Cells (aL s) 5=l at hnl e
  have hc:b8 l (fun y0=>xV y0 s.aA)=some false:=by
   have:=sT (l:=l) (by simp only [maxLen];omega) (fun _=>false)
   have key:b8 l (fun y0=>xV y0 s.aA)=b8 l (fun _=>some false):=by
    unfold b8 fL
    have k1:∀f:Int->Option Bool,(∀x∈l,f x=some false)->loop (cW l f) 0=some (Out.brk ()):=fun f hf=>fV (f:=cW l f) l.length (fun k=>(k:Int)) _ (fun k hk=>by
     simp only [cW]
     rw [if_pos (by simp;omega),aU hk,aE,hf _ (eN hk),aE,if_neg (by simp),aM (by omega) (by omega)];rfl) (by simp [cW])
    rw [k1 _ e,k1 _ (fun _ _=>rfl)]
   rw [key,this];simp
  rw [hc,aE];rfl
 rw [how,aE];rfl
end
theorem aY8{L:List Ev}(hl:L.length<=1000000)(e:Ev):∀i:Nat,i<=L.length->loop (oE L e) ((i:Int) - 1)=some (rkL L e.aI i)
 | 0,_=>bL (by
   simp only [oE,kD]
   rw [if_neg (by simp),if_neg (by simp)];rfl)
 | i + 1, hi => by
  have hi':i < L.length:=by omega
  have hg:L.getD i zEw=L[i]:=by rw [gR,eM hi'];rfl
  have ei:(((i+1:Nat):Int) - 1)=(i:Int):=by omega
  have ew:aY ((i:Int) - 1)=(i:Int) - 1:=aM (by omega) (by omega)
  rw [ei]
  by_cases q:L[i].Kind=3
  ·have q1:(L[i].Kind != 3)=false:=by simpa using q
   by_cases z:L[i].aI=e.aI
   ·have z1:(L[i].aI != e.aI)=false:=by simpa using z
    rw [bL (r:=(i:Int)) (by
     simp only [oE,kD]
     rw [if_pos (by simp),aU hi',aE,q1,if_neg (by simp),aE,z1,if_neg (by simp)])]
    simp only [rkL,hg]
    rw [if_pos ⟨q,z⟩]
   ·have z1:(L[i].aI != e.aI)=true:=by simpa using z
    rw [bP (s':=(i:Int) - 1) (by
     simp only [oE,kD]
     rw [if_pos (by simp),aU hi',aE,q1,if_neg (by simp),aE,z1,if_pos rfl,ew]),aY8 hl e i (by omega)]
    simp only [rkL,hg]
    rw [if_neg (fun y=>z y.2)]
  ·have q1:(L[i].Kind != 3)=true:=by simpa using q
   rw [bP (s':=(i:Int) - 1) (by
    simp only [oE,kD]
    rw [if_pos (by simp),aU hi',aE,q1,if_pos rfl,if_pos trivial,ew]),aY8 hl e i (by omega)]
   simp only [rkL,hg]
   rw [if_neg (fun y=>q y.1)]
theorem aUI{L:List Ev}(hl:L.length<=1000000)(h:TrL L):KH L=some true:=by
 unfold KH
 have key:=fV (f:=tY L) L.length (fun k=>(k:Int)) (Out.brk ()) (fun k hk=>by
  have hsp:L=L.take k++L[k] :: L.drop (k+1):=by rw [<-y6 hk,TA]
  have ht:=h _ _ _ hsp
  have nx:oD (k:Int)=some (.next ((k+1:Nat):Int)):=by
   simp only [oD];rw [aM (by omega) (by omega)];rfl
  simp only [tY]
  rw [if_pos (by simp;omega),aU hk,aE]
  by_cases q:L[k].Kind=4
  ·have q1:(L[k].Kind != 4)=false:=by simpa using q
   rw [q1,if_neg (by simp),aM (by omega) (by omega),aY8 hl L[k] k (by omega),aE]
   simp only [SI,SH]
   rcases aQZ L L[k].aI k (by omega) with ⟨a,b⟩ | ⟨i,hi,i1,a,b⟩
   ·rw [a,if_pos (by decide)];exact nx
   ·rw [a,if_neg (by simp),aU hi]
    have t:=ht q (by rw [b];simp)
    rw [b] at t
    simp only [aE]
    rw [a6Z (by omega)]
    simp only [aE]
    by_cases c0:L[k].Code=0
    ·obtain⟨e,x,e1,e2,e3,e4⟩:=t.1 c0
     simp only [YO,Prod.mk.injEq] at e1
     obtain⟨rfl,rfl⟩:=e1
     have z1:(L[k].Code == 0)=true:=by simpa using c0
     have z8:(L[k].Code == 8)=false:=by rw [c0];rfl
     rw [z1,if_pos rfl,if_neg (by simpa using e2),if_neg (by simpa using e3)]
     have z2:((swp (L.take i) L[i].Cell).dQ != L[k].dQ)=false:=by simpa using e4
     rw [z2,if_neg (by simp),z8,if_neg (by simp)]
     simp only [fI]
     rw [if_neg (by simp)];exact nx
    ·have z1:(L[k].Code == 0)=false:=by simpa using c0
     rw [z1,if_neg (by simp)]
     by_cases c8:L[k].Code=8
     ·obtain⟨e,x,e1,e2,e3⟩:=t.2 c8
      simp only [YO,Prod.mk.injEq] at e1
      obtain⟨rfl,rfl⟩:=e1
      have z3:(L[k].Code == 8)=true:=by simpa using c8
      have z2:(L[i].Handle != 0)=false:=by simpa using e3
      rw [z3,if_pos rfl,if_neg (by simpa using e2),z2]
      simp only [fI]
      rw [if_neg (by simp)];exact nx
     ·have z3:(L[k].Code == 8)=false:=by simpa using c8
      rw [z3,if_neg (by simp)]
      simp only [fI]
      rw [if_neg (by simp)];exact nx
  ·have q1:(L[k].Kind != 4)=true:=by simpa using q
   rw [q1,if_pos rfl];exact nx) (by
  simp only [tY]
  rw [if_neg (by simp)])
 have key':loop (tY L) 0=some (Out.brk ()):=key
 rw [key'];rfl
def P5(h:aC)(t:Int):Span:=⟨eF t (aW h t)+4,eF t (aW h t)+4+fB (aW h t)⟩
theorem aO3{h:aC}{a b:Int}(hc:0<=aW h a)(ht:0<=aW h b)(hn:a≠b):(P5 h a).To<=(P5 h b).GK\/(P5 h b).To<=(P5 h a).GK:=by
 obtain⟨p,i,p6,hi,es,ec,eo,ep⟩:=nG hc
 obtain⟨q,j,q6,hj,fs,fc,fo,fp⟩:=nG ht
 unfold P5
 dsimp only
 have room:∀c (i:Nat),i < (bS c).toNat->8+i * (aS c).toNat+(aS c).toNat<=64/\fB c+4=((aS c).toNat:Int):=fun c i h=>by
  have hcl:0<=c/\c<=2:=gK.1 (by omega)
  rcases eX hcl with rfl | rfl | rfl
  ·rw [show(bS 0).toNat=4 from rfl] at h;rw [show(aS 0).toNat=12 from rfl,show fB 0=8 from rfl];omega
  ·rw [show(bS 1).toNat=2 from rfl] at h;rw [show(aS 1).toNat=20 from rfl,show fB 1=16 from rfl];omega
  ·rw [show(bS 2).toNat=1 from rfl] at h;rw [show(aS 2).toNat=44 from rfl,show fB 2=40 from rfl];omega
 have r1:=room _ _ hi
 have r2:=room _ _ hj
 rw [ec,fc]
 rw [ec] at eo
 rw [fc] at fo
 by_cases e:p=q
 ·subst e
  have hij:i≠j:=fun e=>hn (by omega)
  have hcl:0<=bQ h p/\bQ h p<=2:=gK.1 (by omega)
  generalize bQ h p=c at *
  rcases eX hcl with rfl | rfl | rfl
  ·rw [show(aS 0).toNat=12 from rfl] at *;rw [show fB 0=8 from rfl] at *;omega
  ·rw [show(aS 1).toNat=20 from rfl] at *;rw [show fB 1=16 from rfl] at *;omega
  ·rw [show(bS 2).toNat=1 from rfl] at hi hj;omega
 ·have:p < q\/q < p:=by omega
  omega
theorem aSU{h:aC}{a:Int}(hc:0<=aW h a):0<=(P5 h a).GK/\(P5 h a).To<=384:=by
 obtain⟨p,i,p6,hi,es,ec,eo,ep⟩:=nG hc
 unfold P5
 dsimp only
 rw [ec] at eo ⊢
 have hcl:0<=bQ h p/\bQ h p<=2:=gK.1 (by omega)
 generalize bQ h p=c at *
 rcases eX hcl with rfl | rfl | rfl
 ·rw [show(bS 0).toNat=4 from rfl] at hi;rw [show(aS 0).toNat=12 from rfl] at eo;rw [show fB 0=8 from rfl];omega
 ·rw [show(bS 1).toNat=2 from rfl] at hi;rw [show(aS 1).toNat=20 from rfl] at eo;rw [show fB 1=16 from rfl];omega
 ·rw [show(bS 2).toNat=1 from rfl] at hi;rw [show(aS 2).toNat=44 from rfl] at eo;rw [show fB 2=40 from rfl];omega
def SU(b:aA)(k:Nat):List Span:=((List.range k).filter fun i:Nat=>decide (3<=j4 b (i:Int))).map fun i:Nat=>P5 b.Mem.aC (i:Int)
theorem aQ0(b:aA)(k:Nat):SU b (k+1)=if 3<=j4 b (k:Int) then SU b k ++ [P5 b.Mem.aC (k:Int)] else SU b k:=by
 unfold SU
 rw [List.range_succ,List.filter_append,y7]
 by_cases g:3<=j4 b (k:Int)
 ·rw [if_pos g];simp [g]
 ·rw [if_neg g];simp [g]
theorem aKL(b:aA)(k:Nat):(SU b k).length<=k:=by
 unfold SU
 rw [List.length_map]
 exact yN (List.length_filter_le _ _) (by simp)
theorem KQ{b:aA}{t:Int}(h:3<=j4 b t):0<=aW b.Mem.aC t:=by
 unfold j4 at h
 split at h
 ·rename_i q;exact hJ q
 ·rename_i q
  have:=X8 b.Mem t
  exact absurd (by omega:dU b.Mem t=3) q
theorem aUJ{b:aA}(hb:mC b):NC b=some (SU b 24):=by
 have hsh:fW b.Mem.aC:=hb.1.1.1.1.1
 unfold NC
 have key:loop (wM b) (([]:List Span),0)=some (SU b 24):=fV (f:=wM b) 24 (fun k=>(SU b k,(k:Int))) _ (fun k hk=>by
  have hlen:=aKL b k
  have ew:aY ((k:Int)+1)=((k+1:Nat):Int):=by rw [aM (by omega) (by omega)];rfl
  have hW:QZ b (k:Int)=some (j4 b (k:Int)):=by
   unfold QZ
   rw [LY (mC.fits hb),aZ hb,aE,if_neg (by simp),aB4 hb];rfl
  rw [aQ0]
  simp only [wM,EU]
  rw [if_pos (by simp;omega),hW,aE,ew]
  by_cases g:3<=j4 b (k:Int)
  ·have hc:=KQ g
   have hin:=aSU hc
   unfold P5 at hin
   dsimp only at hin
   have hR:xO (k:Int) (aW b.Mem.aC (k:Int))=some (P5 b.Mem.aC (k:Int)):=by
    unfold xO P5
    rw [(start_eq hsh hc).2,aE,if_neg (by simp;omega),LP,aE]
    have hsz:0<=fB (aW b.Mem.aC (k:Int)):=by unfold fB;(repeat' split) <;> omega
    rw [aM (by omega) (by omega)]
   rw [if_pos (by simpa using g),kG hsh,aE,hR,aE,aN (by simp;omega),if_pos g]
  ·rw [if_neg (by simpa using g),if_neg g]) (by simp [wM])
 rw [key];rfl
theorem aO4{l:List Span}(hl:l.length<=1000)(h1:∀x∈l,0<=x.GK/\x.To<=384)(h2:l.Pairwise fun a b=>a.To<=b.GK\/b.To<=a.GK):AL l=some true:=by
 unfold AL
 have key:loop (rD l) 0=some (Out.brk ()):=fV (f:=rD l) l.length (fun k=>(k:Int)) _ (fun k hk=>by
  have hx:=h1 _ (eN hk)
  have ew:aY ((k:Int)+1)=((k+1:Nat):Int):=by rw [aM (by omega) (by omega)];rfl
  have inner:loop (rC l (k:Int)) 0=some (Out.brk ()):=fV (f:=rC l (k:Int)) k (fun j=>(j:Int)) _ (fun j hj=>by
   have hap:=List.pairwise_iff_getElem.1 h2 j k (by omega) hk hj
   have ewj:aY ((j:Int)+1)=((j+1:Nat):Int):=by rw [aM (by omega) (by omega)];rfl
   have ha:QY l[k] l[j]=some true:=by
    unfold QY
    simp only [uL]
    by_cases a1:l[k].To<=l[k].GK
    ·rw [if_pos (by simpa using a1)]
    rw [if_neg (by simpa using a1)]
    by_cases a2:l[j].To<=l[j].GK
    ·rw [if_pos (by simpa using a2)]
    rw [if_neg (by simpa using a2)]
    by_cases a3:l[k].To<=l[j].GK
    ·rw [if_pos (by simpa using a3)]
    rw [if_neg (by simpa using a3),aZ (by omega)]
   simp only [rC]
   rw [if_pos (by simp;omega),aU hk,aE,aU (by omega),aE,ha,aE,if_neg (by simp),ewj]) (by simp [rC])
  simp only [rD,xW]
  rw [if_pos (by simp;omega),aU hk,aE,if_neg (by simp;omega),aE,if_neg (by simp;omega),inner,aE]
  simp only [PG,PF]
  rw [ew]) (by simp [rD])
 rw [key];rfl
theorem aD1(b:aA):AL (SU b 24)=some true:=by
 refine aO4 (by have:=aKL b 24;omega) (fun x hx=>?_) ?_
 ·unfold SU at hx
  simp only [DD,aEQ,S9,decide_eq_true_eq] at hx
  obtain⟨i,⟨_,g⟩,rfl⟩:=hx
  exact aSU (KQ g)
 ·unfold SU
  rw [List.pairwise_map]
  refine List.Pairwise.imp_of_mem (R:=fun a b=>a < b) (fun{a c} ha hc hlt=>?_) ((List.pairwise_lt_range).filter _)
  simp only [aEQ,S9,decide_eq_true_eq] at ha hc
  exact aO3 (KQ ha.2) (KQ hc.2) (by omega)
theorem aUK{code:List UInt8}(_:fit code):XU code=some true:=by
 unfold XU aFO
 rw [aE]
 by_cases hcl:1048576 < (code.length:Int)
 ·rw [if_pos (by simpa using hcl)]
 rw [if_neg (by simpa using hcl)]
 obtain⟨x,ex,hT,hp⟩:=aQM (code:=code) (by omega)
 rw [ex,aE,aYQ hT,aE]
 by_cases ht:OL x.dT
 ·rw [aZ ht,if_neg (by simp)]
  let P:aG->Prop:=fun s=>Ep s.aA.aD (aL s)/\Sv s.aA s.Cells (aL s) s.Log s.aI
  have play:∀y:m7,y.dT=x.dT->y.eO.length<=5000->∃s,jV y=some s/\DA s/\P s/\s.Log.length<=400:=fun y e1 e2=>
   a6O (by rw [e1];exact hT) e2 P (fun t _ _=>⟨ep0 _,sv0 _⟩) (fun s w hs hw h=>⟨a1Q hs hw h.1,a13 hs hw h.1 h.2⟩) (by rw [e1];exact ht)
  have hcut:∃n,QU code 0 (x.eO.length:Int)=some n/\0<=n:=by
   unfold QU
   have ha:∃a,aEI code 0=some a/\0<=a/\a<=255:=by
    unfold aEI
    by_cases h0:(0:Int) < code.length
    ·rw [if_pos (by simpa using h0),fU (uQ 0) h0,aE]
     refine⟨_,rfl,by omega,?_⟩
     have:=(code[(0:Int).toNat]'(by omega)).toNat_lt
     omega
    ·have hz:code.length=0:=by omega
     rw [if_neg (by simpa using h0),hz]
     exact⟨_,rfl,by decide,by decide⟩
   obtain⟨a,e,a0,a1⟩:=ha
   rw [e,aE]
   refine⟨_,rfl,?_⟩
   have h1:a * ((x.eO.length:Int)+1)<=255 * 5001:=Int.mul_le_mul a1 (by omega) (by omega) (by omega)
   have h2:0<=a * ((x.eO.length:Int)+1):=Int.mul_nonneg a0 (by omega)
   rw [aM (x:=(x.eO.length:Int)+1) (by omega) (by omega),aM (x:=a * ((x.eO.length:Int)+1)) (by omega) (by omega),FF h2,aM (by omega) (by omega)]
   omega
  obtain⟨n,en,n0⟩:=hcut
  rw [en,aE,aN (by split <;> omega)]
  obtain⟨s,es,hs,⟨hE,hV⟩,hl⟩:=play ⟨x.dT,(x.eO.take ((if n < (x.eO.length:Int) then n else (x.eO.length:Int)).toNat)).drop 0⟩ rfl (by simp;omega)
  obtain⟨t,et,hs',⟨hE',hV'⟩,hl'⟩:=play x rfl hp
  rw [es,aE]
  have l1:s.Log.length<=1000000:=by omega
  have l2:t.Log.length<=1000000:=by omega
  unfold N4
  rw [et,aE,aAH hs l1 hV,aE,if_pos rfl,VI hs l1 hV.ow,aE,if_pos rfl,aAH hs' l2 hV',aE,if_pos rfl,VI hs' l2 hV'.ow,aE,if_pos rfl,
   aUH l2 hV'.tr,aE,if_pos rfl,aMN hs' l2 hV',aE,if_pos rfl,aH3 hs' l2 hV',aE,if_pos rfl,aUI l2 hV'.tr,aE,if_pos rfl,aUJ hs'.1,aE,aD1]
  rfl
 ·rw [bM ht,iU,if_pos rfl]
  have e1:jV x=some aMC:=by
   unfold jV
   rw [(U9 (t:=x.dT) (by have:=hT.1;omega) (fun q hq=>by have:=hT.2 q hq;omega)).2,aE,if_neg ht]
   rfl
  rw [e1];rfl
end Go.Gv
end
