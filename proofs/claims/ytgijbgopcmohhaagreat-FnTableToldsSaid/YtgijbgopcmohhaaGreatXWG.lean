import Derived.Test.YtgijbgopcmohhaaGreatXWF
set_option linter.unusedVariables false
set_option linter.unusedSimpArgs false
set_option linter.unusedSectionVars false
set_option linter.constructorNameAsVariable false
set_option linter.unnecessarySimpa false
noncomputable section
namespace Go.Gv
theorem aS6:∀(n:Nat) (l:List Int),l.Nodup->(∀x∈l,0<=x/\x<(n:Int))->l.length<=n
 | 0, l, _, h => by
  cases l with
  | nil=>simp
  | cons a t=>(simp_all;omega)
 | n + 1, l, hn, h => by
  have ih:=aS6 n (l.erase (n:Int)) (hn.erase _) (fun x hx=>by
   grind)
  grind
theorem K4{l:List bI}{k:Nat}(hk:k<l.length)(x:bI):dQ (l.set k x)=dQ (l.take k)++(x.Rows++dQ (l.drop (k+1))):=by simp_all[List.set_eq_take_append_cons_drop,dQ]
theorem IK{l:List bI}{k:Nat}(hk:k<l.length):dQ l=dQ (l.take k)++(l[k].Rows++dQ (l.drop (k+1))):=by grind[aLI,K4]
theorem GM{l:List aW}{k:Nat}(hk:k<l.length)(x:aW):eY (l.set k x)=eY (l.take k)++(x.aT++eY (l.drop (k+1))):=by simp_all[List.set_eq_take_append_cons_drop,eY]
theorem CY{l:List aW}{k:Nat}(hk:k<l.length):eY l=eY (l.take k)++(l[k].aT++eY (l.drop (k+1))):=by grind[aLI,GM]
def aQ(l:List bI)(s:Int):Prop:=∃r∈dQ l,lW r.Handle/\r.Handle % 32=s
instance (l:List bI) (s:Int):Decidable (aQ l s):=by unfold aQ;infer_instance
noncomputable section
variable {l:List bI} (hl:yP l)
include hl
theorem yP.small:(dQ l).length<=1073741824/\l.length<=maxLen/\l.length<=1048576/\∀s∈l,s.Rows.length<=24:=by have:=hl.1;have h2:=hl.2.1;refine⟨by omega,by grind[maxLen],by omega,fun s hs=>?_⟩;have:=W9 hs;omega
theorem T0(s:Int):R4 l s=some (decide (aQ l s)):=by
 have hm:=hl.small;unfold R4;rw[aIW hm.1 hm.2.1,aK];have key:=K3 (f:=o4 s (dQ l)) (dQ l) (fun k=>(k:Int)) (fun r=>¬(lW r.Handle/\r.Handle % 32=s)) (Out.brk ()) (Out.ret true)
  (fun k hk hp=>by
   have hk':=hl.2.1;simp only[o4,BE];rw[if_pos (by simp;omega),aV hk,sE (show k<maxLen by grind[maxLen])];grind[rU,jI])
  (fun k hk hp=>by
   simp_all[o4,BE,aV,rU,jI])
  (by simp[o4])
 have key':loop (o4 s (dQ l)) 0=_:=key;rw[key'];by_cases q:aQ l s
 ·rw[if_neg (fun a=>by obtain⟨r,hr,e⟩:=q;grind),cZ q];rfl
 ·rw[if_pos (fun r hr e=>q ⟨r,hr,e⟩),gZ q];rfl
theorem T1(s:Int):D5 l s=some (decide (aQ l s)):=by
 have hm:=hl.small;unfold D5;have e1:∀(r:eE),rJ r s=some (decide (lW r.Handle/\r.Handle % 32=s)):=by
  intro r;unfold rJ qM;rw[g9];by_cases q:lW r.Handle
  ·rw[q.mod.1];grind
  ·simp[q]
 have e2:∀x∈l,D4 x s=some (x.Rows.any fun r=>decide (lW r.Handle/\r.Handle % 32=s)):=by
  intro x hx;unfold D4;have:x.Rows.length<=maxLen:=by grind[maxLen]
  rw[show(fun y0=>rJ y0 s)=fun r=>some (decide (lW r.Handle/\r.Handle % 32=s)) from funext e1,YQ this];rfl
 rw[V6 hm.2.1 (fun x=>x.Rows.any fun r=>decide (lW r.Handle/\r.Handle % 32=s)) _ e2];simp only[aK];congr 1;rw[IS,decide_eq_true_iff];simp only[List.any_eq_true,decide_eq_true_eq,aQ,dQ,aDV];grind
theorem yP.more{k:Nat}(hk:k<l.length){r:eE}(hr:OA r)(hn:¬aQ l (r.Handle % 32)):yP (l.set k ⟨l[k].Rows ++ [r]⟩):=by
 have e:=K4 hk (⟨l[k].Rows ++ [r]⟩:bI);have p:(dQ (l.set k ⟨l[k].Rows ++ [r]⟩)).Perm (r :: dQ l):=by grind[IK]
 have h1:∀x∈dQ (l.set k ⟨l[k].Rows ++ [r]⟩),OA x:=fun x hx=>by
  rcases jA.1 (p.mem_iff.1 hx) with rfl | h
  ·exact hr
  ·exact hl.2.2.1 x h
 have h2:((dQ (l.set k ⟨l[k].Rows ++ [r]⟩)).map FT).Nodup:=by refine(List.Perm.nodup_iff (p.map FT)).2 ?_;rw[K8,aDX];refine⟨fun h=>hn ?_,hl.2.2.2⟩;obtain⟨x,hx,e⟩:=UI.1 h;exact⟨x,hx,(hl.2.2.1 x hx).1,e⟩
 refine⟨by simpa using hl.1,?_,h1,h2⟩;have:=aS6 24 _ h2 (fun x hx=>by
  obtain⟨y,hy,rfl⟩:=UI.1 hx;have:=(h1 y hy).1.mod;grind[FT])
 grind
end
theorem aXO{b:aC}(hb:nC b)(hs:MH b){w:Int}(hw:0<=w/\w<=2)(s:Sub) :
  ∃x y,wS b w s=some (x,y)/\qN s b w=some (y,x)/\∃L,x=⟨b.Mem,b.aA,L,b.qH⟩/\yP L/\∀r∈dQ L,OB b r:=by
 have hL:=hb.1.2.2.1;have hm:=hb.1.1;have hlen:w.toNat<b.aN.length:=by have:=hL.1;omega
 have hx:idx b.aN w=some b.aN[w.toNat]:=iC hw.1 (by omega);have hg:b.Mem.aD.Global.length<=maxLen:=by rw[hm.1.2.1];simp[maxLen]
 have ho:b.Mem.aD.Own.length<=maxLen:=by rw[hm.1.2.2.1];simp[maxLen]
 have hall:(iE b.Mem.aD).length<=1073741824:=by have:=hs.1.2.2.2.2;omega
 have hrow:=hL.small.2.2.2 _ (dC hlen);have he:=hb.1.2.1.1;unfold wS qN nB;rw[fQ,dL,TZ hm.1.1.1 hall hg ho,E2 hm.1.1.1 hall hg ho,jI];simp only[bQ,bG,aK,vN,ES,nA];by_cases p0:s.Pc=0
 ·simp only[p0,beq_self_eq_true,if_true];exact⟨_,_,rfl,rfl,_,rfl,hL,hb.2⟩
 ·have p0' : (s.Pc == 0) = false := by grind
  simp only[p0',bT,if_false];by_cases p1:s.Pc=1
  ·simp only[p1,beq_self_eq_true,bne_self_eq_false,bT,if_false,if_true];by_cases q1:0<=s.E/\s.E<=b.aA.aG
   ·simp only[cZ q1,kV,bT,if_false];by_cases q2:m5 b.Mem s.A
    ·have hh:=q2.1;simp only[cZ q2,kV,bT,if_false,if_pos hh,hh.mod.1,T0 hL,T1 hL,aK];by_cases q3:aQ b.aN (s.A % 32)
     ·simp only[cZ q3,if_true];exact⟨_,_,rfl,rfl,_,rfl,hL,hb.2⟩
     ·have hmore:=hL.more hlen (r:=⟨s.A,s.E⟩) ⟨hh,q1.1,by grind⟩ q3;have e:HD b.aN w s.A s.E=some (b.aN.set w.toNat ⟨b.aN[w.toNat].Rows ++ [⟨s.A,s.E⟩]⟩,true):=by unfold HD xQ;rw[BK hL.small.1,nI,PE hL.small.2.2.1 (fun s h=>by have:=hL.small.2.2.2 s h;omega)];simp only[cZ hL,cZ hw,aK,kV,bT,if_false,hx];rw[aM (by simp;omega),BK hmore.small.1,cZ hmore];rfl
      simp only[gZ q3,bT,if_false,hx,e,aK];rw[aM (by simp;omega)];refine⟨_,_,rfl,rfl,_,rfl,hmore,fun r hr=>?_⟩;rw[K4 hlen] at hr;have hsp:=IK hlen;rcases fB.1 hr with h | h
      ·exact hb.2 r (by grind)
      ·rcases fB.1 h with h | h
       ·rcases fB.1 h with h | h
        ·exact hb.2 r (by grind)
        ·simp at h;subst h;exact⟨q2,q1.2⟩
       ·exact hb.2 r (by grind)
    ·simp only[gZ q2,PQ,if_true];exact⟨_,_,rfl,rfl,_,rfl,hL,hb.2⟩
   ·simp only[gZ q1,PQ,if_true];exact⟨_,_,rfl,rfl,_,rfl,hL,hb.2⟩
  ·have p1':(s.Pc == 1)=false:=by grind
   have p1'':(s.Pc != 1)=true:=by grind
   simp only[p1',p1'',bT,if_false,if_true];exact⟨_,_,rfl,rfl,_,rfl,hL,hb.2⟩
end Go.Gv
end
noncomputable section
namespace Go.Gv
def st4(b:List Int)(a:Nat)(n:Int):List Int:=(((b.set a 0).set (a+1) 0).set (a+2) 0).set (a+3) n
theorem E3(b:List Int)(a:Nat)(n:Int):(st4 b a n).length=b.length:=by simp[st4]
theorem aQH{b:List Int}(h:sC b)(a:Nat){n:Int}(hn:0<=n/\n<=255):sC (st4 b a n):=by
 have key:∀{l:List Int} (i:Nat) (v:Int),sC l->0<=v/\v<=255->sC (l.set i v):=fun i v hl hv x hx=>by
  rcases uY hx with h | rfl
  ·exact hl x h
  ·exact hv
 exact key _ _ (key _ _ (key _ _ (key _ _ h (by omega)) (by omega)) (by omega)) hn
theorem a17{n:Int}(hn:0<=n/\n<=255):((u8 n).toNat:Int)=n:=by grind[u8,UInt8.toNat_ofNat']
theorem aQI{l:List Int}(i:Nat){v:Int}(hl:sC l)(hv:0<=v/\v<=255):sC (l.set i v):=fun x hx=>by
 rcases uY hx with h | rfl
 ·exact hl x h
 ·exact hv
def PF(b:List Int)(a:Nat)(n:Int):List Int:=(((b.set a (n / 16777216)).set (a+1) (n / 65536 % 256)).set (a+2) (n / 256 % 256)).set (a+3) (n % 256)
theorem aBU(b:List Int)(a:Nat)(n:Int):(PF b a n).length=b.length:=by simp[PF]
theorem aXP{b:List Int}(h:sC b)(a:Nat){n:Int}(hn:0<=n/\n<=4294967295):sC (PF b a n):=by grind[PF,aQI]
theorem aXQ(b:List Int)(a:Nat)(x y z u:Int):(((b.set (a+3) u).set (a+2) z).set (a+1) y).set a x=(((b.set a x).set (a+1) y).set (a+2) z).set (a+3) u:=by refine List.ext_getElem (by simp) fun j h1 h2=>?_;grind
theorem aXR{b:List Int}{a:Nat}(h:a+4<=b.length)(hl:b.length<=100000){n:Int}(hn:0<=n/\n<=4294967295):EP b (a:Int) 4 n=some (PF b a n):=by
 have st:∀(c:List Int) (m:Int) (i:Nat),c.length=b.length->0<=m->m<=4294967295->i<4->BF (a:Int) (c,m,(i:Int))=some (.next (c.set (a+i) (m % 256),m / 256,(i:Int) - 1)):=fun c m i hc h0 h1 hi=>by simp only[BF];rw[if_pos (by simp),aP (x:=(a:Int)+i) (by omega) (by omega),show(a:Int)+i=((a+i:Nat):Int) by omega,aV (by omega),aK,MD h0,aP9 h0,aP (x:=m / 256) (by omega) (by omega),aP (x:=(i:Int) - 1) (by omega) (by omega),K7]
 unfold EP;rw[show bE (4 - 1)=((3:Nat):Int) from by grind[aP]];rw[bU (st b n 3 rfl hn.1 hn.2 (by omega)),show((3:Nat):Int) - 1=((2:Nat):Int) by rfl,
  bU (st _ _ 2 (by simp) (by omega) (by omega) (by omega)),show((2:Nat):Int) - 1=((1:Nat):Int) by rfl,
  bU (st _ _ 1 (by simp) (by omega) (by omega) (by omega)),show((1:Nat):Int) - 1=((0:Nat):Int) by rfl,
  bU (st _ _ 0 (by simp) (by omega) (by omega) (by omega)),bM (r:=PF b a n)]
 ·rfl
 ·simp only[BF];rw[if_neg (by simp)];have e1:n / 256 / 256=n / 65536:=by omega
  have e2:n / 256 / 256 / 256=n / 16777216:=by omega
  have e3:n / 16777216 % 256=n / 16777216:=by omega
  simp_all[PF,aXQ]
def oK(n:Int):List UInt8:=[u8 (n / 16777216),u8 (n / 65536),u8 (n / 256),u8 n]
theorem SL{n:Int}(hn:0<=n/\n<=4294967295):mL n 4=some (oK n):=by
 have hw:xO 4=some true:=by grind[xO,dL]
 unfold mL;rw[hw];have e1:IntKind.u64.wrap (bE (8*4))=32:=by decide
 have e2:aG7 .i64 1 32=4294967296:=by decide
 simp only[aK,kV,bT,if_false,e1,e2];rw[if_neg (by simp;omega),aM (by omega),gZ (by omega)];simp only[uN,bT,if_false];rw[aM (by omega),show bE (4 - 1)=((3:Nat):Int) from by grind[aP]];have st:∀(m:Int) (c:List UInt8) (i:Nat),i<c.length->i<4->0<=m->p5 (m,c,(i:Int))=some (.next (m / 256,c.set i (u8 m),(i:Int) - 1)):=fun m c i hc hi h0=>by simp only[p5];rw[if_pos (by simp),aV hc,aK,show(8:Int)=((8:Nat):Int) from rfl,aVL h0 (by omega),aP (by omega) (by omega),K7];rfl
 rw[bU (st n _ 3 (by simp) (by omega) hn.1),show((3:Nat):Int) - 1=((2:Nat):Int) by rfl,
  bU (st _ _ 2 (by simp) (by omega) (by omega)),show((2:Nat):Int) - 1=((1:Nat):Int) by rfl,
  bU (st _ _ 1 (by simp) (by omega) (by omega)),show((1:Nat):Int) - 1=((0:Nat):Int) by rfl,
  bU (st _ _ 0 (by simp) (by omega) (by omega)),bM (r:=oK n)]
 ·rfl
 ·simp only[p5];rw[if_neg (by simp)];have e1:n / 256 / 256=n / 65536:=by omega
  rw[e1,show n / 65536 / 256=n / 16777216 by omega];rfl
theorem aN8{n:Int}(hn:0<=n):((u8 n).toNat:Int)=n % 256:=by
 have:u8 n=u8 (n % 256):=by grind[u8]
 grind[a17]
theorem aS7{b:List Int}{a:Nat}(h:a+4<=b.length)(hl:b.length<=100000){n:Int}(hn:0<=n/\n<=4294967295):nG b (a:Int) (oK n)=some (PF b a n):=by
 have st:∀(c:List Int) (i:Nat) (v:UInt8),c.length=b.length->i<4->idx (oK n) (i:Int)=some v->lP b (a:Int) (oK n) (c,(i:Int))=some (.next (c.set (a+i) (v.toNat:Int),((i+1:Nat):Int))):=fun c i v hc hi hv=>by simp only[lP];rw[aM hc,if_pos (by grind[oK]),hv,aK,aP (x:=(a:Int)+i) (by omega) (by omega),show(a:Int)+i=((a+i:Nat):Int) by omega,aV (by omega),aK,aP (by omega) (by omega),K7];rfl
 unfold nG;rw[show(0:Int)=((0:Nat):Int) from rfl,bU (st b 0 _ rfl (by omega) rfl),bU (st _ 1 _ (by simp) (by omega) rfl),bU (st _ 2 _ (by simp) (by omega) rfl),bU (st _ 3 _ (by simp) (by omega) rfl),bM (r:=PF b a n)]
 ·grind[LO,LN,aM,aBU]
 ·simp only[lP];rw[aM (by simp),if_neg (by simp[oK])];simp only[aN8 hn.1,aN8 (show 0<=n / 16777216 by omega),aN8 (show 0<=n / 65536 by omega),aN8 (show 0<=n / 256 by omega)];rw[show n / 16777216 % 256=n / 16777216 by omega];rfl
theorem a18{b:List Int}{a:Nat}{n:Int}(hn:0<=n/\n<=255):PF b a n=st4 b a n:=by grind[PF,st4]
theorem JH{b:List Int}{a:Nat}(h:a+4<=b.length)(hl:b.length<=100000){n:Int}(hn:0<=n/\n<=255):EP b (a:Int) 4 n=some (st4 b a n):=by grind[aXR,a18]
theorem bCS{n:Int}(hn:0<=n/\n<=255):oK n=[0,0,0,u8 n]:=by unfold oK;rw[show n / 16777216=0 by omega,show n / 65536=0 by omega,show n / 256=0 by omega];rfl
theorem YR{n:Int}(hn:0<=n/\n<=255):mL n 4=some [0,0,0,u8 n]:=by grind[SL,bCS]
theorem WB{b:List Int}{a:Nat}(h:a+4<=b.length)(hl:b.length<=100000){n:Int}(hn:0<=n/\n<=255):nG b (a:Int) [0,0,0,u8 n]=some (st4 b a n):=by rw[<-bCS hn,aS7 h hl ⟨hn.1,by omega⟩,a18 hn]
end Go.Gv
end
noncomputable section
namespace Go.Gv
theorem a8O{x y z:Int}:∀(a:Nat) (l:List Int),a+3<=l.length->cT l a [x,y,z]=((l.set a x).set (a+1) y).set (a+2) z
 | 0, l, h => by
  match l,h with
  | _ :: _ :: _ :: t,_=>simp[cT]
 | a + 1, l, h => by
  match l,h with
  | u :: t, h =>
   have ih:=a8O (x:=x) (y:=y) (z:=z) a t (by grind);grind[cT]
def a19(p k:Nat)(c:Int):Nat:=(iY ((p:Int)*4+k) c).toNat
def gB(b:List Int)(p:Nat)(c:Int):Nat->List Int
 | 0=>((b.set (p*64) 171).set (p*64+1) c).set (p*64+2) (cM c)
 | k+1=>st4 (gB b p c k) (a19 p k c) 1
theorem JJ(b:List Int)(p:Nat)(c:Int):∀k,(gB b p c k).length=b.length
 | 0=>by simp[gB]
 | k+1=>by rw[gB,E3,JJ b p c k]
theorem aI1{l:List Int}(i:Nat){v:Int}(hl:sC l)(hv:0<=v/\v<=255):sC (l.set i v):=fun x hx=>by
 rcases uY hx with h | rfl
 ·exact hl x h
 ·exact hv
theorem aN9{b:List Int}(hb:sC b)(p:Nat){c:Int}(hc:0<=c/\c<=2):∀k,sC (gB b p c k)
 | 0 => by have:=pQ c;exact aI1 _ (aI1 _ (aI1 _ hb (by omega)) (by omega)) (by omega)
 | k+1=>aQH (aN9 hb p hc k) _ (by omega)
def gS(p:Nat)(n:Nat):List Int:=(List.range n).map fun(i:Nat)=>(p:Int)*4+(i:Int)
theorem aDJ(p n:Nat):(gS p n).length=n:=by simp[gS]
theorem aVR(p n:Nat):gS p (n+1)=gS p n ++ [(p:Int)*4+(n:Int)]:=by simp[gS,List.range_succ]
theorem aOA{p k:Nat}{c:Int}(hp:p<6)(hk:(k:Int)<cM c):iY ((p:Int)*4+k) c=(a19 p k c:Int)/\a19 p k c+4<=384:=by
 have h4:=pQ c;have hm:=SI (c:=c) (i:=(k:Int)) (by omega) hk;have hst:4<=bD c:=by have:0<=c/\c<=2:=jR.1 (by omega);rcases nQ this with e | e | e<;>rw[e]<;>decide
 have e:iY ((p:Int)*4+k) c=(p:Int)*64+8+(k:Int)*bD c:=by unfold iY;grind
 grind[a19]
theorem aL4{p k:Nat}(hp:p<6)(hk:k<4):N4 (p:Int) (k:Int)=some ((p:Int)*4+k)/\NW (p:Int) (k:Int)=some ((p:Int)*4+k):=by grind[aP,N4,LV,fQ,NW,D3,dL]
noncomputable section
variable {b:List Int} (hb:b.length=384) {p:Nat} (hp:p<6) {c:Int} (hc:0<=c/\c<=2)
include hb hp hc
theorem aI2:loop (BG c (p:Int)) ([],0,gB b p c 0)=some (gS p (cM c).toNat,gB b p c (cM c).toNat):=by
 have h4:=pQ c;refine iH (cM c).toNat (fun k=>(gS p k,(k:Int),gB b p c k)) _ (fun k hk=>?_) ?_
 ·have ho:=aOA (c:=c) hp (k:=k) (by omega);simp only[BG,TL,o5,aK];rw[if_pos (by simp;omega),(aL4 hp (by omega)).1];simp only[aK,AG,ho.1];rw[JH (by grind[JJ]) (by grind[JJ]) (by omega)];simp only[aK];rw[aM (by grind[aDJ]),aP (by omega) (by omega),aVR];rfl
 ·simp only[BG,o5,aK];grind
theorem aS8:loop (HB c (p:Int) (cM c)) ([],0,gB b p c 0)=some (gS p (cM c).toNat,gB b p c (cM c).toNat):=by
 have h4:=pQ c;refine iH (cM c).toNat (fun k=>(gS p k,(k:Int),gB b p c k)) _ (fun k hk=>?_) ?_
 ·have ho:=aOA (c:=c) hp (k:=k) (by omega);simp only[HB,OS];rw[if_pos (by simp;omega),(aL4 hp (by omega)).2];simp only[aK,AH,ho.1];rw[YR (by omega),aK,WB (by grind[JJ]) (by grind[JJ]) (by omega)];simp only[aK];rw[aM (by grind[aDJ]),aP (by omega) (by omega),aVR];rfl
 ·simp only[HB];grind
end
theorem a2A{h:Heap}(hh:YP h){c:Int}(hc:0<=c/\c<=2) :
  (tE h c=some (h,[])/\GB h c=some (h,[])) \/
  ∃p,p<6/\cV h p<0/\tE h c=some (⟨gB h.Bytes p c (cM c).toNat,h.Class.set p c⟩,gS p (cM c).toNat)/\GB h c=some (⟨gB h.Bytes p c (cM c).toNat,h.Class.set p c⟩,gS p (cM c).toNat):=by
 have hs:=hh.1;have h6:=hs.2.1;have h384:=hs.1;have hp4:=pQ c;have hcp:=SK (h:=h) (by omega) (by omega);have hne:∀j (hj:j<6),j<h.Class.findIdx (fun x=>decide (x = -1))->h.Class[j]≠-1:=fun j hj hlt=>by grind
 generalize hq:h.Class.findIdx (fun x=>decide (x = -1))=q at hne;have hq6:q<=6:=by grind
 have s1:∀k (hk:k<q),fC h c (k:Int)=some (.next ((k+1:Nat):Int)):=fun k hk=>by
  have:=hne k (by omega) hk;have n:(h.Class[k] != -1)=true:=by grind
  simp only[fC,JA];rw[if_pos (by simp;omega),aV (by omega),aK,n,if_pos rfl,aP (by omega) (by omega)];rfl
 have s2:∀k (hk:k<q),eW h.Class (-1) (k:Int)=some (.next ((k+1:Nat):Int)):=fun k hk=>by
  have:=hne k (by omega) hk;have n:((-1:Int) == h.Class[k])=false:=by grind
  simp only[eW];rw[if_pos (by simp;omega),aV (by omega),aK,n,aP (by omega) (by omega)];rfl
 have hm:h.Bytes.length<=maxLen:=by grind[maxLen]
 by_cases h5:q=6
 ·left;have a1:loop (fC h c) 0=some (Out.brk ()):=iH q (fun k=>(k:Int)) _ s1 (by simp_all[fC]);have a2:loop (eW h.Class (-1)) 0=some (Out.brk ()):=iH q (fun k=>(k:Int)) _ s2 (by simp_all[eW]);constructor
  ·unfold tE;rw[a1];rfl
  ·unfold GB nN;rw[a2,hcp,MF hm,kL,cZ hh,cZ hc];rfl
 ·right;have hq5:q<6:=by omega
  have he:h.Class[q] = -1:=by grind
  refine⟨q,hq5,by grind[W7],?_,?_⟩
  ·have a1:loop (fC h c) 0=some (Out.ret (⟨gB h.Bytes q c (cM c).toNat,h.Class.set q c⟩,gS q (cM c).toNat)):=iH q (fun k=>(k:Int)) _ s1 (by
    have e0:bE ((q:Int)*64)=((q*64:Nat):Int):=by grind[aP]
    have e1:bE (((q*64:Nat):Int)+1)=((q*64+1:Nat):Int):=by grind[aP]
    have e2:bE (((q*64:Nat):Int)+2)=((q*64+2:Nat):Int):=by grind[aP]
    have n:(h.Class[q] != -1)=false:=by grind
    simp only[fC,e0,e1,e2,K7];rw[if_pos (by simp;omega),aV (by omega),aK,n,if_neg (by simp),aV (by omega),aK,aV (by simp;omega),aK,o5,aK,aV (by simp;omega),aK];have:=aI2 h384 hq5 hc;simp only[gB] at this;rw[this];rfl)
   unfold tE;rw[a1];rfl
  ·have a2:loop (eW h.Class (-1)) 0=some (Out.ret (q:Int)):=iH q (fun k=>(k:Int)) _ s2 (by
    have n:((-1:Int) == h.Class[q])=true:=by rw[he];rfl
    simp only[eW];rw[if_pos (by simp;omega),aV (by omega),aK,n];rfl)
   unfold GB nN;rw[a2,hcp,MF hm,kL,cZ hh,cZ hc];have e0:bE ((q:Int)*64)=((q*64:Nat):Int):=by grind[aP]
   simp only[aK,yU,kV,bT,if_false,zU,e0,BI,OT,K7];rw[gZ (by omega),if_neg (by simp),aV (by omega),aK,aM (by omega),a8O _ _ (by omega)];have:=aS8 h384 hq5 hc;simp only[gB] at this;rw[this];rfl
theorem LOk.count{l:aD}(h:LOk l):(iE l).length<=24:=aS6 24 _ h.2.2.2.2 (fun x hx=>by have:=h.2.2.2.1 x hx;omega)
theorem aXS{m:Mem}(hs:iD m.Heap){s:Int}(hc:0<=bN m.Heap s):∃h,z8 m s=some h/\HC m s=some h:=by
 unfold z8 HC O4 OU xY xP;rw[uR hs hc,HM hs hc,aK,aK,fQ,fQ,xC,dL];have h1:=(tK hc).1;simp only[cZ h1,aK,kV,bT,if_false];by_cases q:1<=kU m.Heap s/\kU m.Heap s<=6
 ·simp only[cZ q,kV,bT,if_false];exact⟨_,rfl,rfl⟩
 ·simp only[gZ q,PQ,if_true];exact⟨_,rfl,rfl⟩
theorem ZS{l:List aW}{k:Nat}(hk:k<l.length)(t:List Int):(eY (l.set k ⟨l[k].aT++t⟩)).length=(eY l).length+t.length:=by grind[GM,CY]
end Go.Gv
end
noncomputable section
namespace Go.Gv
def bt(b:List Int)(i:Nat):Int:=b.getD i 0
theorem aI3{b:List Int}{i:Nat}(h:i<b.length):b[i]=bt b i:=by grind[bt]
theorem ld4{b:List Int}{a:Nat}(h:a+4<=b.length):ld b a 4=((bt b a*256+bt b (a+1))*256+bt b (a+2))*256+bt b (a+3):=by grind[ld,zK,ldF,aI3]
theorem MI{b:List Int}{i j:Nat}{v:Int}(hi:i<b.length):bt (b.set i v) j=if j=i then v else bt b j:=by grind[bt]
theorem GN{b:List Int}{a:Nat}{n:Int}(h:a+4<=b.length)(j:Nat):bt (st4 b a n) j=if j=a+3 then n else if a<=j/\j<a+3 then 0 else bt b j:=by unfold st4;rw[MI (by simp;omega),MI (by simp;omega),MI (by simp;omega),MI (by omega)];omega
theorem aS9{b:List Int}{a:Nat}{n:Int}(h:a+4<=b.length):ld (st4 b a n) a 4=n:=by simp_all[ld4,E3,GN]
theorem HO{b b':List Int}{a:Nat}(h:a+4<=b.length)(hl:b'.length=b.length)(hs:∀j,a<=j->j<a+4->bt b' j=bt b j):ld b' a 4=ld b a 4:=by simp_all[ld4]
def ZT(h:Heap)(p:Nat):Prop:=
 if cV h p<0 then ∀k,k<64->bt h.Bytes (p*64+k)=0
 else((bt h.Bytes (p*64)=171/\bt h.Bytes (p*64+1)=cV h p/\bt h.Bytes (p*64+2)=cM (cV h p))/\(∀k,3<=k->k<8->bt h.Bytes (p*64+k)=0)/\∀i,i<(cM (cV h p)).toNat->1<=ld h.Bytes (p*64+8+i*(bD (cV h p)).toNat) 4/\ld h.Bytes (p*64+8+i*(bD (cV h p)).toNat) 4<=7)
theorem aL5{h:Heap}(hs:iD h){p:Nat}(hp:p<6){k:Nat}(hk:k<64):(lC h p).getD k 0=bt h.Bytes (p*64+k):=by rw[<-aXI hs hp hk,aI3 (by have:=hs.1;omega)]
theorem aBV{l:List Int}{x:Int}:x∈l↔∃k,k<l.length/\l.getD k 0=x:=by
 rw[aDW];constructor
 ·rintro⟨k,hk,e⟩;exact⟨k,hk,by grind⟩
 grind
theorem E4{h:Heap}(hs:iD h){p:Nat}(hp:p<6):E1 h p↔ZT h p:=by
 unfold E1 ZT;have hl:=V3 hs hp;split
 ·constructor
  ·intro q k hk;rw[<-aL5 hs hp hk];exact q _ (aBV.2 ⟨k,by omega,rfl⟩)
  grind[aBV,aL5]
 ·rw[aL5 hs hp (by omega),aL5 hs hp (by omega),aL5 hs hp (by omega)];have e:(∀x∈((lC h p).drop 3).take 5,x=0)↔∀k,3<=k->k<8->bt h.Bytes (p*64+k)=0:=by
   have g:∀j,j<5->(((lC h p).drop 3).take 5).getD j 0=bt h.Bytes (p*64+(3+j)):=fun j hj=>by rw[<-aL5 hs hp (by omega),PR,PR,aDU,if_pos hj,List.getElem?_drop]
   constructor
   ·intro q k h3 h8;have:=q _ (aBV.2 ⟨k - 3,by grind,rfl⟩);grind
   ·intro q x hx;obtain⟨k,hk,rfl⟩:=aBV.1 hx;simp[hl] at hk;rw[g _ hk];exact q _ (by omega) (by omega)
  rw[e];rfl
theorem ZT.same{h h':Heap}{p:Nat}(hp:p<6)(hs:iD h)(hl:h'.Bytes.length=h.Bytes.length)(hc:cV h' p=cV h p)(hb:∀k,k<64->bt h'.Bytes (p*64+k)=bt h.Bytes (p*64+k))(q:ZT h p):ZT h' p:=by
 have h1:=hs.1;unfold ZT at q ⊢;rw[hc];split
 ·grind
 ·rename_i q0;rw[if_neg q0] at q;obtain⟨⟨a1,a2,a3⟩,a4,a5⟩:=q;have b0:=hb 0 (by omega);have b1:=hb 1 (by omega);have b2:=hb 2 (by omega);simp only[SY] at b0;refine⟨⟨by omega,by omega,by omega⟩,fun k k3 k8=>by grind,fun i hi=>?_⟩;have hz:=yE hs hp (c:=cV h p) rfl hi;rw[HO (b:=h.Bytes) (by omega) hl fun j j1 j2=>by
   have:=hb (j - p*64) (by omega);grind]
  grind
theorem pS{h:Heap}{s:Int}(hc:0<=bN h s):∃p i,p<6/\i<(cM (cV h p)).toNat/\s=(p:Int)*4+i/\bN h s=cV h p/\(iY s (bN h s)).toNat=p*64+8+i*(bD (cV h p)).toNat/\(s / 4).toNat=p:=by obtain⟨h1,h2,h3⟩:=tK hc;have hle:=pQ (cV h (s / 4).toNat);refine⟨(s / 4).toNat,(s % 4).toNat,by omega,by omega,by omega,h3,?_,rfl⟩;rw[h3];unfold iY;rw[if_pos ⟨h1,by omega⟩];grind[bD]
theorem SM{c:Int}{i j:Nat}(hi:i<(cM c).toNat)(hj:j<(cM c).toNat)(hn:i≠j):i*(bD c).toNat+4<=j*(bD c).toNat\/j*(bD c).toNat+4<=i*(bD c).toNat:=by
 have hc:0<=c/\c<=2:=jR.1 (by omega);have h12:12<=(bD c).toNat:=by rcases nQ hc with rfl | rfl | rfl<;>decide
 rcases Nat.lt_or_gt_of_ne hn with q | q
 ·left;have:(i+1)*(bD c).toNat<=j*(bD c).toNat:=tO _ q;rw[mP] at this;omega
 ·right;have:(j+1)*(bD c).toNat<=i*(bD c).toNat:=tO _ q;rw[mP] at this;omega
theorem YP.a2B{h:Heap}(hh:YP h){s g:Int}(hc:0<=bN h s)(hg:1<=g/\g<=7) :
  YP ⟨st4 h.Bytes (iY s (bN h s)).toNat g,h.Class⟩/\∀t,0<=bN h t->kU ⟨st4 h.Bytes (iY s (bN h s)).toNat g,h.Class⟩ t=if t=s then g else kU h t:=by
 obtain⟨hs,hp⟩:=hh;have h384:=hs.1;have hs':iD ⟨st4 h.Bytes (iY s (bN h s)).toNat g,h.Class⟩:=⟨by grind[E3],hs.2.1,aQH hs.2.2.1 _ (by omega),hs.2.2.2⟩;obtain⟨p,i,p6,hi,es,ec,eo,ep⟩:=pS hc;have hz:=yE hs p6 rfl hi;have h4:=pQ (cV h p);refine⟨⟨hs',fun q hq=>?_⟩,fun t ht=>?_⟩
 ·rw[E4 hs' hq];have hold:=(E4 hs hq).1 (hp q hq);by_cases e:q=p
  ·subst e;have hpos:0<cM (cV h q):=by omega
   have hcl:¬cV h q<0:=by omega
   unfold ZT at hold ⊢;have hcl':cV ⟨st4 h.Bytes (iY s (bN h s)).toNat g,h.Class⟩ q=cV h q:=rfl;rw[hcl'];rw[if_neg hcl] at hold ⊢;obtain⟨⟨a1,a2,a3⟩,a4,a5⟩:=hold;have bs:∀k,k<8->bt (st4 h.Bytes (iY s (bN h s)).toNat g) (q*64+k)=bt h.Bytes (q*64+k):=fun k hk=>by rw[GN (by omega),if_neg (by omega),if_neg (by omega)]
   have b0:=bs 0 (by omega);have b1:=bs 1 (by omega);have b2:=bs 2 (by omega);simp only[SY] at b0;refine⟨⟨by grind,by grind,by grind⟩,fun k k3 k8=>by grind,fun j hj=>?_⟩;have hzj:=yE hs p6 rfl hj;by_cases ej:j=i
   ·grind[aS9]
   ·rw[HO (b:=h.Bytes) (by omega) (by grind[E3]) fun k k1 k2=>?_]
    ·grind
    ·simp only[eo];have:=SM hi hj (fun q=>ej q.symm);rw[GN (by omega),if_neg (by omega),if_neg (by omega)]
  ·refine ZT.same hq hs (by grind[E3]) rfl (fun k hk=>?_) hold;rw[GN (by omega),if_neg (by omega),if_neg (by omega)]
 ·have e2:bN ⟨st4 h.Bytes (iY s (bN h s)).toNat g,h.Class⟩ t=bN h t:=rfl;unfold kU;rw[e2];by_cases e:t=s
  ·subst e;rw[if_pos rfl];grind[aS9]
  ·rw[if_neg e];obtain⟨p',i',p6',hi',es',ec',eo',ep'⟩:=pS ht;have hz':=yE hs p6' rfl hi';rw[HO (b:=h.Bytes) (by omega) (by grind[E3]) fun k k1 k2=>?_];simp only;by_cases ee:p'=p
   ·subst ee;have:=SM hi hi' (fun q=>e (by omega));rw[GN (by omega),if_neg (by omega),if_neg (by omega)]
   ·have h4':=pQ (cV h p');rw[GN (by omega),if_neg (by omega),if_neg (by omega)]
theorem aGO{p k:Nat}{c:Int}(hp:p<6)(hk:(k:Int)<cM c):a19 p k c=p*64+8+k*(bD c).toNat/\8+k*(bD c).toNat+4<=64:=by have hc:0<=c/\c<=2:=jR.1 (by omega);have h1:=aOA (c:=c) hp hk;have hle:=pQ c;have e:=h1.1;unfold iY at e;rw[if_pos (by omega)] at e;grind[bD,cM]
theorem aVS{b:List Int}{p:Nat}{c:Int}(hl:b.length=384)(hp:p<6)(hc:0<=c/\c<=2):∀k:Nat,(k:Int)<=cM c->∀j,(j<p*64\/p*64+64<=j->bt (gB b p c k) j=bt b j)/\(3<=j->j<8->bt (gB b p c k) (p*64+j)=bt b (p*64+j))/\bt (gB b p c k) (p*64)=171/\bt (gB b p c k) (p*64+1)=c/\bt (gB b p c k) (p*64+2)=cM c
 | 0, hk, j => by
  have key:∀i,bt (gB b p c 0) i=if i=p*64+2 then cM c else if i=p*64+1 then c else if i=p*64 then 171 else bt b i:=fun i=>by grind[gB,MI]
  grind
 | k + 1, hk, j => by
  have ih:=aVS hl hp hc k (by omega);have hoff:=aGO (c:=c) hp (by omega:(k:Int)<cM c);have hbl:=JJ b p c k;unfold gB;refine⟨fun h=>?_,fun h1 h2=>?_,?_,?_,?_⟩
  ·rw[GN (by omega),if_neg (by omega),if_neg (by omega)];grind
  ·rw[GN (by omega),if_neg (by omega),if_neg (by omega)];grind
  ·rw[GN (by omega),if_neg (by omega),if_neg (by omega)];exact(ih j).2.2.1
  ·rw[GN (by omega),if_neg (by omega),if_neg (by omega)];exact(ih j).2.2.2.1
  ·rw[GN (by omega),if_neg (by omega),if_neg (by omega)];exact(ih j).2.2.2.2
theorem a2C{b:List Int}{p:Nat}{c:Int}(hl:b.length=384)(hp:p<6):∀k:Nat,(k:Int)<=cM c->∀i,i<k->ld (gB b p c k) (p*64+8+i*(bD c).toNat) 4=1
 | 0,_,i,h=>absurd h (by omega)
 | k + 1, hk, i, h => by
  have hbl:=JJ b p c k;have ho:=aGO (c:=c) hp (by omega:(k:Int)<cM c);unfold gB;by_cases e:i=k
  ·grind[aS9]
  ·have hoi:=aGO (c:=c) hp (by omega:(i:Int)<cM c);have ha:=SM (c:=c) (i:=i) (j:=k) (by omega) (by omega) e;rw[HO (b:=gB b p c k) (by omega) (by rw[E3]) fun j j1 j2=>by rw[GN (by omega),if_neg (by omega),if_neg (by omega)]];exact a2C hl hp k (by omega) i (by omega)
theorem WC{h:Heap}(hs:iD h){B:List Int}{p q:Nat}(hq:q<6){c:Int}:cV ⟨B,h.Class.set p c⟩ q=if q=p then c else cV h q:=by have h6:=hs.2.1;grind[cV]
theorem YP.a2D{h:Heap}(hh:YP h){p:Nat}(hp:p<6)(hun:cV h p<0){c:Int}(hc:0<=c/\c<=2) :
  YP ⟨gB h.Bytes p c (cM c).toNat,h.Class.set p c⟩/\(∀t,(t / 4).toNat≠p->bN ⟨gB h.Bytes p c (cM c).toNat,h.Class.set p c⟩ t=bN h t)/\(∀t,0<=bN h t->(t / 4).toNat≠p/\kU ⟨gB h.Bytes p c (cM c).toNat,h.Class.set p c⟩ t=kU h t) /\
   ∀i,i<(cM c).toNat->bN ⟨gB h.Bytes p c (cM c).toNat,h.Class.set p c⟩ ((p:Int)*4+i)=c/\kU ⟨gB h.Bytes p c (cM c).toNat,h.Class.set p c⟩ ((p:Int)*4+i)=1:=by
 obtain⟨hs,hpg⟩:=hh;have h384:=hs.1;have hle:=pQ c;have hpn:((cM c).toNat:Int)<=cM c:=by omega
 have hb:=aVS h384 hp hc (cM c).toNat hpn;have hbl:=JJ h.Bytes p c (cM c).toNat;have hs':iD ⟨gB h.Bytes p c (cM c).toNat,h.Class.set p c⟩:=⟨by simp only[hbl];exact h384,by simp only[cR];exact hs.2.1,aN9 hs.2.2.1 p hc _,fun x hx=>by
  rcases uY hx with q | rfl
  ·exact hs.2.2.2 x q
  ·omega⟩
 have hcls:∀t:Int,(t / 4).toNat≠p->bN ⟨gB h.Bytes p c (cM c).toNat,h.Class.set p c⟩ t=bN h t:=fun t ht=>by
  unfold bN;by_cases q:0<=t/\t<=23
  ·rw[WC hs (by omega),if_neg ht]
  ·rw[if_neg (fun z=>q z.1),if_neg (fun z=>q z.1)]
 refine⟨⟨hs',fun q hq=>?_⟩,hcls,fun t ht=>?_,fun i hi=>?_⟩
 ·rw[E4 hs' hq];have hold:=(E4 hs hq).1 (hpg q hq);by_cases e:q=p
  ·subst e;unfold ZT at hold ⊢;rw[if_pos hun] at hold;rw[WC hs hq,if_pos rfl,if_neg (by omega)];refine⟨(hb 0).2.2,fun k k3 k8=>?_,fun i hi=>?_⟩
   ·simp only;rw[(hb k).2.1 k3 k8];exact hold k (by omega)
   ·simp only;rw[a2C h384 hp _ hpn i hi];omega
  ·refine ZT.same hq hs (by simp only[hbl]) (by rw[WC hs hq,if_neg e]) (fun k hk=>?_) hold;exact(hb _).1 (by omega)
 ·obtain⟨p',i',p6',hi',es',ec',eo',ep'⟩:=pS ht;have hne:(t / 4).toNat≠p:=fun z=>by rw[ec',<-ep',z] at ht;omega
  refine⟨hne,?_⟩;have hz':=yE hs p6' rfl hi';unfold kU;rw[hcls t hne,HO (b:=h.Bytes) (by omega) (by simp only[hbl]) fun k k1 k2=>(hb k).1 (by omega)]
 ·have e1:((p:Int)*4+i) / 4=p:=by omega
  have e2:((p:Int)*4+i) % 4=i:=by omega
  have ec:bN ⟨gB h.Bytes p c (cM c).toNat,h.Class.set p c⟩ ((p:Int)*4+i)=c:=by unfold bN;rw[e1,e2,K7,WC hs hp,if_pos rfl,if_pos (by omega)]
  refine⟨ec,?_⟩;unfold kU;rw[ec];have ho:=aGO (c:=c) hp (by omega:(i:Int)<cM c);have:(iY ((p:Int)*4+i) c).toNat=p*64+8+i*(bD c).toNat:=ho.1;rw[this];exact a2C h384 hp _ hpn i hi
def uG(m m':Mem)(k:Int):Prop:=mO m'/\∀s,eM m s=3->s≠k->eM m' s=3/\kU m'.Heap s=kU m.Heap s/\bN m'.Heap s=bN m.Heap s
theorem uG.refl{m:Mem}(h:mO m)(k:Int):uG m m k:=⟨h,fun _ h _=>⟨h,rfl,rfl⟩⟩
theorem uG.live{m m':Mem}{k h:Int}(q:uG m m' k)(hl:m5 m h)(hn:h % 32≠k):m5 m' h:=by obtain⟨h1,h2,h3⟩:=hl;obtain⟨a,b,_⟩:=q.2 _ h2 hn;exact⟨h1,a,by omega⟩
theorem OD{l:List aW}{k j:Nat}(hk:k<l.length){t:aW}:fJ (l.set k t) j=if j=k then t.aT else fJ l j:=by grind[fJ]
theorem aL6{l:List aW}{k:Nat}(hk:k<l.length){t:aW}(ht:t.aT.Sublist l[k].aT):(eY (l.set k t)).Sublist (eY l):=by grind[GM,CY]
theorem E5{l:List aW}{k:Nat}(hk:k<l.length){xs:List Int}{s:Int}:s∈eY (l.set k ⟨l[k].aT++xs⟩)↔s∈eY l\/s∈xs:=by grind[GM,CY]
theorem WD{l:List aW}{k:Nat}(hk:k<l.length){xs r q:List Int}(h:(q++(eY l++r)).Nodup)(hx:xs.Nodup)(hd:∀x∈xs,x∉q++(eY l++r)):(q++(eY (l.set k ⟨l[k].aT++xs⟩)++r)).Nodup:=by
 have hp:(q++(eY (l.set k ⟨l[k].aT++xs⟩)++r)).Perm (xs++(q++(eY l++r))):=by rw[GM hk,CY hk];grind
 grind
theorem aBW{m m':Mem}{s:Int}(h1:bN m'.Heap s=bN m.Heap s)(h2:kU m'.Heap s=kU m.Heap s)(h3:s∈iE m'.aD↔s∈iE m.aD):eM m' s=eM m s:=by simp_all[eM]
theorem iN{m:Mem}{s:Int}:eM m s=3↔0<=bN m.Heap s/\s∉iE m.aD/\kU m.Heap s<=6:=by unfold eM;grind
noncomputable section
variable {m:Mem} (hm:mO m)
include hm
theorem mO.bAN{k:Nat}(hk:k<9){t:aW}(ht:t.aT.Sublist (fJ m.aD.Own k)):uG m ⟨m.Heap,⟨m.aD.Global,m.aD.Own.set k t⟩⟩ (-1):=by
 obtain⟨⟨hh,h3,h9,h2,hr,hn⟩,hg,ho⟩:=hm;have hk':k<m.aD.Own.length:=by omega
 have ht':t.aT.Sublist m.aD.Own[k].aT:=by grind[dZ]
 have hsub:(iE ⟨m.aD.Global,m.aD.Own.set k t⟩).Sublist (iE m.aD):=(List.Sublist.refl _).append (aL6 hk' ht');refine⟨⟨⟨hh,h3,by grind,fun s hs=>?_,fun x hx=>hr x (hsub.subset hx),hsub.nodup hn⟩,hg,fun j hj=>?_⟩,fun s hs _=>⟨?_,rfl,rfl⟩⟩
 ·grind
 ·unfold X4;simp only[OD hk'];split
  ·rename_i e;subst e;exact fun x hx=>ho j hj x (ht.subset hx)
  ·exact ho j hj
 grind[iN]
theorem mO.aXT{k:Nat}(hk:k<3){t:aW}(ht:t.aT.Sublist (fJ m.aD.Global k)):uG m ⟨m.Heap,⟨m.aD.Global.set k t,m.aD.Own⟩⟩ (-1):=by
 obtain⟨⟨hh,h3,h9,h2,hr,hn⟩,hg,ho⟩:=hm;have hk':k<m.aD.Global.length:=by omega
 have ht':t.aT.Sublist m.aD.Global[k].aT:=by grind[dZ]
 have hsub:(iE ⟨m.aD.Global.set k t,m.aD.Own⟩).Sublist (iE m.aD):=(aL6 hk' ht').append (List.Sublist.refl _);refine⟨⟨⟨hh,by grind,h9,h2,fun x hx=>hr x (hsub.subset hx),hsub.nodup hn⟩,fun j hj=>?_,ho⟩,fun s hs _=>⟨?_,rfl,rfl⟩⟩
 ·unfold aBQ;simp only[OD hk'];split
  ·rename_i e;subst e;exact fun x hx=>hg j hj x (ht.subset hx)
  ·exact hg j hj
 grind[iN]
theorem mO.a6H{k:Nat}(hk:k<9){xs:List Int}(hl:(fJ m.aD.Own k).length+xs.length<=2)(hx:xs.Nodup)(hf:Q5 m.Heap xs ((k % 3:Nat):Int))(hd:∀x∈xs,x∉iE m.aD)(hk':k<m.aD.Own.length) :
  mO ⟨m.Heap,⟨m.aD.Global,m.aD.Own.set k ⟨m.aD.Own[k].aT++xs⟩⟩⟩/\∀s,s∉xs->eM m s=3->eM ⟨m.Heap,⟨m.aD.Global,m.aD.Own.set k ⟨m.aD.Own[k].aT++xs⟩⟩⟩ s=3:=by
 obtain⟨⟨hh,h3,h9,h2,hr,hn⟩,hg,ho⟩:=hm;have hmem:∀s,s∈iE ⟨m.aD.Global,m.aD.Own.set k ⟨m.aD.Own[k].aT++xs⟩⟩↔s∈iE m.aD\/s∈xs:=fun s=>by simp[iE,E5,or_assoc]
 have hcl:∀x∈xs,0<=x/\x<=23:=fun x h=>by have:=(hf x h).1;exact(tK (h:=m.Heap) (s:=x) (by omega)).1
 refine⟨⟨⟨hh,h3,by grind,fun s hs=>?_,fun x hx=>?_,?_⟩,hg,fun j hj=>?_⟩,fun s hs h3=>?_⟩
 ·grind[dZ]
 ·grind
 ·have:=WD (q:=eY m.aD.Global) (r:=[]) hk' (by grind[iE]) hx (by grind[iE]);grind[iE]
 ·unfold X4;simp only[OD hk'];split
  ·rename_i e;subst e;intro x hx;rcases fB.1 hx with q | q
   ·rw[dZ hk'] at q;exact ho j hj x q
   ·exact hf x q
  ·exact ho j hj
 grind[iN]
theorem mO.aI4{k:Nat}(hk:k<3){xs:List Int}(hx:xs.Nodup)(hf:Q5 m.Heap xs (k:Int))(hd:∀x∈xs,x∉iE m.aD)(hk':k<m.aD.Global.length) :
  mO ⟨m.Heap,⟨m.aD.Global.set k ⟨m.aD.Global[k].aT++xs⟩,m.aD.Own⟩⟩/\∀s,s∉xs->eM m s=3->eM ⟨m.Heap,⟨m.aD.Global.set k ⟨m.aD.Global[k].aT++xs⟩,m.aD.Own⟩⟩ s=3:=by
 obtain⟨⟨hh,h3,h9,h2,hr,hn⟩,hg,ho⟩:=hm;have hmem:∀s,s∈iE ⟨m.aD.Global.set k ⟨m.aD.Global[k].aT++xs⟩,m.aD.Own⟩↔s∈iE m.aD\/s∈xs:=fun s=>by simp[iE,E5,or_right_comm]
 have hcl:∀x∈xs,0<=x/\x<=23:=fun x h=>by have:=(hf x h).1;exact(tK (h:=m.Heap) (s:=x) (by omega)).1
 refine⟨⟨⟨hh,by grind,h9,h2,fun x hx=>?_,?_⟩,fun j hj=>?_,ho⟩,fun s hs h3=>?_⟩
 ·grind
 ·have:=WD (q:=[]) (r:=eY m.aD.Own) hk' (by grind[iE]) hx (by grind[iE]);grind[iE]
 ·unfold aBQ;simp only[OD hk'];split
  ·rename_i e;subst e;intro x hx;rcases fB.1 hx with q | q
   ·rw[dZ hk'] at q;exact hg j hj x q
   ·exact hf x q
  ·exact hg j hj
 grind[iN]
theorem mO.PG{x:Int}(hx:x∈iE m.aD):0<=bN m.Heap x/\kU m.Heap x<=6:=by
 obtain⟨⟨hh,h3,h9,h2,hr,hn⟩,hg,ho⟩:=hm;have key:∀(l:List aW),x∈eY l->∃k,k<l.length/\x∈fJ l k:=fun l h=>by grind[XA,aDW,dZ]
 rcases fB.1 hx with q | q
 ·obtain⟨k,hk,h⟩:=key _ q;have:=hg k (by omega) x h;omega
 ·obtain⟨k,hk,h⟩:=key _ q;have:=ho k (by omega) x h;omega
theorem mO.heap{h':Heap}(hh:YP h')(hs:∀x∈iE m.aD,bN h' x=bN m.Heap x/\kU h' x=kU m.Heap x):mO ⟨h',m.aD⟩:=by
 obtain⟨⟨_,hl⟩,hg,ho⟩:=hm;have key:∀(l:List aW) k x,x∈fJ l k->x∈eY l:=fun l k x h=>by grind[fJ,XA]
 refine⟨⟨hh,hl⟩,fun k hk x hx=>?_,fun k hk x hx=>?_⟩
 ·obtain⟨a,b⟩:=hs x (aG1 _ (key _ k x hx));show bN h' x=_/\kU h' x<=6;rw[a,b];exact hg k hk x hx
 ·obtain⟨a,b⟩:=hs x (aG2 _ (key _ k x hx));show bN h' x=_/\kU h' x<=6;rw[a,b];exact ho k hk x hx
theorem mO.bET{s g:Int}(hu:eM m s=3)(hg:1<=g/\g<=7):uG m ⟨⟨st4 m.Heap.Bytes (iY s (bN m.Heap s)).toNat g,m.Heap.Class⟩,m.aD⟩ s/\kU ⟨st4 m.Heap.Bytes (iY s (bN m.Heap s)).toNat g,m.Heap.Class⟩ s=g:=by
 have hu':=iN.1 hu;obtain⟨a,b⟩:=YP.a2B hm.1.1 hu'.1 hg;refine⟨⟨mO.heap hm a fun x hx=>⟨rfl,?_⟩,fun t ht hn=>?_⟩,by grind⟩
 ·rw[b x (mO.PG hm hx).1,if_neg (show ¬x=s from fun e=>hu'.2.1 (e ▸ hx))]
 ·have ht':=iN.1 ht;have e:kU ⟨st4 m.Heap.Bytes (iY s (bN m.Heap s)).toNat g,m.Heap.Class⟩ t=kU m.Heap t:=by grind
  exact⟨iN.2 ⟨ht'.1,ht'.2.1,by grind⟩,e,rfl⟩
theorem mO.bCT{p:Nat}(hp:p<6)(hun:cV m.Heap p<0){c:Int}(hc:0<=c/\c<=2){xs:List Int}(hxs:∀x∈xs,∃i,i<(cM c).toNat/\x=(p:Int)*4+(i:Nat))(hx:xs.Nodup)(hk':c.toNat<m.aD.Global.length) :
  uG m ⟨⟨gB m.Heap.Bytes p c (cM c).toNat,m.Heap.Class.set p c⟩,⟨m.aD.Global.set c.toNat ⟨m.aD.Global[c.toNat].aT++xs⟩,m.aD.Own⟩⟩ (-1):=by
 obtain⟨a,b,d,e⟩:=YP.a2D hm.1.1 hp hun hc;have h1:mO ⟨⟨gB m.Heap.Bytes p c (cM c).toNat,m.Heap.Class.set p c⟩,m.aD⟩:=mO.heap hm a fun x hx=>by grind[mO.PG]
 have hno:∀x∈xs,¬0<=bN m.Heap x:=fun x h q=>by obtain⟨i,hi,rfl⟩:=hxs x h;have h4:=pQ c;exact(d _ q).1 (by omega)
 obtain⟨f,g⟩:=mO.aI4 h1 (k:=c.toNat) (by omega) hx (fun x h=>by
  obtain⟨i,hi,rfl⟩:=hxs x h
  (simp_all;omega)) (fun x h q=>hno x h (mO.PG hm q).1) hk'
 refine⟨f,fun s hs _=>?_⟩;grind[iN]
end
end Go.Gv
end
noncomputable section
namespace Go.Gv
theorem a2E{p n:Nat}{x:Int}(h:x∈gS p n):∃i,i<n/\x=(p:Int)*4+(i:Nat):=by grind[gS]
theorem aQJ(p n:Nat):(gS p n).Nodup:=by grind[gS,List.nodup_range]
theorem aQK{m:Mem}(hm:mO m){c:Int}(hc:0<=c/\c<=2) :
  ∃m' s,ER m c=some (m',s)/\KD m c=some (m',s)/\zF m'/\(0<=s->iD m'.Heap/\0<=bN m'.Heap s)/\uG m m' (-1):=by
 have hl:=hm.1.2;have hcnt:=hl.count;have hs:=hm.1.1.1;have hsl:=hl.aQD (by omega);have hp4:=pQ c;have hpp:0<cM c:=jR.2 hc;have hall:=uE m.aD;have hsG:∀s∈m.aD.Global,s.aT.length<=24:=fun s h=>by have:=IJ h;omega
 have hsO:∀s∈m.aD.Own,s.aT.length<=24:=fun s h=>by have:=IJ h;omega
 have h3:=hl.1;have h9:=hl.2.1;have hcpl:=PD (l:=m.aD) (by omega) (by omega) (fun s h=>by grind) (fun s h=>by grind);unfold ER KD;rcases a2A hm.1.1 hc with ⟨e1,e2⟩ | ⟨p,hp,hun,e1,e2⟩
 ·rw[e1,e2,hcpl];have h1:=hs.1;have h2:=hs.2.1;exact⟨_,_,rfl,rfl,⟨by grind,by grind,by grind,by grind,by grind⟩,fun h=>absurd h (by omega),uG.refl hm _⟩
 ·rw[e1,e2,hcpl];simp only[aK,I2,I1,JC,aDJ];have hn:(((cM c).toNat:Int) == 0)=false:=by grind
  have hk:c.toNat<m.aD.Global.length:=by omega
  have hg0:=hsG _ (dC hk);have hx:idx m.aD.Global c=some m.aD.Global[c.toNat]:=iC hc.1 (by omega);have hz:idx (gS p (cM c).toNat) 0=some ((p:Int)*4):=by grind[aV,gS]
  have hlen:(List.drop (1:Int).toNat (List.take (cM c).toNat (gS p (cM c).toNat))).length<=4:=by grind
  simp only[hn,bT,if_false,hx,aK,hz];rw[aM (by omega),aM (by omega)];have hcl:cV ⟨gB m.Heap.Bytes p c (cM c).toNat,m.Heap.Class.set p c⟩ p=c:=by grind[cV]
  refine⟨_,_,rfl,rfl,⟨by simp only[JJ];have:=hs.1;omega,by simp only[cR];have:=hs.2.1;omega,by grind,by grind,?_⟩,fun _=>⟨⟨by simp only[JJ];exact hs.1,by simp only[cR];exact hs.2.1,aN9 hs.2.2.1 p hc _,fun x hx=>?_⟩,?_⟩,?_⟩
  ·grind[uE,ZS]
  ·rcases uY hx with h | rfl
   ·exact hs.2.2.2 x h
   ·omega
  ·unfold bN
   (simp_all;omega)
  grind[mO.bCT,a2E,aQJ]
theorem aTA(n:Int):∃c,EO n=some c/\KB n=some c/\(c = -1\/(0<=c/\c<=2)):=by
 have s1:∀k,0<=k/\k<=2->fY n k=some (if 1<=n/\n<=jB k then .stop (Out.ret k) else .next (k+1)):=fun k hk=>by simp only[fY];rw[if_pos (by simp;omega),VZ,aK,fQ,aK,aP (by omega) (by omega)];grind
 have s2:∀k,0<=k/\k<=2->kJ n k=some (if 1<=n/\n<=jB k then .stop (Out.ret k) else .next (k+1)):=fun k hk=>by simp only[kJ,AW];rw[if_pos (by simp;omega),V1,aK,aP (by omega) (by omega)];grind
 have st:∀k,0<=k/\k<=2->1<=n/\n<=jB k->loop (fY n) k=some (Out.ret k)/\loop (kJ n) k=some (Out.ret k):=fun k hk h=>
  ⟨bM (by grind),bM (by grind)⟩
 have nx:∀k,0<=k/\k<=2->¬(1<=n/\n<=jB k)->loop (fY n) k=loop (fY n) (k+1)/\loop (kJ n) k=loop (kJ n) (k+1):=fun k hk h=>
  ⟨bU (by grind),bU (by grind)⟩
 unfold EO KB;by_cases q0:1<=n/\n<=jB 0
 ·have:=st 0 (by omega) q0;rw[this.1,this.2];exact⟨_,rfl,rfl,.inr (by omega)⟩
 ·have h0:=nx 0 (by omega) q0;rw[h0.1,h0.2,show(0:Int)+1=1 from rfl];by_cases q1:1<=n/\n<=jB 1
  ·have:=st 1 (by omega) q1;rw[this.1,this.2];exact⟨_,rfl,rfl,.inr (by omega)⟩
  ·have h1:=nx 1 (by omega) q1;rw[h1.1,h1.2,show(1:Int)+1=2 from rfl];by_cases q2:1<=n/\n<=jB 2
   ·have:=st 2 (by omega) q2;rw[this.1,this.2];exact⟨_,rfl,rfl,.inr (by omega)⟩
   ·have h2:=nx 2 (by omega) q2;rw[h2.1,h2.2,show(2:Int)+1=3 from rfl,bM (body:=fY n) (r:=Out.brk ()) (by simp[fY]),bM (body:=kJ n) (r:=Out.brk ()) (by simp[kJ])];exact⟨_,rfl,rfl,.inl rfl⟩
theorem a2F{s:aW}(hl:s.aT.length<=1048576):∃t x,tD s=some (t,x)/\wK s=some (x,t)/\t.aT.length<=s.aT.length/\(0<=x->x∈s.aT)/\t.aT.Sublist s.aT:=by
 unfold tD wK O3;rw[aP (by omega) (by omega)];by_cases q:s.aT.length=0
 ·rw[if_pos (by grind),if_pos (by simp;omega)];grind
 ·have hx:idx s.aT ((s.aT.length:Int) - 1)=some (s.aT[s.aT.length - 1]'(by omega)):=by grind[aV]
  rw[if_neg (by grind),if_neg (by simp;omega),aM (by omega),hx];simp only[aK];grind[aM]
theorem Q7{w c:Int}(hw:0<=w/\w<=2)(hc:0<=c/\c<=2):R0 w c=some (w*3+c)/\LM w c=some (w*3+c):=by grind[aP,R0,O2,fQ,LM,HA,nI,kL]
theorem aI5{l:List aW}{k:Nat}(hk:k<l.length){t:aW}(ht:t.aT.length<=l[k].aT.length):(eY (l.set k t)).length<=(eY l).length:=by grind[GM,CY]
noncomputable section
variable {m:Mem} (hm:mO m)
include hm
theorem mO.facts:(iE m.aD).length<=24/\m.aD.Global.length=3/\m.aD.Own.length=9/\m.Heap.Bytes.length=384/\m.Heap.Class.length=6/\zF m/\i5 m.aD=some m.aD/\lF m.aD=some true /\
  (∀s∈m.aD.Global,s.aT.length<=24)/\(∀s∈m.aD.Own,s.aT.length<=24):=by
 have hl:=hm.1.2;have hcnt:=hl.count;have hall:=uE m.aD;have hsG:∀s∈m.aD.Global,s.aT.length<=24:=fun s h=>by have:=IJ h;omega
 have hsO:∀s∈m.aD.Own,s.aT.length<=24:=fun s h=>by have:=IJ h;omega
 have h3:=hl.1;have h9:=hl.2.1;have h1:=hm.1.1.1.1;have h2:=hm.1.1.1.2.1;refine⟨hcnt,h3,h9,h1,h2,⟨by omega,by omega,by omega,by omega,by omega⟩,PD (by omega) (by omega) (fun s h=>by grind) (fun s h=>by grind),by grind[TY],hsG,hsO⟩
theorem aI6{w c:Int}(hw:0<=w/\w<=2)(hc:0<=c/\c<=2) :
  ∃l t x,idx m.aD.Own (w*3+c)=some l/\tD l=some (t,x)/\KC m.aD w c=some (⟨m.aD.Global,m.aD.Own.set (w*3+c).toNat t⟩,x) /\
   zF ⟨m.Heap,⟨m.aD.Global,m.aD.Own.set (w*3+c).toNat t⟩⟩/\(0<=x->0<=bN m.Heap x)/\uG m ⟨m.Heap,⟨m.aD.Global,m.aD.Own.set (w*3+c).toNat t⟩⟩ (-1):=by
 obtain⟨hcnt,h3,h9,h1,h2,hsm,hcp,hlo,hsG,hsO⟩:=mO.facts hm;have hk:(w*3+c).toNat<m.aD.Own.length:=by omega
 have hx:idx m.aD.Own (w*3+c)=some m.aD.Own[(w*3+c).toNat]:=iC (by omega) (by omega);have h24:=hsO _ (dC hk);obtain⟨t,x,e1,e2,ht,hmem,hsub⟩:=a2F (s:=m.aD.Own[(w*3+c).toNat]) (by omega);have hall:=uE m.aD;refine⟨_,t,x,hx,e1,?_,⟨by grind,by grind,by grind,by grind,?_⟩,fun h0=>?_,mO.bAN hm (by omega) (by grind[dZ])⟩
 ·unfold KC AX;rw[hcp,(Q7 hw hc).2,hlo];grind
 ·grind[aI5,uE]
 ·have:=hm.2.2 (w*3+c).toNat (by omega) x (by grind[dZ]);omega
theorem YS{c:Int}(hc:0<=c/\c<=2) :
  ∃l t x,idx m.aD.Global c=some l/\tD l=some (t,x)/\AY m.aD c=some (⟨m.aD.Global.set c.toNat t,m.aD.Own⟩,x) /\
   zF ⟨m.Heap,⟨m.aD.Global.set c.toNat t,m.aD.Own⟩⟩/\(0<=x->0<=bN m.Heap x)/\uG m ⟨m.Heap,⟨m.aD.Global.set c.toNat t,m.aD.Own⟩⟩ (-1):=by
 obtain⟨hcnt,h3,h9,h1,h2,hsm,hcp,hlo,hsG,hsO⟩:=mO.facts hm;have hk:c.toNat<m.aD.Global.length:=by omega
 have hx:idx m.aD.Global c=some m.aD.Global[c.toNat]:=iC (by omega) (by omega);have h24:=hsG _ (dC hk);obtain⟨t,x,e1,e2,ht,hmem,hsub⟩:=a2F (s:=m.aD.Global[c.toNat]) (by omega);have hall:=uE m.aD;refine⟨_,t,x,hx,e1,?_,⟨by grind,by grind,by grind,by grind,?_⟩,fun h0=>?_,mO.aXT hm (by omega) (by grind[dZ])⟩
 ·simp_all[AY,sN,kL]
 ·grind[aI5,uE]
 ·have:=hm.2.1 c.toNat (by omega) x (by grind[dZ]);omega
theorem aGP{w h:Int}(hw:0<=w/\w<=2)(hv:m5 m h):∃m',ID m w (h % 32)=some m'/\LR m w h=some m'/\zF m'/\uG m m' (h % 32):=by
 obtain⟨hcnt,h3,h9,h1,h2,hsm,hcp,hlo,hsG,hsO⟩:=mO.facts hm;have hs:=hm.1.1.1;have hh:=hv.1;have hhm:=hh.mod;have hcl:=eB hv.2.1;have hgo:=W8 hcl;have hc2:0<=bN m.Heap (h % 32)/\bN m.Heap (h % 32)<=2:=by obtain⟨_,q,e⟩:=tK hcl;rw[e];exact jR.1 (by omega)
 have hg6:1<=h / 32/\h / 32<=6:=by grind[lW]
 have hbl:m.Heap.Bytes.length<=maxLen:=by grind[maxLen]
 have hnot:h % 32∉iE m.aD:=fun q=>by have:=hv.2.1;simp_all[eM,if_neg]
 have hcpH:=SK (h:=m.Heap) (by omega) (by omega);have eo:iY (h % 32) (bN m.Heap (h % 32))=(((iY (h % 32) (bN m.Heap (h % 32))).toNat:Nat):Int):=by omega
 have ew:bE (h / 32+1)=h / 32+1:=aP (by omega) (by omega);have ed:bE (Int.tdiv h 32)=h / 32:=by grind[aP]
 have hall:=uE m.aD;obtain⟨hr1,hr2⟩:=mO.bET hm hv.2.1 (g:=h / 32+1) (by omega);have hu:=iN.1 hv.2.1;unfold ID LR U2 DS;rw[hhm.1,BJ hs,hcpH,ME hbl,cZ hs,kM hs,ed,ew,hcp];simp only[aK,kV,bT,if_false,LQ,D8,LP];rw[uR hs hcl,hv.2.2,dL,gZ (show ¬bN m.Heap (h % 32)<0 by omega),cZ (show 1<=h / 32+1/\h / 32+1<=7 by omega)];simp only[aK,kV,bT,if_false,AG,AH,ew];generalize hgn:(iY (h % 32) (bN m.Heap (h % 32))).toNat=a at eo;rw[hgn] at hr1 hr2;rw[eo,JH (by omega) (by omega) (by omega),YR (by omega)];simp only[aK];rw[WB (by omega) (by omega) (by omega)];simp only[aK,LZ,OW,ed,ew,hhm.1];by_cases q:h / 32+1<=6
 ·have hk:(w*3+bN m.Heap (h % 32)).toNat<m.aD.Own.length:=by omega
  have hx:idx m.aD.Own (w*3+bN m.Heap (h % 32))=some m.aD.Own[(w*3+bN m.Heap (h % 32)).toNat]:=iC (by omega) (by omega);have hk2:(bN m.Heap (h % 32)).toNat<m.aD.Global.length:=by omega
  have hx2:idx m.aD.Global (bN m.Heap (h % 32))=some m.aD.Global[(bN m.Heap (h % 32)).toNat]:=iC (by omega) (by omega);have b1:=hsO _ (dC hk);have b2:=hsG _ (dC hk2);rw[cZ q,if_pos rfl,if_pos rfl];unfold VE aCY xR;rw[kM hs,aK,hcp,(Q7 hw hc2).1,(Q7 hw hc2).2,hlo,xC,cZ (show 0<=h % 32/\h % 32<=23 by omega),V8 (by omega) (by omega) (by omega),gZ hnot];simp only[aK,kV,bT,if_false,hx,hx2];have nz:¬w*3+bN m.Heap (h % 32)<0:=by omega
  simp only[gZ nz,bT,if_false];by_cases q2:m.aD.Own[(w*3+bN m.Heap (h % 32)).toNat].aT.length<2
  ·have y1:(m.aD.Own[(w*3+bN m.Heap (h % 32)).toNat].aT.length:Int)<2:=by omega
   have y2:¬(2:Int)<=m.aD.Own[(w*3+bN m.Heap (h % 32)).toNat].aT.length:=by omega
   simp only[cZ y1,gZ y2,bT,if_false,if_true];rw[aM (by simp;omega),aM (by simp;omega)];refine⟨_,rfl,rfl,⟨by grind[E3],by grind,by grind,by grind,?_⟩,?_⟩
   ·grind[uE,ZS]
   ·have hmod:((w*3+bN m.Heap (h % 32)).toNat % 3:Nat)=(bN m.Heap (h % 32)).toNat:=by omega
    obtain⟨z1,z2⟩:=mO.a6H hr1.1 (k:=(w*3+bN m.Heap (h % 32)).toNat) (by omega) (xs:=[h % 32]) (by grind[dZ]) (by simp) (fun x hx=>by
     simp at hx;subst hx;exact⟨by rw[hmod];show bN m.Heap (h % 32)=_;omega,by grind⟩) (fun x hx=>by grind) hk
    refine⟨z1,fun s h1 h2=>?_⟩;obtain⟨y1,y2,y3⟩:=hr1.2 s h1 h2;grind
  ·have y1:¬(m.aD.Own[(w*3+bN m.Heap (h % 32)).toNat].aT.length:Int)<2:=by omega
   have y2:(2:Int)<=m.aD.Own[(w*3+bN m.Heap (h % 32)).toNat].aT.length:=by omega
   simp only[cZ y2,gZ y1,bT,if_false,if_true];rw[aM (by simp;omega),aM (by simp;omega)];refine⟨_,rfl,rfl,⟨by grind[E3],by grind,by grind,by grind,?_⟩,?_⟩
   ·grind[uE,ZS]
   ·obtain⟨z1,z2⟩:=mO.aI4 hr1.1 (k:=(bN m.Heap (h % 32)).toNat) (by omega) (xs:=[h % 32]) (by simp) (fun x hx=>by
     simp at hx;subst hx;exact⟨by show bN m.Heap (h % 32)=_;omega,by grind⟩) (fun x hx=>by grind) hk2
    refine⟨z1,fun s h1 h2=>?_⟩;obtain⟨y1,y2,y3⟩:=hr1.2 s h1 h2;grind
 ·rw[gZ q,if_neg (by simp),if_neg (by simp)];refine⟨_,rfl,rfl,⟨by grind[E3],by grind,by grind,by grind,by(simp_all;omega)⟩,hr1⟩
end
theorem alloc_eq{b:aC}(hm:mO b.Mem){w:Int}(hw:0<=w/\w<=2)(s:Sub) :
  ∃x y,AA b w s=some (x,y)/\sO s b w=some (y,x)/\∃m',x=⟨m',b.aA,b.aN,b.qH⟩/\zF m'/\uG b.Mem m' (-1):=by
 have hsm:=(mO.facts hm).2.2.2.2.2.1;have hs:=hm.1.1.1;obtain⟨c,ec,ei,hcc⟩:=aTA s.A;unfold AA sO;rw[ec,ei];simp only[aK];by_cases c0:c<0
 ·simp only[cZ c0,if_true,bQ,bG];exact⟨_,_,rfl,rfl,_,rfl,hsm,uG.refl hm _⟩
 have hc:0<=c/\c<=2:=by omega
 simp only[gZ c0,bT,if_false];have fin:∀(m':Mem) (x:Int),zF m'->uG b.Mem m' (-1)->(0<=x->iD m'.Heap/\0<=bN m'.Heap x) ->
   ∃X Y,jP s x ⟨m',b.aA,b.aN,b.qH⟩=some (X,Y)/\iZ s x ⟨m',b.aA,b.aN,b.qH⟩=some (Y,X)/\∃m',X=⟨m',b.aA,b.aN,b.qH⟩/\zF m'/\uG b.Mem m' (-1):=by
  intro m' x hs' hst hx;unfold jP iZ;simp only[yA,R5,bQ,bG];by_cases x0:0<=x
  ·obtain⟨h,e1,e2⟩:=aXS (m:=m') (hx x0).1 (hx x0).2;rw[gZ (show ¬x<0 by omega),cZ x0];simp only[bT,if_false,if_true,e1,e2,aK];grind
  ·rw[cZ (show x<0 by omega),gZ x0];by_cases p3:s.Pc=3
   ·simp only[p3,beq_self_eq_true,if_true,bT,if_false,aK];grind
   ·have p3':(s.Pc == 3)=false:=by grind
    simp only[p3',if_true,bT,if_false,aK];grind
 by_cases p0:s.Pc=0
 ·obtain⟨l,t,x,e1,e2,e3,h1,h2,h3⟩:=aI6 hm hw hc;simp_all[Q7]
 ·have p0':(s.Pc == 0)=false:=by grind
  simp only[p0',bT,if_false,yC,oG];obtain⟨l,t,x,e1,e2,e3,h1,h2,h3⟩:=YS hm hc;by_cases p1:s.Pc=1
  ·simp_all
  ·have p1':(s.Pc == 1)=false:=by grind
   simp only[p1',bT,if_false];by_cases p3:s.Pc=3
   ·simp_all
   ·have p3':(s.Pc == 3)=false:=by grind
    simp only[p3',bT,if_false];by_cases p2:s.Pc=2
    ·obtain⟨m',x,e1,e2,h1,h2,h3⟩:=aQK hm hc;simp_all
    ·have p2':(s.Pc == 2)=false:=by grind
     simp only[p2',bT,if_false,bQ,bG];exact⟨_,_,rfl,rfl,_,rfl,hsm,uG.refl hm _⟩
end Go.Gv
end
noncomputable section
namespace Go.Gv
theorem aVT(r:eE)(e:Int):∃v,K2 r e=some v/\QQ r e=some v:=by
 unfold K2 QQ KP KE;by_cases h:2<=e
 ·simp only[cZ h,if_true];exact⟨_,rfl,rfl⟩
 ·simp only[gZ h,bT,if_false];exact⟨_,rfl,rfl⟩
theorem a6I{b:aC}{w:Int}{l:bI}(hx:idx b.aN w=some l)(hl:l.Rows.length<=1000)(s:Sub) :
  (yD l.Rows s.Row s.E=some (-1)/\pI s b w=(bG s 0).bind fun x=>some (x,b)) \/
  ∃k,∃h:k<l.Rows.length,yD l.Rows s.Row s.E=some (k:Int)/\pI s b w=some (⟨s.Kind,s.A,2,s.E,(k:Int),0,l.Rows[k].Handle,s.Out,s.Code,s.cJ⟩,b):=by
 have key:∀d k,k+d=l.Rows.length ->
   (loop (fE l.Rows s.E) (k:Int)=some (Out.brk ())/\loop (fH s b w) (k:Int)=some (Out.brk ())) \/
   ∃j,∃h:j<l.Rows.length,loop (fE l.Rows s.E) (k:Int)=some (Out.ret (j:Int))/\loop (fH s b w) (k:Int)=some (Out.ret (⟨s.Kind,s.A,2,s.E,(j:Int),0,l.Rows[j].Handle,s.Out,s.Code,s.cJ⟩,b)):=by
  intro d;induction d with
  | zero =>
   simp_all[bM,fE,fH]
  | succ d ih =>
   intro k hk;have hk':k<l.Rows.length:=by omega
   obtain⟨v,e1,e2⟩:=aVT l.Rows[k] s.E;cases v with
   | true =>
    right;refine⟨k,hk',bM ?_,bM ?_⟩
    ·simp only[fE];rw[if_pos (by simp;omega),aV hk',aK,e1];rfl
    ·simp only[fH,hx,aK];rw[if_pos (by simp;omega),aV hk',aK,e2];rfl
   | false =>
    have n1:fE l.Rows s.E (k:Int)=some (.next ((k+1:Nat):Int)):=by simp only[fE];rw[if_pos (by simp;omega),aV hk',aK,e1,aK,aP (by omega) (by omega)];rfl
    have n2:fH s b w (k:Int)=some (.next ((k+1:Nat):Int)):=by simp only[fH,hx,aK];rw[if_pos (by simp;omega),aV hk',aK,e2,aK,aP (by omega) (by omega)];rfl
    rw[bU n1,bU n2];exact ih (k+1) (by omega)
 unfold yD pI;have hst:∃i:Nat,(if 0<s.Row then s.Row else 0)=(i:Int)/\(if s.Row<0 then 0 else s.Row)=(i:Int):=by refine⟨s.Row.toNat,?_,?_⟩<;>split<;>omega
 obtain⟨i,i1,i2⟩:=hst;rw[i1,i2];by_cases hi:i<=l.Rows.length
 ·rcases key (l.Rows.length - i) i (by omega) with ⟨a,c⟩ | ⟨j,hj,a,c⟩
  ·left;rw[a,c];exact⟨rfl,rfl⟩
  ·right;rw[a,c];exact⟨j,hj,rfl,rfl⟩
 ·left;rw[bM (body:=fE l.Rows s.E) (r:=Out.brk ()) (by simp only[fE];grind),
   bM (body:=fH s b w) (r:=Out.brk ()) (by simp only[fH,hx,aK];grind)]
  exact⟨rfl,rfl⟩
theorem del_eq{α:Type}{l:List α}{k:Nat}(h:k<l.length):((cT l k (l.drop (k+1))).take (k+(l.length - (k+1)))).drop 0=l.eraseIdx k:=by grind[cT,aDZ]
theorem aI7{α:Type}{l:List α}{k:Nat}(h:k<l.length):l.Perm (l[k] :: l.eraseIdx k):=by grind[zK,aDY,List.eraseIdx_eq_take_drop_succ,List.perm_middle]
theorem yP.drop{b:List bI}(hL:yP b){w:Nat}(hw:w<b.length):∀k (hk:k<b[w].Rows.length),yP (b.set w ⟨b[w].Rows.eraseIdx k⟩)/\∀r∈dQ (b.set w ⟨b[w].Rows.eraseIdx k⟩),r∈dQ b/\r.Handle % 32≠b[w].Rows[k].Handle % 32:=by
 intro k hk;have hsub:(dQ (b.set w ⟨b[w].Rows.eraseIdx k⟩)).Sublist (dQ b):=by grind[K4,IK]
 have hnd:=hL.2.2.2;refine⟨⟨by simpa using hL.1,tN hsub.length_le hL.2.1,fun r hr=>hL.2.2.1 r (hsub.subset hr),(hsub.map FT).nodup hnd⟩,fun r hr=>⟨hsub.subset hr,?_⟩⟩;have hp:(dQ b).Perm (b[w].Rows[k] :: dQ (b.set w ⟨b[w].Rows.eraseIdx k⟩)):=by rw[K4 hw,IK hw];refine List.Perm.trans (List.Perm.append_left _ (List.Perm.append_right _ (aI7 hk))) ?_;simp
 grind[FT]
theorem aTB{b:aC}(hb:nC b){w:Int}(hw:0<=w/\w<=2)(s:Sub) :
  ∃x y,uB b w s=some (x,y)/\pJ s b w=some (y,x)/\∃m' L,x=⟨m',b.aA,L,b.qH⟩/\zF m'/\mO m'/\yP L/\∀r∈dQ L,m5 m' r.Handle/\r.aG<=b.aA.aG:=by
 have hm:=hb.1.1;have hL:=hb.1.2.2.1;have hZ:=hb.1.2.2.2;have hsm:=(mO.facts hm).2.2.2.2.2.1;have hlen:w.toNat<b.aN.length:=by have:=hL.1;omega
 have hx:idx b.aN w=some b.aN[w.toNat]:=iC hw.1 (by omega);have hrow:=hL.small.2.2.2 _ (dC hlen);have hmemL:b.aN[w.toNat]∈b.aN:=dC hlen;have hset:=yP.drop hL hlen;generalize b.aN[w.toNat]=l at hx hrow hset hmemL;have done:∀y:Sub,∃x z,(some (b,y):Option (aC×Sub))=some (x,z)/\(some (y,b):Option (Sub×aC))=some (z,x)/\∃m' L,x=⟨m',b.aA,L,b.qH⟩/\zF m'/\mO m'/\yP L/\∀r∈dQ L,m5 m' r.Handle/\r.aG<=b.aA.aG:=
  fun y=>⟨_,_,rfl,rfl,b.Mem,b.aN,rfl,hsm,hm,hL,hb.2⟩
 have hw1:bE ((l.Rows.length:Int) - 1)=(l.Rows.length:Int) - 1:=aP (by omega) (by omega);have hhas:H5 b.aN w s.Row=some (decide (0<=s.Row/\s.Row<=(l.Rows.length:Int) - 1)):=by simp_all[H5,D9,nI,dL]
 unfold uB pJ;rw[hhas,hx];simp only[aK,bQ,fQ,hw1];have hat:∃a:Bool,(if decide (0<=s.Row/\s.Row<=(l.Rows.length:Int) - 1)=true then(idx l.Rows s.Row).bind fun x15=>gE s b w (x15.Handle == s.H) else gE s b w false)=gE s b w a /\
   (if(!decide (0<=s.Row/\s.Row<=(l.Rows.length:Int) - 1))=true then fN b s true else(idx l.Rows s.Row).bind fun x11=>fN b s (x11.Handle != s.H))=fN b s (!a) /\
   (a=true->∃r,r∈l.Rows/\idx l.Rows s.Row=some r/\r.Handle=s.H/\0<=s.Row/\s.Row<l.Rows.length) /\
   (a=false->∀f:eE->Option (aC×Sub),(if(!decide (0<=s.Row/\s.Row<=(l.Rows.length:Int) - 1))=true then fO b w s l true else(idx l.Rows s.Row).bind fun x=>if(x.Handle != s.H)=true then fO b w s l true else f x)=fO b w s l true):=by
  by_cases q:0<=s.Row/\s.Row<=(l.Rows.length:Int) - 1
  ·have hr:idx l.Rows s.Row=some (l.Rows[s.Row.toNat]'(by omega)):=iC q.1 (by omega);by_cases q2:(l.Rows[s.Row.toNat]'(by omega)).Handle=s.H
   ·refine⟨true,?_,?_,fun _=>⟨_,dC _,hr,q2,q.1,by omega⟩,fun h=>by cases h⟩
    ·rw[cZ q,if_pos rfl,hr,aK,q2,beq_self_eq_true]
    ·rw[cZ q,if_neg (by simp),hr,aK,q2,bne_self_eq_false];rfl
   ·have n1:((l.Rows[s.Row.toNat]'(by omega)).Handle == s.H)=false:=by simpa using q2
    have n2:((l.Rows[s.Row.toNat]'(by omega)).Handle != s.H)=true:=by simpa using q2
    refine⟨false,?_,?_,(fun h=>by cases h),fun _ f=>?_⟩
    ·rw[cZ q,if_pos rfl,hr,aK,n1]
    ·rw[cZ q,if_neg (by simp),hr,aK,n2];rfl
    ·rw[cZ q,if_neg (by simp),hr,aK,n2,if_pos rfl]
  simp_all[gZ]
 obtain⟨a,ha1,ha2,ha3,ha4⟩:=hat;rw[ha1,ha2];unfold gE;by_cases p0:s.Pc=0
 ·simp_all
 have p0':(s.Pc == 0)=false:=by grind
 simp only[p0',bT,if_false];by_cases p1:s.Pc=1
 ·simp only[p1,beq_self_eq_true,if_true];rcases a6I hx (by omega) s with ⟨e1,e2⟩ | ⟨k,hk,e1,e2⟩
  ·simp_all[bG]
  simp_all[if_neg,aV]
 have p1':(s.Pc == 1)=false:=by grind
 simp only[p1',bT,if_false];by_cases p2:s.Pc=2
 ·simp only[p2,beq_self_eq_true,if_true,nI,aK];by_cases hB:0<=s.B/\s.B<=2
  ·rw[cZ hB];simp only[kV,bT,if_false,if_true];cases a with
   | true =>
    have hz:idx b.qH s.B=some (b.qH[s.B.toNat]'(by have:=hZ.1;omega)):=iC hB.1 (by have:=hZ.1;omega);simp only[fN,eU,kV,bT,if_false,if_true,hz,aK,tH];by_cases q:(b.qH[s.B.toNat]'(by grind))=s.H
    ·simp_all
    ·have q':((b.qH[s.B.toNat]'(by grind)) == s.H)=false:=by grind
     simp only[q',bT,if_false];by_cases q3:bE (s.B+1)=3
     ·simp_all
     simp_all
   | false =>
    simp_all[fN,eU,dN,bQ,bG]
  simp_all[gZ,fN,eU,dN,bQ,bG]
 have p2':(s.Pc == 2)=false:=by grind
 simp only[p2',bT,if_false,eU];by_cases p3:s.Pc=3
 ·simp only[p3,beq_self_eq_true,if_true];cases a with
  | false =>
   rw[ha4 rfl];simp_all[fO,dN,bQ,bG]
  | true =>
   obtain⟨r,hrm,hr,hrH,r0,r1⟩:=ha3 rfl;obtain⟨v,e1,e2⟩:=aVT r s.E;rw[cZ (show 0<=s.Row/\s.Row<=(l.Rows.length:Int) - 1 by omega)];simp only[kV,bT,if_false,if_true,hr,aK,hrH,bne_self_eq_false,hx,e1,e2];cases v with
   | false =>
    simp_all[fO,dN,bQ,bG]
   | true =>
    have hlive:m5 b.Mem s.H:=by have:r∈dQ b.aN:=aDV.2 ⟨l,hmemL,hrm⟩;have:=(hb.2 r this).1;grind
    obtain⟨m',f1,f2,f3,f4⟩:=aGP hm hw hlive;have ew:bE (s.Row+1)=s.Row+1:=aP (by omega) (by omega);have hdrop:KF b.aN w s.Row=some (b.aN.set w.toNat ⟨((cT l.Rows s.Row.toNat (l.Rows.drop (s.Row+1).toNat)).take (s.Row.toNat+(l.Rows.length - (s.Row+1).toNat))).drop 0⟩,true):=by
     unfold KF AZ;rw[PE hL.small.2.2.1 (fun s h=>by have:=hL.small.2.2.2 s h;omega),BK hL.small.1,cZ hL,hhas,cZ (show 0<=s.Row/\s.Row<=(l.Rows.length:Int) - 1 by omega)];simp only[aK,kV,bT,if_false,hx,ew];unfold BX;rw[aM (by omega),if_neg (by simp;omega),aM (by omega),aM (by omega),aM (by omega),aM]
     ·rfl
     grind[fP]
    simp only[fO,dN,CC,ew,kV,bT,if_false,if_true];rw[aM (by omega),aM (by omega),aM (by omega),jI,if_pos hlive.1,aK,f1,f2,hdrop];have hk:s.Row.toNat<l.Rows.length:=by omega
    have eL:((cT l.Rows s.Row.toNat (l.Rows.drop (s.Row+1).toNat)).take (s.Row.toNat+(l.Rows.length - (s.Row+1).toNat))).drop 0=l.Rows.eraseIdx s.Row.toNat:=by rw[show(s.Row+1).toNat=s.Row.toNat+1 by omega];exact del_eq hk
    have er:l.Rows[s.Row.toNat]=r:=by grind[aV]
    rw[eL] at hdrop ⊢;obtain⟨g1,g2⟩:=hset s.Row.toNat hk;refine⟨_,_,rfl,rfl,m',_,rfl,f3,f4.1,g1,fun q hq=>?_⟩;obtain⟨g3,g4⟩:=g2 q hq;obtain⟨g5,g6⟩:=hb.2 q g3;refine⟨f4.live g5 fun e=>?_,g6⟩;grind
 simp_all[dN,bG]
end Go.Gv
end
noncomputable section
namespace Go.Gv
theorem MH.fits{b:aC}(h:MH b):b.Mem.Heap.Bytes.length<=maxLen/\(iE b.Mem.aD).length<=1073741824/\b.aA.cH.length<=maxLen/\b.aN.length<=maxLen/\(dQ b.aN).length<=1073741824/\b.qH.length<=maxLen:=by
 have hb:(1048576:Nat)<=maxLen:=by simp[maxLen]
 have g1:=h.1.1;have g2:=h.1.2.2.2.2;have g3:=h.2.1;have g4:=h.2.2.1;have g5:=h.2.2.2.1;have g6:=h.2.2.2.2;omega
theorem step_eq{b:aC}(hb:nC b)(hs:MH b){w:Int}(hw:0<=w/\w<=2)(s:Sub) :
  ∃x y,R6 b w s=some (x,y)/\qA s b w=some (y,x)/\nC x:=by
 have hz:=hb.1.2.2.2.1;have hl:=hb.1.2.2.1;unfold R6 qA;cases hd:s.cJ with
 | true=>grind
 | false =>
  simp only[bT,if_false];by_cases k1:s.Kind=1
  ·obtain⟨x,y,e1,e2,m,rfl,h1,h2⟩:=alloc_eq hb.1.1 hw s;simp only[k1,beq_self_eq_true,if_true,e1,e2,aK];exact⟨_,_,rfl,rfl,⟨h2.1,hb.1.2⟩,fun r hr=>⟨h2.live (hb.2 r hr).1 (by omega),(hb.2 r hr).2⟩⟩
  have k1':(s.Kind == 1)=false:=by grind
  simp only[k1',bT,if_false];by_cases k2:s.Kind=2
  ·obtain⟨x,y,e1,e2,L,rfl,h1,h2⟩:=aXO hb hs hw s;simp only[k2,beq_self_eq_true,if_true,e1,e2,aK];exact⟨_,_,rfl,rfl,⟨hb.1.1,hb.1.2.1,h1,hb.1.2.2.2⟩,h2⟩
  have k2':(s.Kind == 2)=false:=by grind
  simp only[k2',bT,if_false];by_cases k3:s.Kind=3
  ·obtain⟨x,y,e1,e2,c,rfl,h1,h2⟩:=aS5 hb.1.2.1 s;simp only[k3,beq_self_eq_true,if_true,e1,e2,aK];exact⟨_,_,rfl,rfl,⟨hb.1.1,h1,hb.1.2.2⟩,fun r hr=>⟨(hb.2 r hr).1,aJ6 (hb.2 r hr).2 h2⟩⟩
  have k3':(s.Kind == 3)=false:=by grind
  simp only[k3',bT,if_false];by_cases k4:s.Kind=4
  ·obtain⟨x,y,e1,e2,m,L,rfl,h1,h2,h3,h4⟩:=aTB hb hw s;simp only[k4,beq_self_eq_true,if_true,e1,e2,aK];exact⟨_,_,rfl,rfl,⟨h2,hb.1.2.1,h3,hb.1.2.2.2⟩,h4⟩
  have k4':(s.Kind == 4)=false:=by grind
  simp only[k4',bT,if_false];by_cases k5:s.Kind=5
  ·obtain⟨x,y,e1,e2,c,rfl,h1,h2⟩:=bAM hb.1.2.1 hw s;simp only[k5,beq_self_eq_true,if_true,e1,e2,aK];exact⟨_,_,rfl,rfl,⟨hb.1.1,h1,hb.1.2.2⟩,fun r hr=>⟨(hb.2 r hr).1,aJ6 (hb.2 r hr).2 h2⟩⟩
  have k5':(s.Kind == 5)=false:=by grind
  simp only[k5',bT,if_false,bQ,bG,aK];grind
theorem nC.small{b:aC}(hb:nC b):MH b:=by have h1:=hb.1.2.1.2.1;have h2:=hb.1.2.2.1.1;have h3:=hb.1.2.2.1.2.1;have h4:=hb.1.2.2.2.1;exact⟨(mO.facts hb.1.1).2.2.2.2.2.1,by omega,by omega,by omega,by omega⟩
end Go.Gv
end
noncomputable section
namespace Go.Gv
def xD(s:Sub)(code:Int):Sub:={s with Code:=code,cJ:=true}
def JK(n:Int):Int:=if 1<=n/\n<=8 then 0 else if 1<=n/\n<=16 then 1 else if 1<=n/\n<=40 then 2 else -1
theorem aTC(n:Int):-1<=JK n/\JK n<=2:=by grind[JK]
theorem aXU(n:Int):EO n=some (JK n):=by
 have s1:∀k,0<=k/\k<=2->fY n k=some (if 1<=n/\n<=jB k then .stop (Out.ret k) else .next (k+1)):=fun k hk=>by simp only[fY];rw[if_pos (by simp;omega),VZ,aK,fQ,aK,aP (by omega) (by omega)];grind
 have z0:jB 0=8:=rfl;have z1:jB 1=16:=rfl;have z2:jB 2=40:=rfl;unfold EO JK;by_cases q0:1<=n/\n<=8
 ·rw[bM (by rw[s1 0 (by omega),if_pos (by omega)]),if_pos q0];rfl
 ·rw[bU (by rw[s1 0 (by omega),if_neg (by omega)]),if_neg q0,show(0:Int)+1=1 from rfl];by_cases q1:1<=n/\n<=16
  ·rw[bM (by rw[s1 1 (by omega),if_pos (by omega)]),if_pos q1];rfl
  ·rw[bU (by rw[s1 1 (by omega),if_neg (by omega)]),if_neg q1,show(1:Int)+1=2 from rfl];by_cases q2:1<=n/\n<=40
   ·rw[bM (by rw[s1 2 (by omega),if_pos (by omega)]),if_pos q2];rfl
   ·rw[bU (by rw[s1 2 (by omega),if_neg (by omega)]),if_neg q2,show(2:Int)+1=3 from rfl,bM (body:=fY n) (r:=Out.brk ()) (by simp[fY])];rfl
def MJ(l:List Int):List Int×Int:=(l.dropLast,l.getLastD (-1))
theorem aGQ{s:aW}(h:s.aT.length<=1048576):tD s=some (⟨(MJ s.aT).1⟩,(MJ s.aT).2):=by
 unfold tD O3 MJ;obtain⟨l⟩:=s;rcases Z2 l with rfl | ⟨L,b,rfl⟩
 ·rfl
 ·simp only[aGY] at h ⊢;have hl:(L ++ [b]).length=L.length+1:=by simp
  rw[hl,aP (by omega) (by omega),show((L.length+1:Nat):Int) - 1=(L.length:Int) by omega,if_neg (by simp;omega),aM (by omega),aV (by omega)];simp
def E6(m:Mem)(w c:Int):Mem×Int:=(⟨m.Heap,⟨m.aD.Global,m.aD.Own.set (w*3+c).toNat ⟨(MJ (fJ m.aD.Own (w*3+c).toNat)).1⟩⟩⟩,(MJ (fJ m.aD.Own (w*3+c).toNat)).2)
def yF(m:Mem)(c:Int):Mem×Int:=(⟨m.Heap,⟨m.aD.Global.set c.toNat ⟨(MJ (fJ m.aD.Global c.toNat)).1⟩,m.aD.Own⟩⟩,(MJ (fJ m.aD.Global c.toNat)).2)
def Z0(h:Heap):Nat:=h.Class.findIdx (fun x=>decide (x = -1))
def xE(m:Mem)(c:Int):Mem×Int:=if Z0 m.Heap=6 then(m,-1) else
 (⟨⟨gB m.Heap.Bytes (Z0 m.Heap) c (cM c).toNat,m.Heap.Class.set (Z0 m.Heap) c⟩,⟨m.aD.Global.set c.toNat ⟨fJ m.aD.Global c.toNat++(gS (Z0 m.Heap) (cM c).toNat).drop 1⟩,m.aD.Own⟩⟩,(Z0 m.Heap:Int)*4)
theorem a2G{h:Heap}(hs:iD h):Z0 h<=6:=by rw[<-hs.2.1];exact List.findIdx_le_length
theorem aTD{h:Heap}(hs:iD h)(hq:Z0 h≠6):Z0 h<6/\cV h (Z0 h) = -1:=by
 have h6:=hs.2.1;have hlt:Z0 h<6:=by grind[a2G]
 refine⟨hlt,?_⟩;rw[<-W7 hs hlt];have:=List.findIdx_getElem (xs:=h.Class) (p:=fun x=>decide (x = -1)) (w:=by grind[Z0]);exact of_decide_eq_true this
theorem a6J{h:Heap}(hs:iD h):∀j (hj:j<6),j<Z0 h->cV h j≠-1:=fun j hj hlt=>by have:=List.not_of_lt_findIdx hlt;grind[W7]
theorem bAO{h:Heap}(hh:YP h){c:Int}(hc:0<=c/\c<=2):tE h c=some (if Z0 h=6 then(h,[]) else(⟨gB h.Bytes (Z0 h) c (cM c).toNat,h.Class.set (Z0 h) c⟩,gS (Z0 h) (cM c).toNat)):=by
 have hs:=hh.1;have h6:=hs.2.1;have h384:=hs.1;have hle:=a2G hs;have s1:∀k (hk:k<Z0 h),fC h c (k:Int)=some (.next ((k+1:Nat):Int)):=fun k hk=>by
  have n:(h.Class[k] != -1)=true:=by grind[a6J,W7]
  simp only[fC,JA];rw[if_pos (by simp;omega),aV (by omega),aK,n,if_pos rfl,aP (by omega) (by omega)];rfl
 unfold tE;by_cases hq:Z0 h=6
 ·have a1:loop (fC h c) 0=some (Out.brk ()):=iH (Z0 h) (fun k=>(k:Int)) _ s1 (by simp_all[fC]);rw[a1,if_pos hq];rfl
 ·obtain⟨hlt,he⟩:=aTD hs hq;rw[<-W7 hs hlt] at he;generalize hqq:Z0 h=q at *;have a1:loop (fC h c) 0=some (Out.ret (⟨gB h.Bytes q c (cM c).toNat,h.Class.set q c⟩,gS q (cM c).toNat)):=iH q (fun k=>(k:Int)) _ s1 (by
   have e0:bE ((q:Int)*64)=((q*64:Nat):Int):=by grind[aP]
   have e1:bE (((q*64:Nat):Int)+1)=((q*64+1:Nat):Int):=by grind[aP]
   have e2:bE (((q*64:Nat):Int)+2)=((q*64+2:Nat):Int):=by grind[aP]
   have n:(h.Class[q] != -1)=false:=by grind
   simp only[fC,e0,e1,e2,K7];rw[if_pos (by simp;omega),aV (by omega),aK,n,if_neg (by simp),aV (by omega),aK,aV (by simp;omega),aK,o5,aK,aV (by simp;omega),aK];have:=aI2 h384 hlt hc;simp only[gB] at this;rw[this];rfl)
  rw[a1,if_neg hq];rfl
theorem aXV{m:Mem}(hm:mO m){c:Int}(hc:0<=c/\c<=2):ER m c=some (xE m c):=by
 have h3:=hm.1.2.1;have hpp:0<cM c:=jR.2 hc;have hp4:=pQ c;obtain⟨_,_,_,_,_,_,_,_,hsG,_⟩:=mO.facts hm;unfold ER xE;rw[bAO hm.1.1 hc];by_cases hq:Z0 m.Heap=6
 ·simp_all
 ·have hk:c.toNat<m.aD.Global.length:=by omega
  have hg0:=hsG _ (dC hk);have hx:idx m.aD.Global c=some m.aD.Global[c.toNat]:=iC hc.1 (by omega);have hz:idx (gS (Z0 m.Heap) (cM c).toNat) 0=some ((Z0 m.Heap:Int)*4):=by grind[aV,gS]
  have hn:(((cM c).toNat:Int) == 0)=false:=by grind
  have ht:(gS (Z0 m.Heap) (cM c).toNat).take (cM c).toNat=gS (Z0 m.Heap) (cM c).toNat:=aDZ (by grind[aDJ]);have hd:((gS (Z0 m.Heap) (cM c).toNat).drop 1).length<=4:=by grind
  simp only[if_neg hq,aK,aDJ,hn,bT,if_false,hx,hz,JC,ht];grind[aM,dZ]
def aTE(m:Mem)(s:Int):Int:=if 1<=kU m.Heap s/\kU m.Heap s<=6 then kU m.Heap s*32+s else 0
theorem a6K{m:Mem}(hs:iD m.Heap){s:Int}(hc:0<=bN m.Heap s):z8 m s=some (aTE m s):=by
 unfold z8 O4 xY aTE;rw[uR hs hc,aK,fQ,fQ];have h1:=(tK hc).1;simp only[cZ h1,aK,kV,bT,if_false];by_cases q:1<=kU m.Heap s/\kU m.Heap s<=6
 ·simp only[cZ q,kV,bT,if_false,if_pos q];grind[aP]
 grind
def MK(b:aC)(s:Sub)(p:Mem×Int):aC×Sub:=
 if 0<=p.2 then({b with Mem:=p.1},xD {s with Out:=aTE p.1 p.2} 0) else if s.Pc=3 then({b with Mem:=p.1},xD s 3) else({b with Mem:=p.1},{s with Pc:=s.Pc+1})
def WE(b:aC)(w:Int)(s:Sub):aC×Sub:=
 if JK s.A<0 then(b,xD s 2)
 else if s.Pc=0 then MK b s (E6 b.Mem w (JK s.A))
 else if s.Pc=1\/s.Pc=3 then MK b s (yF b.Mem (JK s.A))
 else if s.Pc=2 then MK b s (xE b.Mem (JK s.A))
 else(b,xD s 1)
theorem aXW{b:aC}(hm:mO b.Mem){w:Int}(hw:0<=w/\w<=2)(s:Sub):AA b w s=some (WE b w s):=by
 obtain⟨hcnt,h3,h9,h1,h2,hsm,hcp,hlo,hsG,hsO⟩:=mO.facts hm;have hs:=hm.1.1.1;have hr:=aTC s.A;unfold AA WE;rw[aXU];simp only[aK];by_cases c0:JK s.A<0
 ·simp only[cZ c0,if_true,bQ,if_pos c0];rfl
 generalize JK s.A=c at *;have hc:0<=c/\c<=2:=by omega
 simp only[gZ c0,bT,if_false,if_neg c0];have fin:∀(p:Mem×Int),-1<=p.2->(0<=p.2->iD p.1.Heap/\0<=bN p.1.Heap p.2)->s.Pc<=3/\0<=s.Pc->jP s p.2 ⟨p.1,b.aA,b.aN,b.qH⟩=some (MK b s p):=by
  intro p hp hx hpc;unfold jP MK;simp only[yA,R5,bQ];by_cases x0:0<=p.2
  ·rw[gZ (show ¬p.2<0 by omega),cZ x0];simp only[bT,if_false,if_true,if_pos x0,a6K (hx x0).1 (hx x0).2,aK];rfl
  ·rw[cZ (show p.2<0 by omega),gZ x0];by_cases p3:s.Pc=3
   ·have p3':(s.Pc == 3)=true:=by grind
    simp only[p3',if_true,if_neg x0,if_pos p3,aK];rfl
   ·have p3':(s.Pc == 3)=false:=by grind
    have e:bE (s.Pc+1)=s.Pc+1:=aP (by omega) (by omega);grind
 have popL:∀l:List Int,-1<=(MJ l).2\/(MJ l).2∈l:=fun l=>by unfold MJ;grind
 by_cases p0:s.Pc=0
 ·have hk:(w*3+c).toNat<b.Mem.aD.Own.length:=by omega
  have hx:idx b.Mem.aD.Own (w*3+c)=some b.Mem.aD.Own[(w*3+c).toNat]:=iC (by omega) (by omega);obtain⟨l,t,x,e1,e2,e3,g1,g2,g3⟩:=aI6 hm hw hc;have hl:=hsO _ (dC hk);rw[hx] at e1;cases e1;rw[aGQ (by omega)] at e2;have ep:E6 b.Mem w c=(⟨b.Mem.Heap,⟨b.Mem.aD.Global,b.Mem.aD.Own.set (w*3+c).toNat t⟩⟩,x):=by grind[E6,dZ]
  have hx0:-1<=x:=by
   injection e2 with e2;injection e2 with e4 e5
   rcases popL b.Mem.aD.Own[(w*3+c).toNat].aT with h | h
   ·omega
   ·rw[<-e5];have:=hm.1.2.2.2.2.1 _ (aG2 _ (aDV.2 ⟨_,dC hk,h⟩));omega
  have p0':(s.Pc == 0)=true:=by grind
  have:=fin (E6 b.Mem w c) (by grind) (by grind) (by omega);rw[ep] at this;simp only[p0',if_true,if_pos p0,(Q7 hw hc).1,aK,hx];grind[aGQ]
 ·have p0':(s.Pc == 0)=false:=by grind
  simp only[p0',bT,if_false,yC,if_neg p0];have hk:c.toNat<b.Mem.aD.Global.length:=by omega
  have hx:idx b.Mem.aD.Global c=some b.Mem.aD.Global[c.toNat]:=iC (by omega) (by omega);obtain⟨l,t,x,e1,e2,e3,g1,g2,g3⟩:=YS hm hc;have hl:=hsG _ (dC hk);rw[hx] at e1;cases e1;rw[aGQ (by omega)] at e2;have ep:yF b.Mem c=(⟨b.Mem.Heap,⟨b.Mem.aD.Global.set c.toNat t,b.Mem.aD.Own⟩⟩,x):=by grind[yF,dZ]
  have hx0:-1<=x:=by
   injection e2 with e2;injection e2 with e4 e5
   rcases popL b.Mem.aD.Global[c.toNat].aT with h | h
   ·omega
   ·rw[<-e5];have:=hm.1.2.2.2.2.1 _ (aG1 _ (aDV.2 ⟨_,dC hk,h⟩));omega
  have tg:0<=s.Pc/\s.Pc<=3->(idx b.Mem.aD.Global c).bind (fun x13=>(tD x13).bind fun x14=>jP s x14.2 ({b with Mem:=(⟨b.Mem.Heap,(⟨b.Mem.aD.Global.set c.toNat x14.1,b.Mem.aD.Own⟩:aD)⟩:Mem)}:aC))=some (MK b s (yF b.Mem c)):=fun hpc=>by grind[aGQ]
  by_cases p1:s.Pc=1
  ·grind
  ·have p1':(s.Pc == 1)=false:=by grind
   simp only[p1',bT,if_false];by_cases p3:s.Pc=3
   ·grind
   ·have p3':(s.Pc == 3)=false:=by grind
    have n13:¬(s.Pc=1\/s.Pc=3):=by omega
    simp only[p3',bT,if_false,if_neg n13];by_cases p2:s.Pc=2
    ·obtain⟨m',y,f1,f2,k1,k2,k3⟩:=aQK hm hc;have hg:=aXV hm hc;rw[f1] at hg;have hg':xE b.Mem c=(m',y):=by grind
     have hy:-1<=(xE b.Mem c).2:=by grind[xE]
     grind
    ·have p2':(s.Pc == 2)=false:=by grind
     simp only[p2',bT,if_false,bQ,if_neg p2,aK];rfl
end Go.Gv
end
noncomputable section
namespace Go.Gv
def cW(c:aA)(w:Int):vR:=c.cH.getD w.toNat ⟨false,0,false,0⟩
theorem Q8{c:aA}(hc:JG c){w:Int}(hw:0<=w/\w<=2):idx c.cH w=some (cW c w):=by have:=hc.2.1;grind[iC,cW]
def FV(c:aA)(w e:Int):aA×Bool:=
 if(cW c w).On=false\/(cW c w).fU=true\/(cW c w).aG=e then(c,true)
 else if(cW c w).Seen=2 then(⟨c.aG,c.cH.set w.toNat {cW c w with fU:=true,Seen:=0}⟩,true)
 else(⟨c.aG,c.cH.set w.toNat {cW c w with Seen:=(cW c w).Seen+1}⟩,false)
theorem aI8{c:aA}(hc:JG c){w:Int}(hw:0<=w/\w<=2):POk c.aG (cW c w):=by
 have:=Q8 hc hw;have h2:=hc.2.1;rw[iC hw.1 (by omega)] at this;injection this with this
 rw[<-this];exact hc.2.2 _ (dC _)
theorem a2H{c:aA}(hc:JG c){w:Int}(hw:0<=w/\w<=2)(e:Int):IE c w e=some (FV c w e):=by have hp:=aI8 hc hw;have hx:=Q8 hc hw;have hsm:=hc.small;unfold IE ET FV;rw[nH hsm.1,kN,cZ hc,fQ,cZ hw,hx];simp only[aK,kV,bT,if_false,rP,hx];generalize cW c w=p at *;have ew:bE (p.Seen+1)=p.Seen+1:=aP (by have:=hp.2.1;omega) (by have:=hp.2.1;omega);grind
def aD9(c:aA)(e:Int):aA×Bool:=if c.aG=e/\e≠100000 then(⟨e+1,c.cH⟩,true) else(c,false)
theorem a2I{c:aA}(hc:JG c)(e:Int):QW c e=some (aD9 c e):=by
 have hsm:=hc.small;unfold QW EU aD9;rw[nH hsm.1,kN,cZ hc];simp only[aK,kV,bT,if_false];by_cases h1:c.aG=e
 ·have he:=hc.1;grind[aP]
 ·simp[h1]
def PH(c:aA)(w e:Int):aA×Bool:=if 0<=e/\e<=c.aG then(⟨c.aG,c.cH.set w.toNat ⟨true,e,false,0⟩⟩,true) else(c,false)
theorem aXX{c:aA}(hc:JG c){w:Int}(hw:0<=w/\w<=2)(e:Int):L4 c w e=some (PH c w e):=by have hsm:=hc.small;unfold L4 AB PH;rw[nH hsm.1,kN,cZ hc,fQ,cZ hw,fQ];simp only[aK,kV,bT,if_false];grind[Q8]
def JL(c:aA)(w:Int):aA×Bool:=if(cW c w).On then(⟨c.aG,c.cH.set w.toNat ⟨false,0,false,0⟩⟩,true) else(c,false)
theorem aL7{c:aA}(hc:JG c){w:Int}(hw:0<=w/\w<=2):R7 c w=some (JL c w):=by have hsm:=hc.small;have hx:=Q8 hc hw;unfold R7 AD JL;rw[nH hsm.1,kN,cZ hc,fQ,cZ hw,hx];grind
def eZ(b:aC)(s:Sub):aC×Sub:=
 if s.Pc=0 then(b,{s with Pc:=1,E:=b.aA.aG,B:=0})
 else if s.Pc=1 then
  if 0<=s.B/\s.B<=2 then
   if(FV b.aA s.B s.E).2 then({b with aA:=(FV b.aA s.B s.E).1},{s with Pc:=if s.B=2 then 2 else 1,B:=s.B+1})
   else({b with aA:=(FV b.aA s.B s.E).1},xD s 8)
  else(b,xD s 1)
 else if s.Pc=2 then({b with aA:=(aD9 b.aA s.E).1},xD {s with Out:=if(aD9 b.aA s.E).2 then 1 else s.Out} 0)
 else(b,xD s 1)
theorem aQL{b:aC}(hc:JG b.aA)(s:Sub):uA b s=some (eZ b s):=by
 unfold uA eZ;rw[a2I hc,fQ];simp only[bQ,tF,tG,aK];by_cases p0:s.Pc=0
 ·grind
 ·have p0':(s.Pc == 0)=false:=by grind
  simp only[p0',bT,if_false,if_neg p0];by_cases p1:s.Pc=1
  ·have p1':(s.Pc == 1)=true:=by grind
   simp only[p1',if_true,if_pos p1];by_cases hB:0<=s.B/\s.B<=2
   ·have ew:bE (s.B+1)=s.B+1:=aP (by omega) (by omega);simp only[cZ hB,kV,bT,if_false,if_pos hB,a2H hc hB,aK,ew];grind[xD]
   ·simp only[gZ hB,PQ,if_true,if_neg hB];rfl
  ·have p1':(s.Pc == 1)=false:=by grind
   simp only[p1',bT,if_false,if_neg p1];by_cases p2:s.Pc=2
   ·have p2':(s.Pc == 2)=true:=by grind
    simp only[p2',if_true,if_pos p2];cases h:(aD9 b.aA s.E).2<;>rfl
   ·have p2':(s.Pc == 2)=false:=by grind
    simp only[p2',bT,if_false,if_neg p2];rfl
def yG(b:aC)(w:Int)(s:Sub):aC×Sub:=
 if s.Pc=0 then(b,{s with Pc:=1,E:=b.aA.aG})
 else if s.Pc=1 then
  if(PH b.aA w s.E).2 then({b with aA:=(PH b.aA w s.E).1},{s with Pc:=2}) else({b with aA:=(PH b.aA w s.E).1},xD s 1)
 else if s.Pc=2 then if b.aA.aG=s.E then(b,xD s 0) else(b,{s with Pc:=0})
 else(b,xD s 1)
theorem a6L{b:aC}(hc:JG b.aA){w:Int}(hw:0<=w/\w<=2)(s:Sub):IF b w s=some (yG b w s):=by
 unfold IF yG;rw[aXX hc hw];simp only[bQ,aK];by_cases p0:s.Pc=0
 ·grind
 ·have p0':(s.Pc == 0)=false:=by grind
  simp only[p0',bT,if_false,if_neg p0];by_cases p1:s.Pc=1
  ·have p1':(s.Pc == 1)=true:=by grind
   simp only[p1',if_true,if_pos p1];cases h:(PH b.aA w s.E).2<;>rfl
  ·have p1':(s.Pc == 1)=false:=by grind
   simp only[p1',bT,if_false,if_neg p1];by_cases p2:s.Pc=2
   ·have p2':(s.Pc == 2)=true:=by grind
    simp only[p2',if_true,if_pos p2];by_cases q:b.aA.aG=s.E
    ·have q':(b.aA.aG == s.E)=true:=by grind
     simp only[q',if_true,if_pos q];rfl
    grind
   ·have p2':(s.Pc == 2)=false:=by grind
    simp only[p2',bT,if_false,if_neg p2];rfl
def dK(l:List bI)(w:Int):List eE:=(l.getD w.toNat ⟨[]⟩).Rows
theorem ML{l:List bI}(hl:yP l){w:Int}(hw:0<=w/\w<=2):idx l w=some ⟨dK l w⟩:=by have:=hl.1;rw[iC hw.1 (by omega)];simp[dK,PR,kG (show w.toNat<l.length by omega)]
theorem aL8{l:List bI}(hl:yP l){w:Int}(hw:0<=w/\w<=2):(dK l w).length<=24:=by
 have h:=ML hl hw;have h3:=hl.1;rw[iC hw.1 (by omega)] at h;injection h with h
 have:=hl.small.2.2.2 _ (dC (show w.toNat<l.length by omega));grind
def vQ(b:aC)(w:Int)(s:Sub):aC×Sub:=
 if s.Pc=0 then(b,{s with Pc:=1,E:=b.aA.aG})
 else if s.Pc=1 then
  if 0<=s.E/\s.E<=b.aA.aG then
   if m5 b.Mem s.A/\¬aQ b.aN (s.A % 32) then({b with aN:=b.aN.set w.toNat ⟨dK b.aN w ++ [⟨s.A,s.E⟩]⟩},xD s 0) else(b,xD s 4)
  else(b,xD s 1)
 else(b,xD s 1)
theorem aTF{b:aC}(hb:nC b){w:Int}(hw:0<=w/\w<=2)(s:Sub):wS b w s=some (vQ b w s):=by
 have hL:=hb.1.2.2.1;have hm:=hb.1.1;obtain⟨h1,h2,h3,_⟩:=mO.facts hm;have hx:=ML hL hw;have hrow:=aL8 hL hw;unfold wS vQ;rw[fQ,TZ hm.1.1.1 (by omega) (by grind[maxLen]) (by grind[maxLen]),jI];simp only[bQ,aK,vN,ES];by_cases p0:s.Pc=0
 ·grind
 ·have p0':(s.Pc == 0)=false:=by grind
  simp only[p0',bT,if_false,if_neg p0];by_cases p1:s.Pc=1
  ·have p1':(s.Pc == 1)=true:=by grind
   simp only[p1',if_true,if_pos p1];by_cases q1:0<=s.E/\s.E<=b.aA.aG
   ·simp only[cZ q1,kV,bT,if_false,if_pos q1];by_cases q2:m5 b.Mem s.A
    ·have hh:=q2.1;simp only[cZ q2,kV,bT,if_false,if_pos hh,T0 hL,aK];by_cases q3:aQ b.aN (s.A % 32)
     ·simp only[cZ q3,if_true,if_neg (show ¬(m5 b.Mem s.A/\¬aQ b.aN (s.A % 32)) from fun h=>h.2 q3)];rfl
     ·simp only[gZ q3,bT,if_false,hx,aK,if_pos (show m5 b.Mem s.A/\¬aQ b.aN (s.A % 32) from⟨q2,q3⟩)];rw[aM (by simp;omega)];rfl
    ·simp only[gZ q2,PQ,if_true,if_neg (show ¬(m5 b.Mem s.A/\¬aQ b.aN (s.A % 32)) from fun h=>q2 h.1)];rfl
   ·simp only[gZ q1,PQ,if_true,if_neg q1];rfl
  ·have p1':(s.Pc == 1)=false:=by grind
   simp only[p1',bT,if_false,if_neg p1];rfl
def IL(r:eE)(e:Int):Prop:=2<=e/\r.aG<=bE (e - 2)
instance (r:eE) (e:Int):Decidable (IL r e):=by unfold IL;infer_instance
theorem aI9(r:eE)(e:Int):K2 r e=some (decide (IL r e)):=by unfold K2 KP IL;grind
def rV(l:List eE)(e:Int)(k:Nat):Nat:=k+(l.drop k).findIdx (fun r=>decide (IL r e))
theorem a2J{l:List eE}(hl:l.length<=1000){from_ e:Int}:yD l from_ e=some (if rV l e from_.toNat<l.length then(rV l e from_.toNat:Int) else -1):=by
 have hst:(if 0<from_ then from_ else 0)=(from_.toNat:Int):=by omega
 unfold yD;rw[hst];have key:∀d k:Nat,l.length<=k+d->loop (fE l e) (k:Int)=some (if rV l e k<l.length then Out.ret (rV l e k:Int) else Out.brk ()):=by
  intro d;induction d with
  | zero =>
   intro k hk;rw[bM (r:=Out.brk ()) (by simp_all[fE,if_neg]),if_neg (by grind[rV])]
  | succ d ih =>
   intro k hk;by_cases hkl:k<l.length
   ·have hd:l.drop k=l[k] :: l.drop (k+1):=zK hkl;by_cases hr:IL l[k] e
    ·have hs:rV l e k=k:=by grind[rV]
     simp_all[bM,fE,aV,aI9]
    ·have hs:rV l e k=rV l e (k+1):=by unfold rV;grind
     rw[bU (s':=((k+1:Nat):Int)) (by simp only[fE];rw[if_pos (by simp;omega),aV hkl,aK,aI9 _ e,aK,gZ hr,if_neg (by simp),aP (by omega) (by omega)];rfl),ih (k+1) (by omega),hs]
   grind
 rw[key l.length from_.toNat (by omega)];split<;>rfl
theorem aTG{l:List eE}{e:Int}{k:Nat}(h:rV l e k<l.length):k<=rV l e k/\IL l[rV l e k] e:=by
 refine⟨by grind[rV],?_⟩;have h1:(l.drop k).findIdx (fun r=>decide (IL r e))<(l.drop k).length:=by grind[rV]
 have:=List.findIdx_getElem (xs:=l.drop k) (p:=fun r=>decide (IL r e)) (w:=h1);rw[List.getElem_drop] at this;exact of_decide_eq_true this
def rW(m:Mem)(w h:Int):Mem:=
 if h / 32+1<=6 then
  if(fJ m.aD.Own (w*3+bN m.Heap (h % 32)).toNat).length<2 then⟨⟨st4 m.Heap.Bytes (iY (h % 32) (bN m.Heap (h % 32))).toNat (h / 32+1),m.Heap.Class⟩,⟨m.aD.Global,m.aD.Own.set (w*3+bN m.Heap (h % 32)).toNat ⟨fJ m.aD.Own (w*3+bN m.Heap (h % 32)).toNat ++ [h % 32]⟩⟩⟩
  else⟨⟨st4 m.Heap.Bytes (iY (h % 32) (bN m.Heap (h % 32))).toNat (h / 32+1),m.Heap.Class⟩,⟨m.aD.Global.set (bN m.Heap (h % 32)).toNat ⟨fJ m.aD.Global (bN m.Heap (h % 32)).toNat ++ [h % 32]⟩,m.aD.Own⟩⟩
 else⟨⟨st4 m.Heap.Bytes (iY (h % 32) (bN m.Heap (h % 32))).toNat (h / 32+1),m.Heap.Class⟩,m.aD⟩
theorem aBX{m:Mem}(hm:mO m){w h:Int}(hw:0<=w/\w<=2)(hv:m5 m h):ID m w (h % 32)=some (rW m w h):=by
 obtain⟨hcnt,h3,h9,h1,h2,hsm,hcp,hlo,hsG,hsO⟩:=mO.facts hm;have hs:=hm.1.1.1;have hh:=hv.1;have hcl:=eB hv.2.1;have hgo:=W8 hcl;have hc2:0<=bN m.Heap (h % 32)/\bN m.Heap (h % 32)<=2:=by obtain⟨_,q,e⟩:=tK hcl;rw[e];exact jR.1 (by omega)
 have hg6:1<=h / 32/\h / 32<=6:=by grind[lW]
 have eo:iY (h % 32) (bN m.Heap (h % 32))=(((iY (h % 32) (bN m.Heap (h % 32))).toNat:Nat):Int):=by omega
 have ew:bE (h / 32+1)=h / 32+1:=aP (by omega) (by omega);unfold ID rW;rw[BJ hs,aK,uR hs hcl,hv.2.2,aK,AG,aK,ew];generalize hgn:(iY (h % 32) (bN m.Heap (h % 32))).toNat=a at eo;rw[eo,JH (by omega) (by omega) (by omega)];simp only[aK,LZ,LY,ew];generalize bN m.Heap (h % 32)=c at *;by_cases q:h / 32+1<=6
 ·have hk:(w*3+c).toNat<m.aD.Own.length:=by omega
  have hx:idx m.aD.Own (w*3+c)=some m.aD.Own[(w*3+c).toNat]:=iC (by omega) (by omega);have hk2:c.toNat<m.aD.Global.length:=by omega
  have hx2:idx m.aD.Global c=some m.aD.Global[c.toNat]:=iC (by omega) (by omega);have b1:=hsO _ (dC hk);have b2:=hsG _ (dC hk2);rw[cZ q,if_pos rfl,if_pos q];unfold VE;rw[(Q7 hw hc2).1];simp only[aK,hx,hx2,LX,VC,VD,<-dZ hk,<-dZ hk2];by_cases q2:m.aD.Own[(w*3+c).toNat].aT.length<2
  ·have y1:(m.aD.Own[(w*3+c).toNat].aT.length:Int)<2:=by omega
   simp only[cZ y1,if_true,if_pos q2];grind[aM]
  ·have y1:¬(m.aD.Own[(w*3+c).toNat].aT.length:Int)<2:=by omega
   simp only[gZ y1,bT,if_false,if_neg q2];grind[aM]
 simp_all[if_neg]
def aVU(z:List Int)(w:Int):Int:=z.getD w.toNat 0
theorem aXY{z:List Int}(hz:aDH z){w:Int}(hw:0<=w/\w<=2):idx z w=some (aVU z w):=by have:=hz.1;grind[iC,aVU]
def KV(l:List eE)(k:Int):eE:=l.getD k.toNat ⟨0,0⟩
theorem WG{l:List eE}{k:Int}(h:0<=k/\k<l.length):idx l k=some (KV l k):=by grind[iC,KV]
def OE(l:List eE)(s:Sub):Prop:=0<=s.Row/\s.Row<l.length/\(KV l s.Row).Handle=s.H
instance (l:List eE) (s:Sub):Decidable (OE l s):=by unfold OE;infer_instance
def dD(b:aC)(w:Int)(s:Sub):aC×Sub:=
 if s.Pc=0 then(b,{s with Pc:=1,E:=b.aA.aG,Row:=0})
 else if s.Pc=1 then
  if rV (dK b.aN w) s.E s.Row.toNat<(dK b.aN w).length then(b,{s with Pc:=2,Row:=(rV (dK b.aN w) s.E s.Row.toNat:Int),B:=0,H:=(KV (dK b.aN w) (rV (dK b.aN w) s.E s.Row.toNat:Int)).Handle})
  else(b,xD s 0)
 else if s.Pc=2 then
  if(0<=s.B/\s.B<=2)/\OE (dK b.aN w) s then
   if aVU b.qH s.B=s.H then(b,{s with Pc:=1,Row:=s.Row+1}) else(b,{s with Pc:=if s.B=2 then 3 else 2,B:=s.B+1})
  else(b,xD s 1)
 else if s.Pc=3 then
  if OE (dK b.aN w) s/\IL (KV (dK b.aN w) s.Row) s.E then({b with Mem:=rW b.Mem w s.H,aN:=b.aN.set w.toNat ⟨(dK b.aN w).eraseIdx s.Row.toNat⟩},{s with Pc:=1,Out:=bE (s.Out+1)})
  else(b,xD s 1)
 else(b,xD s 1)
theorem WH{l:List bI}(hl:yP l){w:Int}(hw:0<=w/\w<=2){r:eE}(hr:r∈dK l w):r∈dQ l:=by
 have h:=ML hl hw;have h3:=hl.1;rw[iC hw.1 (by omega)] at h;injection h with h
 exact aDV.2 ⟨l[w.toNat],dC _,by grind⟩
theorem aJA{l:List eE}{k:Int}(h:0<=k/\k<l.length):KV l k∈l:=by have:=WG h;grind[iC]
theorem aQM{b:aC}(hb:nC b){w:Int}(hw:0<=w/\w<=2)(s:Sub):uB b w s=some (dD b w s):=by
 have hL:=hb.1.2.2.1;have hm:=hb.1.1;have hx:=ML hL hw;have hrow:=aL8 hL hw;have hfl:=fun r hr=>WH hL hw (r:=r) hr;unfold uB dD;rw[hx];simp only[aK,bQ];generalize dK b.aN w=l at *;by_cases p0:s.Pc=0
 ·grind
 have p0':(s.Pc == 0)=false:=by grind
 simp only[p0',bT,if_false,if_neg p0];by_cases p1:s.Pc=1
 ·have p1':(s.Pc == 1)=true:=by grind
  simp only[p1',if_true,if_pos p1,a2J (show l.length<=1000 by omega),aK];by_cases q:rV l s.E s.Row.toNat<l.length
  ·have n:¬(rV l s.E s.Row.toNat:Int)<0:=by omega
   simp only[if_pos q,gZ n,bT,if_false,WG (l:=l) (k:=(rV l s.E s.Row.toNat:Int)) (by omega),aK]
  ·simp only[if_neg q,cZ (show(-1:Int)<0 by omega),if_true];rfl
 have p1':(s.Pc == 1)=false:=by grind
 simp only[p1',bT,if_false,if_neg p1];have el:bE ((l.length:Int) - 1)=(l.length:Int) - 1:=aP (by omega) (by omega);by_cases p2:s.Pc=2
 ·have p2':(s.Pc == 2)=true:=by grind
  simp only[p2',if_true,if_pos p2,fQ,el,aK,fN,tH,bQ];by_cases hB:0<=s.B/\s.B<=2
  ·simp only[cZ hB,kV,bT,if_false];by_cases hR:0<=s.Row/\s.Row<=(l.length:Int) - 1
   ·simp only[cZ hR,kV,bT,if_false,WG (l:=l) (k:=s.Row) (by omega),aK];by_cases hH:(KV l s.Row).Handle=s.H
    ·have hH':((KV l s.Row).Handle != s.H)=false:=by grind
     have ha:(0<=s.B/\s.B<=2)/\OE l s:=⟨hB,hR.1,by omega,hH⟩;have e1:bE (s.B+1)=s.B+1:=aP (by omega) (by omega);have e2:bE (s.Row+1)=s.Row+1:=aP (by omega) (by omega);simp only[hH',bT,if_false,if_pos ha,aXY hb.1.2.2.2 hB,aK,e1,e2];grind
    ·have hH':((KV l s.Row).Handle != s.H)=true:=by grind
     have ha:¬((0<=s.B/\s.B<=2)/\OE l s):=fun h=>hH h.2.2.2;simp only[hH',if_true,if_neg ha,aK];rfl
   ·have ha:¬((0<=s.B/\s.B<=2)/\OE l s):=fun h=>hR ⟨h.2.1,by have:=h.2.2.1;omega⟩;simp only[gZ hR,PQ,if_true,if_neg ha,aK];rfl
  ·have ha:¬((0<=s.B/\s.B<=2)/\OE l s):=fun h=>hB h.1;simp only[gZ hB,PQ,if_true,if_neg ha,aK];rfl
 have p2':(s.Pc == 2)=false:=by grind
 simp only[p2',bT,if_false,if_neg p2];by_cases p3:s.Pc=3
 ·have p3':(s.Pc == 3)=true:=by grind
  simp only[p3',if_true,if_pos p3,fQ,el,aK,fO,CC,bQ];by_cases hR:0<=s.Row/\s.Row<=(l.length:Int) - 1
  ·simp only[cZ hR,kV,bT,if_false,WG (l:=l) (k:=s.Row) (by omega),aK];by_cases hH:(KV l s.Row).Handle=s.H
   ·have hH':((KV l s.Row).Handle != s.H)=false:=by grind
    simp only[hH',bT,if_false,aI9,aK];by_cases hr:IL (KV l s.Row) s.E
    ·have ha:OE l s/\IL (KV l s.Row) s.E:=⟨⟨hR.1,by omega,hH⟩,hr⟩;have e2:bE (s.Row+1)=s.Row+1:=aP (by omega) (by omega);have hlive:=(hb.2 _ (hfl _ (aJA (l:=l) (k:=s.Row) (by omega)))).1;rw[hH] at hlive;have et:(s.Row+1).toNat=s.Row.toNat+1:=by omega
     simp only[cZ hr,kV,bT,if_false,if_pos ha,e2,jI,if_pos hlive.1,aK,aBX hm hw hlive,et];grind[aM,del_eq]
    ·have ha:¬(OE l s/\IL (KV l s.Row) s.E):=fun h=>hr h.2;simp only[gZ hr,PQ,if_true,if_neg ha,aK];rfl
   ·have hH':((KV l s.Row).Handle != s.H)=true:=by grind
    have ha:¬(OE l s/\IL (KV l s.Row) s.E):=fun h=>hH h.1.2.2;simp only[hH',if_true,if_neg ha,aK];rfl
  ·have ha:¬(OE l s/\IL (KV l s.Row) s.E):=fun h=>hR ⟨h.1.1,by have:=h.1.2.1;omega⟩;simp only[gZ hR,PQ,if_true,if_neg ha,aK];rfl
 ·have p3':(s.Pc == 3)=false:=by grind
  simp only[p3',bT,if_false,if_neg p3];rfl
def i4(b:aC)(w:Int)(s:Sub):aC×Sub:=
 if s.cJ then(b,s) else if s.Kind=1 then WE b w s else if s.Kind=2 then vQ b w s else if s.Kind=3 then eZ b s else if s.Kind=4 then dD b w s else if s.Kind=5 then yG b w s else(b,xD s 1)
theorem aVV{b:aC}(hb:nC b){w:Int}(hw:0<=w/\w<=2)(s:Sub):R6 b w s=some (i4 b w s):=by
 unfold R6 i4;rw[aXW hb.1.1 hw,aTF hb hw,aQL hb.1.2.1,aQM hb hw,a6L hb.1.2.1 hw];simp only[aK,bQ];cases s.cJ
 ·simp only[bT,if_false,beq_iff_eq];split<;>(try rfl);split<;>(try rfl);split<;>(try rfl);split<;>(try rfl);split<;>rfl
 ·rfl
theorem a6M{b:aC}(hb:nC b){w:Int}(hw:0<=w/\w<=2)(s:Sub):nC (i4 b w s).1:=by obtain⟨x,y,e1,_,h⟩:=step_eq hb hb.small hw s;grind[aVV]
end Go.Gv
end
noncomputable section
namespace Go.Gv
theorem aGR{b:List Int}{a:Nat}{n:Int}(h:a+4<=b.length){j:Nat}(hj:j<a\/a+4<=j):bt (PF b a n) j=bt b j:=by unfold PF;rw[MI (by simp;omega),MI (by simp;omega),MI (by simp;omega),MI (by omega),if_neg (by omega),if_neg (by omega),if_neg (by omega),if_neg (by omega)]
theorem YP.put{h:Heap}(hh:YP h){s:Int}(hc:0<=bN h s){n:Int}(hn:0<=n/\n<=4294967295) :
  YP ⟨PF h.Bytes ((iY s (bN h s)).toNat+4) n,h.Class⟩/\∀t,0<=bN h t->kU ⟨PF h.Bytes ((iY s (bN h s)).toNat+4) n,h.Class⟩ t=kU h t:=by
 obtain⟨hs,hp⟩:=hh;have h384:=hs.1;have hs':iD ⟨PF h.Bytes ((iY s (bN h s)).toNat+4) n,h.Class⟩:=⟨by grind[aBU],hs.2.1,aXP hs.2.2.1 _ hn,hs.2.2.2⟩;obtain⟨p,i,p6,hi,es,ec,eo,ep⟩:=pS hc;have hcl:0<=cV h p/\cV h p<=2:=jR.1 (by omega);have hroom:8+i*(bD (cV h p)).toNat+8<=64/\∀j,j<(cM (cV h p)).toNat->j*(bD (cV h p)).toNat+4<=i*(bD (cV h p)).toNat+4\/i*(bD (cV h p)).toNat+12<=j*(bD (cV h p)).toNat:=by grind[cM,bD]
 have hgen:∀q j,q<6->j<(cM (cV h q)).toNat->ld (PF h.Bytes ((iY s (bN h s)).toNat+4) n) (q*64+8+j*(bD (cV h q)).toNat) 4=ld h.Bytes (q*64+8+j*(bD (cV h q)).toNat) 4:=fun q j hq hj=>by
  have hz:=yE hs hq rfl hj;refine HO (by omega) (by grind[aBU]) fun k k1 k2=>?_;by_cases e:q=p
  ·grind[aGR]
  grind[aGR]
 refine⟨⟨hs',fun q hq=>?_⟩,fun t ht=>?_⟩
 ·rw[E4 hs' hq];have hold:=(E4 hs hq).1 (hp q hq);by_cases e:q=p
  ·subst e;have hcl':¬cV h q<0:=by omega
   unfold ZT at hold ⊢;have hcc:cV ⟨PF h.Bytes ((iY s (bN h s)).toNat+4) n,h.Class⟩ q=cV h q:=rfl;rw[hcc];rw[if_neg hcl'] at hold ⊢;obtain⟨⟨a1,a2,a3⟩,a4,a5⟩:=hold;have bs:∀k,k<8->bt (PF h.Bytes ((iY s (bN h s)).toNat+4) n) (q*64+k)=bt h.Bytes (q*64+k):=fun k hk=>aGR (by omega) (by omega);have b0:=bs 0 (by omega);grind
  ·refine ZT.same hq hs (by grind[aBU]) rfl (fun k hk=>aGR (by omega) (by omega)) hold
 ·obtain⟨p',i',p6',hi',es',ec',eo',ep'⟩:=pS ht;have e2:bN ⟨PF h.Bytes ((iY s (bN h s)).toNat+4) n,h.Class⟩ t=bN h t:=rfl;grind[kU]
theorem mO.put{m:Mem}(hm:mO m){s:Int}(hc:0<=bN m.Heap s){n:Int}(hn:0<=n/\n<=4294967295):uG m ⟨⟨PF m.Heap.Bytes ((iY s (bN m.Heap s)).toNat+4) n,m.Heap.Class⟩,m.aD⟩ (-1):=by obtain⟨a,b⟩:=YP.put hm.1.1 hc hn;refine⟨mO.heap hm a fun x hx=>⟨rfl,b x (mO.PG hm hx).1⟩,fun t ht _=>?_⟩;have ht':=iN.1 ht;have e:=b t ht'.1;exact⟨iN.2 ⟨ht'.1,ht'.2.1,by grind⟩,e,rfl⟩
theorem start_eq{h:Heap}(hs:iD h){s:Int}(hc:0<=bN h s):aA7 s (bN h s)=some (iY s (bN h s)+4)/\KH s (bN h s)=some (iY s (bN h s)+4):=by have hg:=W8 hc;unfold aA7 KH;rw[AG,AH,aK,if_neg (by simp;omega),aP (by omega) (by omega)];simp
end Go.Gv
end
noncomputable section
namespace Go.Gv
theorem hb0(x:Int):(x == 0)=decide (x=0):=by grind
theorem E7(h:Int):nE h=some (decide (oS h)):=by grind[nE,wF,oS,g9]
end Go.Gv
end
noncomputable section
namespace Go.Gv
theorem aQN{c:aA}(hc:JG c){w:Int}(hw:0<=w/\w<=2):∃r,R7 c w=some r/\RZ c w=some r/\JG r.1/\r.1.aG=c.aG:=by
 obtain⟨p,hp,hpk⟩:=aS4 hc hw;unfold R7 RZ;rw[nH hc.small.1,AJ hc.small.1,kN,uF hc.small.2,nI,fQ,cZ hc,cZ hw];simp only[aK,kV,bT,if_false,hp,AD,zY];cases p.On with
 | true =>
  simp only[kV,bT,if_false];have h0:=hc.1;exact⟨_,rfl,rfl,hc.aN7 ⟨by grind,by simp,fun _=>rfl⟩,rfl⟩
 | false=>simp_all
theorem aDH.set{z:List Int}(hz:aDH z)(k:Nat){h:Int}(hh:oS h):aDH (z.set k h):=⟨by simpa using hz.1,fun q hq=>(uY hq).elim (hz.2 q) (fun e=>e ▸ hh)⟩
theorem nC.clock{b:aC}(hb:nC b){cl:aA}(h:JG cl)(e:b.aA.aG<=cl.aG):nC ⟨b.Mem,cl,b.aN,b.qH⟩:=⟨⟨hb.1.1,h,hb.1.2.2⟩,fun r hr=>⟨(hb.2 r hr).1,aJ6 (hb.2 r hr).2 e⟩⟩
theorem nC.haz{b:aC}(hb:nC b){z:List Int}(h:aDH z):nC ⟨b.Mem,b.aA,b.aN,z⟩:=⟨⟨hb.1.1,hb.1.2.1,hb.1.2.2.1,h⟩,hb.2⟩
theorem nC.mem{b:aC}(hb:nC b){m:Mem}(h:uG b.Mem m (-1)):nC ⟨m,b.aA,b.aN,b.qH⟩:=⟨⟨h.1,hb.1.2⟩,fun r hr=>⟨h.live (hb.2 r hr).1 (by omega),(hb.2 r hr).2⟩⟩
end Go.Gv
end
noncomputable section
namespace Go.Gv
theorem bCU{h:Heap}{s:Int}(hcl:0<=bN h s):(iY s (bN h s)).toNat+8<=384/\8<=jB (bN h s)/\jB (bN h s)<=40:=by
 have hc2:0<=bN h s/\bN h s<=2:=by obtain⟨_,q,e⟩:=tK hcl;rw[e];exact jR.1 (by omega)
 grind[jB,bN,pS,cM,bD]
def zG(kind a:Int):Sub:=⟨kind,a,0,0,0,0,0,0,0,false⟩
end Go.Gv
end
noncomputable section
namespace Go.Gv
def jS:List Int->Nat->List UInt8->List Int
 | b,_,[]=>b
 | b,a,c :: t=>jS (b.set a (c.toNat:Int)) (a+1) t
theorem AK:∀(t:List UInt8) (b:List Int) (a:Nat),(jS b a t).length=b.length
 | [],b,a=>rfl
 | c :: t,b,a=>by rw[jS,AK];simp
theorem aL9:∀(t:List UInt8) {b:List Int} (a:Nat),sC b->sC (jS b a t)
 | [],b,a,h=>h
 | c :: t,b,a,h=>aL9 t (a+1) (aQI a h ⟨by omega,by have:=c.toNat_lt;omega⟩)
theorem KW:∀(t:List UInt8) {b:List Int} {a:Nat},a+t.length<=b.length->∀{j:Nat},(j<a\/a+t.length<=j)->bt (jS b a t) j=bt b j
 | [],b,a,h,j,hj=>rfl
 | c :: t, b, a, h, j, hj => by simp only[JO] at h hj;rw[jS,KW t (by simp;omega) (by omega),MI (by omega),if_neg (by omega)]
theorem aJB:∀(t:List UInt8) {b:List Int} {a:Nat},a+t.length<=b.length->∀{j:Nat} (hj:j<t.length),bt (jS b a t) (a+j)=(t[j].toNat:Int)
 | c :: t, b, a, h, j, hj => by
  simp only[JO] at h hj;rw[jS];cases j with
  | zero=>rw[KW t (by simp;omega) (by omega),MI (by omega),if_pos (by omega)];rfl
  | succ j =>
   have:=aJB t (b:=b.set a (c.toNat:Int)) (a:=a+1) (by simp;omega) (j:=j) (by omega);grind
theorem aEA(b:List Int)(a:Nat)(t:List UInt8)(hl:b.length<=100000)(h:a+t.length<=b.length):∀(r:List UInt8) (k:Nat) (c:List Int),c.length=b.length->t.drop k=r->k+r.length=t.length->loop (lP b (a:Int) t) (c,(k:Int))=some (jS c (a+k) r)
 | [], k, c, hc, hr, hk => by refine bM ?_;simp only[lP];rw[aM hc,if_neg (by grind)];rfl
 | x :: r, k, c, hc, hr, hk => by
  simp only[JO] at hk;have hkt:k<t.length:=by omega
  have e:=zK hkt;rw[hr] at e;injection e with e1 e2
  have st:lP b (a:Int) t (c,(k:Int))=some (.next (c.set (a+k) (x.toNat:Int),((k+1:Nat):Int))):=by simp only[lP];rw[aM hc,if_pos (by simp;omega),aV hkt,aK,aP (x:=(a:Int)+k) (by omega) (by omega),show(a:Int)+k=((a+k:Nat):Int) by omega,aV (by omega),aK,aP (by omega) (by omega),<-e1];rfl
  rw[bU st,aEA b a t hl h r (k+1) _ (by grind) e2.symm (by omega),jS];rfl
theorem aMA{b:List Int}{a:Nat}{t:List UInt8}(hl:b.length<=100000)(h:a+t.length<=b.length):nG b (a:Int) t=some (jS b a t):=by unfold nG;rw[show(0:Int)=((0:Nat):Int) from rfl,aEA b a t hl h t 0 b rfl rfl (by omega),aK];grind[LO,LN,aM,AK]
theorem YP.jS{h:Heap}(hh:YP h){s:Int}(hc:0<=bN h s){o:Nat}{t:List UInt8}(ht:((o+t.length:Nat):Int)<=jB (bN h s)) :
  YP ⟨Gv.jS h.Bytes ((iY s (bN h s)).toNat+4+o) t,h.Class⟩/\∀u,0<=bN h u->kU ⟨Gv.jS h.Bytes ((iY s (bN h s)).toNat+4+o) t,h.Class⟩ u=kU h u:=by
 obtain⟨hs,hp⟩:=hh;have h384:=hs.1;have hs':iD ⟨Gv.jS h.Bytes ((iY s (bN h s)).toNat+4+o) t,h.Class⟩:=⟨by grind[AK],hs.2.1,aL9 _ _ hs.2.2.1,hs.2.2.2⟩;obtain⟨p,i,p6,hi,es,ec,eo,ep⟩:=pS hc;have hcl:0<=cV h p/\cV h p<=2:=jR.1 (by omega);rw[ec] at ht;have hroom:8+i*(bD (cV h p)).toNat+4+(jB (cV h p)).toNat<=64/\∀j,j<(cM (cV h p)).toNat->j*(bD (cV h p)).toNat+4<=i*(bD (cV h p)).toNat+4\/i*(bD (cV h p)).toNat+4+(jB (cV h p)).toNat<=j*(bD (cV h p)).toNat:=by grind[cM,bD,jB]
 have hot:o+t.length<=(jB (cV h p)).toNat:=by omega
 have hgen:∀q j,q<6->j<(cM (cV h q)).toNat->ld (Gv.jS h.Bytes ((iY s (bN h s)).toNat+4+o) t) (q*64+8+j*(bD (cV h q)).toNat) 4=ld h.Bytes (q*64+8+j*(bD (cV h q)).toNat) 4:=fun q j hq hj=>by
  have hz:=yE hs hq rfl hj;refine HO (by omega) (by grind[AK]) fun k k1 k2=>?_;by_cases e:q=p
  ·subst e;have:=hroom.2 j hj;exact KW _ (by omega) (by omega)
  ·exact KW _ (by omega) (by omega)
 refine⟨⟨hs',fun q hq=>?_⟩,fun u hu=>?_⟩
 ·rw[E4 hs' hq];have hold:=(E4 hs hq).1 (hp q hq);by_cases e:q=p
  ·subst e;have hcl':¬cV h q<0:=by omega
   unfold ZT at hold ⊢;have hcc:cV ⟨Gv.jS h.Bytes ((iY s (bN h s)).toNat+4+o) t,h.Class⟩ q=cV h q:=rfl;rw[hcc];rw[if_neg hcl'] at hold ⊢;obtain⟨⟨a1,a2,a3⟩,a4,a5⟩:=hold;have bs:∀k,k<8->bt (Gv.jS h.Bytes ((iY s (bN h s)).toNat+4+o) t) (q*64+k)=bt h.Bytes (q*64+k):=fun k hk=>KW _ (by omega) (by omega);have b0:=bs 0 (by omega);grind
  ·refine ZT.same hq hs (by grind[AK]) rfl (fun k hk=>KW _ (by omega) (by omega)) hold
 ·obtain⟨p',i',p6',hi',es',ec',eo',ep'⟩:=pS hu;have e2:bN ⟨Gv.jS h.Bytes ((iY s (bN h s)).toNat+4+o) t,h.Class⟩ u=bN h u:=rfl;grind[kU]
theorem mO.jS{m:Mem}(hm:mO m){s:Int}(hc:0<=bN m.Heap s){o:Nat}{t:List UInt8}(ht:((o+t.length:Nat):Int)<=jB (bN m.Heap s)):uG m ⟨⟨Gv.jS m.Heap.Bytes ((iY s (bN m.Heap s)).toNat+4+o) t,m.Heap.Class⟩,m.aD⟩ (-1):=by obtain⟨a,b⟩:=YP.jS hm.1.1 hc ht;refine⟨mO.heap hm a fun x hx=>⟨rfl,b x (mO.PG hm hx).1⟩,fun t ht _=>?_⟩;have ht':=iN.1 ht;have e:=b t ht'.1;exact⟨iN.2 ⟨ht'.1,ht'.2.1,by grind⟩,e,rfl⟩
def aQO:gW:=⟨0,0,0⟩
def zH(h:Heap)(s:Int):Nat:=(iY s (bN h s)).toNat+4
def ZU(h:Heap)(s:Int):gW:=⟨ld h.Bytes (zH h s) 2,ld h.Bytes (zH h s+2) 4,ld h.Bytes (zH h s+6) 4⟩
def WI(h:Heap)(x:Int):gW:=if lW x/\0<=bN h (x % 32)/\10<=jB (bN h (x % 32)) then ZU h (x % 32) else aQO
theorem CG{h:Heap}{s:Int}(hcl:0<=bN h s)(h10:10<=jB (bN h s)):zH h s+10<=384/\16<=jB (bN h s):=by grind[bN,zH,pS,jB,cM,bD]
theorem aJC{h:Heap}(hs:iD h)(s:Int):ED h s=some (decide (10<=jB (bN h s))):=by grind[ED,kM,V1]
theorem ZV{h:Heap}(hs:iD h){s:Int}(hc:0<=bN h s):xT h s=some (zH h s:Int):=by have:=W8 hc;grind[xT,zH,kM,start_eq]
theorem aXZ{h:Heap}(hs:iD h){s:Int}(hc:0<=bN h s)(h10:10<=jB (bN h s)):NY h s=some (ZU h s):=by
 have hr:=(CG hc h10).1;have h1:=hs.1;unfold NY ZU;rw[ZV hs hc,aK,show(2:Int)=((2:Nat):Int) from rfl,show(4:Int)=((4:Nat):Int) from rfl,uD hs.2.2.1 (by omega) (by omega) (by omega),aK,
  aP (by omega) (by omega),show(zH h s:Int)+((2:Nat):Int)=((zH h s+2:Nat):Int) by omega,uD hs.2.2.1 (by omega) (by omega) (by omega),aK,
  aP (by omega) (by omega),show(zH h s:Int)+6=((zH h s+6:Nat):Int) by omega,uD hs.2.2.1 (by omega) (by omega) (by omega)];rfl
theorem aMB{m:Mem}(hm:mO m)(x:Int):∃c,H7 m x=some (WI m.Heap x,c):=by
 have hs:=hm.1.1.1;unfold H7 WI;rw[g9,aK];by_cases hh:lW x
 ·rw[cZ hh,if_neg (by simp),(lW.mod hh).1,kM hs,aK];unfold EE;by_cases hc:bN m.Heap (x % 32)<0
  ·rw[cZ hc,if_pos rfl,if_neg (by omega)];exact⟨_,rfl⟩
  ·rw[gZ hc,if_neg (by simp),(lW.mod hh).1,aJC hs,aK];by_cases h10:10<=jB (bN m.Heap (x % 32))
   ·simp_all[aXZ]
   ·rw[gZ h10,if_pos (by rfl),if_neg (by omega)];exact⟨_,rfl⟩
 ·rw[gZ hh,if_pos (by rfl),if_neg (fun q=>hh q.1)];exact⟨_,rfl⟩
def Q9(n:gW):Int:=if lW n.Next then n.Next else 0
theorem aOB(n:gW):iA n=some (Q9 n):=by unfold iA Q9;rw[g9,aK];grind
theorem aDK(n:gW):oS (Q9 n):=by
 unfold Q9;split
 ·exact .inr (by assumption)
 ·exact .inl rfl
def lI(m:Mem)(x:Int):Prop:=m5 m x/\10<=jB (bN m.Heap (x % 32))
instance (m:Mem) (x:Int):Decidable (lI m x):=by unfold lI;infer_instance
theorem aEB{m:Mem}(hm:mO m)(x:Int):∃c,zX m x=some c/\(c=0↔lI m x):=by
 obtain⟨hcnt,h3,h9,h1,h2,hsm,hcp,hlo,hsG,hsO⟩:=mO.facts hm;have hs:=hm.1.1.1;unfold zX lI;rw[E2 hs (by omega) (by rw[h3];simp[maxLen]) (by rw[h9];simp[maxLen]),aK];by_cases hl:m5 m x
 ·rw[cZ hl,if_neg (by simp),(lW.mod hl.1).1,aJC hs,aK];by_cases h10:10<=jB (bN m.Heap (x % 32))
  ·rw[cZ h10,if_neg (by simp)];exact⟨_,rfl,by simp[hl,h10]⟩
  ·rw[gZ h10,if_pos (by rfl)];exact⟨_,rfl,by simp[hl,h10]⟩
 simp_all
def RB(n:Int):List UInt8:=[u8 (n / 256),u8 n]
theorem aTH{n:Int}(hn:0<=n/\n<=65535):mL n 2=some (RB n):=by
 have hw:xO 2=some true:=by grind[xO,dL]
 unfold mL;rw[hw];have e1:IntKind.u64.wrap (bE (8*2))=16:=by decide
 have e2:aG7 .i64 1 16=65536:=by decide
 simp only[aK,kV,bT,if_false,e1,e2];rw[if_neg (by simp;omega),aM (by omega),gZ (by omega)];simp only[uN,bT,if_false];rw[aM (by omega),show bE (2 - 1)=((1:Nat):Int) from by grind[aP]];have st:∀(m:Int) (c:List UInt8) (i:Nat),i<c.length->i<4->0<=m->p5 (m,c,(i:Int))=some (.next (m / 256,c.set i (u8 m),(i:Int) - 1)):=fun m c i hc hi h0=>by simp only[p5];rw[if_pos (by simp),aV hc,aK,show(8:Int)=((8:Nat):Int) from rfl,aVL h0 (by omega),aP (by omega) (by omega),K7];rfl
 rw[bU (st n _ 1 (by simp) (by omega) hn.1),show((1:Nat):Int) - 1=((0:Nat):Int) by rfl,
  bU (st _ _ 0 (by simp) (by omega) (by omega)),bM (r:=RB n)]
 ·rfl
 ·simp only[p5];rw[if_neg (by simp)];rfl
def aLD(n:gW):List UInt8:=RB n.Key++oK n.dO++oK n.Next
def aFZ(n:gW):Prop:=(0<=n.Key/\n.Key<=99)/\(0<=n.dO/\n.dO<=65535)/\oS n.Next
instance (n:gW):Decidable (aFZ n):=by unfold aFZ;infer_instance
theorem aX0(n:gW):N0 n=some (decide (aFZ n)):=by grind[N0,aFZ,dL,E7,wN]
theorem aBY{x:Int}(h:oS x):0<=x/\x<=223:=by
 rcases h with h | h
 ·omega
 ·have:=h.1;omega
def aBZ(m:Mem)(x:Int)(n:gW):Mem:=if aFZ n/\lI m x then⟨⟨jS m.Heap.Bytes (zH m.Heap (x % 32)) (aLD n),m.Heap.Class⟩,m.aD⟩ else m
theorem aTI{m:Mem}(hm:mO m)(x:Int)(n:gW):∃c,KK m x n=some (aBZ m x n,c):=by
 obtain⟨hcnt,h3,h9,h1,h2,hsm,hcp,hlo,hsG,hsO⟩:=mO.facts hm;have hs:=hm.1.1.1;have hbl:m.Heap.Bytes.length<=maxLen:=by grind[maxLen]
 unfold KK aBZ;rw[OC hsm,aK,HN hbl (by omega),cZ hm,aK,if_neg (by simp),aX0,aK];unfold A5;by_cases hn:aFZ n
 ·rw[cZ hn,if_neg (by simp)];obtain⟨c,e,hc⟩:=aEB hm x;rw[e,aK];by_cases hw:lI m x
  ·have hcl:=eB hw.1.2.1;have hr:=(CG hcl hw.2).1;have hnx:=aBY hn.2.2;have hk1:=hn.1.2;have hv1:=hn.2.1.2;obtain rfl:=hc.2 hw;rw[if_pos (by rfl),(lW.mod hw.1.1).1,ZV hs hcl,aK,aTH ⟨hn.1.1,by omega⟩,aK,SL ⟨hn.2.1.1,by omega⟩,aK,aM (by simp[RB,oK]),
    SL ⟨hnx.1,by omega⟩,aK,aM (by simp[RB,oK]),aMA (by omega) (by grind[RB,oK]),aK,if_pos ⟨hn,hw⟩]
   exact⟨_,rfl⟩
  ·rw[if_neg (by grind),if_neg (fun q=>hw q.2)];exact⟨_,rfl⟩
 simp_all
def aEC(m:Mem)(x y:Int):Mem:=if oS y/\lI m x then⟨⟨jS m.Heap.Bytes (zH m.Heap (x % 32)+6) (oK y),m.Heap.Class⟩,m.aD⟩ else m
theorem aX1{m:Mem}(hm:mO m)(x y:Int):∃c,NZ m x y=some (Gv.aEC m x y,c):=by
 obtain⟨hcnt,h3,h9,h1,h2,hsm,hcp,hlo,hsG,hsO⟩:=mO.facts hm;have hs:=hm.1.1.1;have hbl:m.Heap.Bytes.length<=maxLen:=by grind[maxLen]
 unfold NZ Gv.aEC;rw[OC hsm,aK,HN hbl (by omega),cZ hm,aK,if_neg (by simp),E7,aK];unfold EH;by_cases hn:oS y
 ·rw[cZ hn,if_neg (by simp)];obtain⟨c,e,hc⟩:=aEB hm x;rw[e,aK];by_cases hw:lI m x
  ·have hcl:=eB hw.1.2.1;have hr:=(CG hcl hw.2).1;have hnx:=aBY hn;obtain rfl:=hc.2 hw;rw[if_pos (by rfl),(lW.mod hw.1.1).1,ZV hs hcl,aK,SL ⟨hnx.1,by omega⟩,aK,aP (by omega) (by omega),show(zH m.Heap (x % 32):Int)+6=((zH m.Heap (x % 32)+6:Nat):Int) by omega,
    aMA (by omega) (by grind[oK]),aK,if_pos ⟨hn,hw⟩]
   exact⟨_,rfl⟩
  ·rw[if_neg (by grind),if_neg (fun q=>hw q.2)];exact⟨_,rfl⟩
 simp_all
theorem a2K{m:Mem}(hm:mO m)(x:Int)(n:gW):uG m (aBZ m x n) (-1):=by
 unfold aBZ;split
 ·rename_i h;have:=CG (eB h.2.1.2.1) h.2.2;exact mO.jS hm (eB h.2.1.2.1) (o:=0) (by grind[aLD,RB,oK])
 ·exact⟨hm,fun s h _=>⟨h,rfl,rfl⟩⟩
theorem a2L{m:Mem}(hm:mO m)(x y:Int):uG m (Gv.aEC m x y) (-1):=by
 unfold Gv.aEC;split
 ·rename_i h;have:=CG (eB h.2.1.2.1) h.2.2;exact mO.jS hm (eB h.2.1.2.1) (o:=6) (by grind[oK])
 ·exact⟨hm,fun s h _=>⟨h,rfl,rfl⟩⟩
end Go.Gv
end
noncomputable section
namespace Go.Gv
def aVW:Heap:=⟨List.replicate 384 0,[-1,-1,-1,-1,-1,-1]⟩
def bAP:aD:=⟨List.replicate 3 ⟨[]⟩,List.replicate 9 ⟨[]⟩⟩
def aVX:aC:=⟨⟨aVW,bAP⟩,⟨0,List.replicate 3 ⟨false,0,false,0⟩⟩,List.replicate 3 ⟨[]⟩,List.replicate 3 0⟩
theorem aF0:J6=some aVW:=by
 unfold J6;have key:loop tP (0,[])=some (List.replicate 6 (-1)):=iH (f:=tP) 6 (fun k=>((k:Int),List.replicate k (-1))) _ (fun k hk=>by
  simp only[tP];rw[if_pos (by simp;omega),aM (by simp;omega),aP (by omega) (by omega),List.replicate_succ'];rfl) (by simp[tP])
 rw[aM (by omega),key];rfl
theorem bAQ:vL [-1] 6=some [-1,-1,-1,-1,-1,-1]:=by
 unfold vL;rw[if_neg (by simp),show OX (IntKind.u64.wrap (([-1]:List Int).length:Int)) (IntKind.u64.wrap 6)=some (0,6) by kernel_rfl];simp only[aK];rw[if_neg (by simp),gZ (by omega)];simp only[pN,bT,if_false];rw[show IntKind.i64.wrap 6=6 from wrap_i64 (by omega) (by omega),aM (by omega),
  show(cT (List.replicate (Int.toNat 6) 0) 0 [-1],((min ([-1]:List Int).length ((List.replicate (Int.toNat 6) (0:Int)).length - 0):Nat):Int))=([-1,0,0,0,0,0],1) by kernel_rfl,
  bU (body:=lS) (s':=([-1,-1,0,0,0,0],2)) (by kernel_rfl),bU (body:=lS) (s':=([-1,-1,-1,-1,0,0],4)) (by kernel_rfl),
  bU (body:=lS) (s':=([-1,-1,-1,-1,-1,-1],6)) (by kernel_rfl),bM (body:=lS) (r:=[-1,-1,-1,-1,-1,-1]) (by kernel_rfl)]
 rfl
theorem aF1:KM=some aVW:=by unfold KM;rw[aM (by omega),bAQ];rfl
theorem aJD:J7=some aVX/\KN=some aVX:=by unfold J7 KN UU U7 OL OY OM OZ ON O0 UW U8;rw[aF0,aF1,aM (by omega),aM (by omega),aM (by omega),aM (by omega),aM (by omega)];exact⟨rfl,rfl⟩
theorem a2M:nC aVX:=of_decide_eq_true (by kernel_rfl)
end Go.Gv
end
noncomputable section
namespace Go.Gv
def CH{α:Type}(o:Option α)(Q:α->Prop):Prop:=∃x,o=some x/\Q x
abbrev a8P{σ ρ:Type}(I:σ->Prop)(Q:ρ->Prop):Step σ ρ->Prop
 | .next s=>I s
 | .stop r=>Q r
namespace CH
variable {α β σ ρ:Type} {Q:α->Prop}
theorem ret{x:α}(h:Q x):CH (some x) Q:=⟨x,rfl,h⟩
theorem bind{P:β->Prop}{o:Option β}{f:β->Option α}(h:CH o P)(hf:∀x,P x->CH (f x) Q):CH (o.bind f) Q:=by obtain⟨x,e,hx⟩:=h;grind
theorem need{p:Prop}[Decidable p]{k:Option α}(h:p)(hk:CH k Q):CH (Gv.need p k) Q:=by grind[aM]
theorem ite{c:Prop}[Decidable c]{a b:Option α}(h1:c->CH a Q)(h2:¬c->CH b Q):CH (if c then a else b) Q:=by grind
theorem mono{P:α->Prop}{o:Option α}(h:CH o P)(hf:∀x,P x->Q x):CH o Q:=by obtain⟨x,e,hx⟩:=h;exact⟨x,e,hf x hx⟩
theorem idx{l:List β}{i:Int}(h:0<=i/\i<l.length):CH (Gv.idx l i) (fun x=>x∈l):=⟨_,iC h.1 h.2,dC _⟩
theorem loop{Q:ρ->Prop}{f:σ->Option (Step σ ρ)}{s:σ}(μ:σ->Nat)(Inv:σ->Prop)(h0:Inv s)(hb:∀s,Inv s->CH (f s) (a8P (fun s'=>Inv s'/\μ s'<μ s) (fun r=>Q r))):CH (Gv.loop f s) Q:=by
 have key:∀n s,μ s<n->Inv s->CH (Gv.loop f s) Q:=by
  intro n;induction n with
  | zero=>omega
  | succ n ih =>
   intro s h hs;obtain⟨q,e,hq⟩:=hb s hs;cases q with
   | next s'=>grind[bU]
   | stop r=>rw[bM e];exact⟨r,rfl,hq⟩
 exact key _ s (Nat.lt_succ_self _) h0
theorem of{o:Option α}{x:α}(h:o=some x):CH o (fun y=>y=x):=⟨x,h,rfl⟩
end CH
def Cu(b:List UInt8)(i:Int):Prop:=(0<=i/\i<=b.length)/\b.length<=1048576
theorem a2N(x:Int):0<=iI .and .i64 x 255/\iI .and .i64 x 255<=255:=by have e:iI .and .i64 x 255=IntKind.i64.wrap ((BitVec.ofInt 64 x &&& BitVec.ofInt 64 255).toNat:Int):=rfl;grind[Nat.and_le_right,wrap_i64]
noncomputable section
variable {b:List UInt8} {i h:Int} (hc:Cu b i)
include hc
theorem aQP:CH (sA ⟨b,i,h⟩) (fun x=>(0<=x.1/\x.1<=255)/\Cu b x.2.1):=by
 unfold sA C5;obtain⟨⟨a1,a2⟩,a3⟩:=hc;refine .ite (fun q=>?_) (fun q=>?_)
 ·have q':=of_decide_eq_true q;simp only at q';refine .bind (.idx ⟨a1,q'⟩) fun x _=>.ret ⟨a2N _,?_⟩;grind[Cu,aP]
 ·exact .ret ⟨a2N _,⟨a1,a2⟩,a3⟩
theorem below{n:Int}(hn:n<=1000000):CH (fW ⟨b,i,h⟩ n) (fun x=>(0<=x.1/\(x.1<n\/n<=0/\x.1=0))/\Cu b x.2.1):=by
 unfold fW;refine .ite (fun q=>?_) (fun q=>?_)
 ·have q':=of_decide_eq_true q;exact .ret ⟨by simp;omega,hc⟩
 ·have q0:0<n:=by grind
  refine .ite (fun q=>?_) (fun q=>?_)
  ·refine .bind (aQP hc) fun x ⟨hx,h1⟩=>.need (by omega) (.ret ⟨?_,h1⟩);simp only[MD hx.1];exact⟨Int.emod_nonneg _ (by omega),.inl (Int.emod_lt_of_pos _ q0)⟩
  ·refine .bind (aQP hc) fun x ⟨hx,h1⟩=>.bind (aQP h1) fun y ⟨hy,h2⟩=>.bind (aQP h2) fun z ⟨hz,h3⟩=>.bind (aQP h3) fun w ⟨hw,h4⟩=>.need (by omega) (.ret ⟨?_,h4⟩);have e:bE (bE (bE (bE (x.1*16777216)+bE (y.1*65536))+bE (z.1*256))+w.1)=x.1*16777216+y.1*65536+z.1*256+w.1:=by grind[aP]
   simp only[e];rw[MD (by omega)];exact⟨Int.emod_nonneg _ (by omega),.inl (Int.emod_lt_of_pos _ q0)⟩
theorem bCV{n:Int}(hn:n<=1000000):CH (UT ⟨b,i,h⟩ n) (fun x=>Cu b x.2.1):=
 .bind (below hc hn) fun _ ⟨_,h1⟩=>.ret h1
theorem aMC{l:List Int}(hl:0<l.length)(hl2:l.length<=1000):CH (nS ⟨b,i,h⟩ l) (fun x=>x.1∈l/\Cu b x.2.1):=
 .bind (below hc (by omega)) fun x ⟨hx,h1⟩=>.bind (.idx (by omega)) fun y hy=>.ret ⟨hy,h1⟩
end
theorem bEU{code:List UInt8}(hl:code.length<=1048576):CH (RR code) (fun x=>Cu code x.1):=by
 unfold RR;refine .bind (P:=fun _=>True) (.loop (fun s=>code.length - s.2.toNat) (fun s=>0<=s.2/\s.2<=code.length) ⟨by simp,by simp⟩ ?_) fun x _=>.ret ⟨⟨by simp,by simp⟩,hl⟩;rintro⟨a,k⟩ ⟨h1,h2⟩;simp only[YC,GR];simp only at h1 h2;have nx:k<code.length->CH ((idx code k).bind fun x7=>some (Step.next (iI .and .i64 (bE ((bE ((bE (a*131))+(x7.toNat:Int)))+7)) 1073741823,bE (k+1)))) (a8P (ρ:=Int) (fun s'=>(0<=s'.2/\s'.2<=code.length)/\code.length - s'.2.toNat<code.length - k.toNat) (fun r=>True)):=fun hk=>by refine .bind (.idx ⟨h1,hk⟩) fun x _=>.ret ?_;grind[aP]
 refine .ite (fun q=>?_) (fun q=>?_)
 ·have q':=of_decide_eq_true q;exact .ite (fun _=>nx q') (fun _=>.ret trivial)
 ·rw[if_neg (by simp)];exact .ret trivial
end Go.Gv
end
noncomputable section
namespace Go.Gv
def Hk(h:Heap):Prop:=h.Bytes.length=384/\h.Class.length=6
def Wk(m:Mem):Prop:=Hk m.Heap/\m.aD.Global.length=3/\m.aD.Own.length=9/\(iE m.aD).length<=24
theorem mO.wk{m:Mem}(hm:mO m):Wk m:=by obtain⟨a,b,c,d,e,_⟩:=mO.facts hm;exact⟨⟨d,e⟩,b,c,a⟩
theorem Wk.small{m:Mem}(h:Wk m):zF m:=by obtain⟨⟨a,b⟩,c,d,e⟩:=h;exact⟨by omega,by omega,by omega,by omega,by omega⟩
end Go.Gv
end
noncomputable section
namespace Go.Gv
theorem aX2(b:aC)(w:Int)(s:Sub):(i4 b w s).2.Kind=s.Kind:=by unfold i4 WE MK vQ eZ dD yG xD;grind
theorem MM{b:aC}{w:Int}{s:Sub}(h:s.Kind=1\/s.Kind=2\/s.Kind=4):(i4 b w s).1.aA=b.aA:=by
 unfold i4;rcases h with k | k | k
 ·simp only[k,if_true];unfold WE MK;grind
 ·simp only[k];unfold vQ;grind
 ·simp only[k];unfold dD;grind
theorem yH{c:aA}(hc:JG c){w v:Int}(hw:0<=w/\w<=2)(hv:0<=v/\v<=2)(e:Int)(x:vR):cW ⟨e,c.cH.set w.toNat x⟩ v=if v=w then x else cW c v:=by have h3:=hc.2.1;unfold cW;grind
def pT(j:Job):Prop:=j.bX=true/\(j.Op.Kind=2\/j.Op.Kind=5)/\j.Pc=0
def Adv(j:Job):Prop:=j.bX=true/\j.Op.Kind=4/\j.Pc=0
def JI(e:Int)(p:vR)(j:Job):Prop:=j.bX=true ->
 (j.Op.Kind=1->j.Sub.Kind=1\/j.Sub.Kind=2)/\(j.Op.Kind=4->j.Pc=1->j.Sub.Kind=4) /\
 (Adv j->j.Sub.Kind=3/\j.Sub.cJ=false/\(j.Sub.Pc=0\/j.Sub.E<=e/\(j.Sub.Pc=1/\(0<=j.Sub.B/\j.Sub.B<=2)\/j.Sub.Pc=2/\j.Sub.B=3))) /\
 (pT j->j.Sub.Kind=5/\j.Sub.cJ=false/\(j.Sub.Pc=0\/j.Sub.Pc=1/\(0<=j.Sub.E/\j.Sub.E<=e)\/j.Sub.Pc=2/\p.aG=j.Sub.E))
def Calm(j:Job):Prop:=¬pT j/\¬Adv j/\(j.Op.Kind=1->j.Sub.Kind=1\/j.Sub.Kind=2)/\(j.Op.Kind=4->j.Pc=1->j.Sub.Kind=4)
theorem Calm.ji{j:Job}(h:Calm j)(e:Int)(p:vR):JI e p j:=fun _=>⟨h.2.2.1,h.2.2.2,fun q=>absurd q h.2.1,fun q=>absurd q h.1⟩
def Ep(c:aA)(J:Int->Job):Prop:=(∀w,0<=w/\w<=2->JI c.aG (cW c w) (J w))/\∀p,0<=p/\p<=2->¬pT (J p)->(cW c p).On=true->(cW c p).fU=false->c.aG<=(cW c p).aG+1/\(c.aG=(cW c p).aG+1->∀a,0<=a/\a<=2->Adv (J a)->(J a).Sub.Pc≠0->(J a).Sub.E=c.aG->(J a).Sub.B<=p)
def upJ(J:Int->Job)(w:Int)(j:Job):Int->Job:=fun v=>if v=w then j else J v
theorem E8(J:Int->Job)(w:Int)(j:Job):upJ J w j w=j:=if_pos rfl
theorem o6(J:Int->Job){w v:Int}(j:Job)(h:v≠w):upJ J w j v=J v:=if_neg h
noncomputable section
variable {c:aA} {J:Int->Job} (h:Ep c J)
include h
theorem Ep.congr{J':Int->Job}(e:∀v,0<=v/\v<=2->J' v=J v):Ep c J':=by refine⟨fun w hw=>by rw[e w hw];exact h.1 w hw,fun p hp hn h1 h2=>?_⟩;rw[e p hp] at hn;obtain⟨a1,a2⟩:=h.2 p hp hn h1 h2;grind
variable {w:Int} (hw:0<=w/\w<=2) {j:Job}
include hw
theorem Ep.step{c':aA}(he:c'.aG=c.aG)(hp:∀v,0<=v/\v<=2->v≠w->cW c' v=cW c v)(hj:JI c.aG (cW c' w) j)
  (h2:¬pT j->(cW c' w).On=true->(cW c' w).fU=false->c.aG<=(cW c' w).aG+1/\(c.aG=(cW c' w).aG+1->∀a,0<=a/\a<=2->a≠w->Adv (J a)->(J a).Sub.Pc≠0->(J a).Sub.E=c.aG->(J a).Sub.B<=w))
  (ha:Adv j->j.Sub.Pc=0\/j.Sub.B=0):Ep c' (upJ J w j):=by
 constructor
 ·intro v hv;rw[he];by_cases q:v=w
  ·grind[E8]
  ·rw[o6 _ _ q,hp v hv q];exact h.1 v hv
 ·intro p hpr hn o1 o2;rw[he];have hadv:∀a,0<=a/\a<=2->(∀q:a≠w,Adv (J a)->(J a).Sub.Pc≠0->(J a).Sub.E=c.aG->(J a).Sub.B<=p)->Adv (upJ J w j a)->(upJ J w j a).Sub.Pc≠0->(upJ J w j a).Sub.E=c.aG->(upJ J w j a).Sub.B<=p:=by grind[E8,o6]
  by_cases q:p=w
  ·grind[E8]
  ·rw[o6 _ _ q] at hn;rw[hp p hpr q] at o1 o2 ⊢;obtain⟨a1,a2⟩:=h.2 p hpr hn o1 o2;grind
theorem Ep.still(hn:¬pT (J w))(hj:Calm j):Ep c (upJ J w j):=
 h.step hw rfl (fun _ _ _=>rfl) (hj.ji _ _) (fun _ o1 o2=>by
  obtain⟨a1,a2⟩:=h.2 w hw hn o1 o2;grind) (fun q=>absurd q hj.2.1)
theorem Ep.bCW(hc:JG c)(hn:¬pT (J w))(hj:Calm j):Ep (JL c w).1 (upJ J w j):=by
 unfold JL;by_cases q:(cW c w).On
 ·rw[if_pos q];refine h.step hw rfl (fun v hv hvw=>by simp_all[yH]) (hj.ji _ _) (fun _ o1=>?_) (fun q=>absurd q hj.2.1);simp_all[yH]
 ·rw[if_neg q];exact h.still hw hn hj
theorem Ep.pin{b:aC}(hb:b.aA=c)(hc:JG c)(hj:J w=j)(hP:pT j){fin:Job}(hf:Calm fin) :
  Ep (yG b w j.Sub).1.aA (upJ J w (if(yG b w j.Sub).2.cJ then fin else {j with Sub:=(yG b w j.Sub).2})):=by
 have hji:=h.1 w hw;rw[hj] at hji;have hk5:=hP.2.1;obtain⟨k,d,hpc⟩:=(hji hP.1).2.2.2 hP;have noadv:∀s:Sub,¬Adv {j with Sub:=s}:=fun s q=>by have:=q.2.1;grind
 have hP':∀s:Sub,pT {j with Sub:=s}:=fun s=>hP;have mk:∀(s:Sub) (p:vR),(s.Kind=5/\s.cJ=false/\(s.Pc=0\/s.Pc=1/\(0<=s.E/\s.E<=c.aG)\/s.Pc=2/\p.aG=s.E))->JI c.aG p {j with Sub:=s}:=fun s p hs _=>⟨fun q=>by grind,fun q=>by grind,fun q=>absurd q (noadv s),fun _=>hs⟩;unfold yG;rw[hb];rcases hpc with p0 | ⟨p1,e0,e1⟩ | ⟨p2,pe⟩
 ·simp only[if_pos p0,d,bT,if_false,hb];exact h.step hw rfl (fun _ _ _=>rfl) (mk _ _ ⟨k,rfl,.inr (.inl ⟨rfl,hc.1.1,K6 _⟩)⟩) (fun q=>absurd (hP' _) q) (fun q=>absurd q (noadv _))
 ·have hpt:PH c w j.Sub.E=(⟨c.aG,c.cH.set w.toNat ⟨true,j.Sub.E,false,0⟩⟩,true):=by simp_all[PH]
  simp only[if_neg (show ¬j.Sub.Pc=0 by omega),if_pos p1,hpt,if_true,d,bT,if_false];exact h.step hw rfl (fun v hv hvw=>by simp_all[yH]) (mk _ _ ⟨k,rfl,.inr (.inr ⟨rfl,by simp_all[yH]⟩)⟩) (fun q=>absurd (hP' _) q) (fun q=>absurd q (noadv _))
 ·simp only[if_neg (show ¬j.Sub.Pc=0 by omega),if_neg (show ¬j.Sub.Pc=1 by omega),if_pos p2];by_cases q:c.aG=j.Sub.E
  ·simp only[if_pos q,xD,if_true,hb];exact h.step hw rfl (fun _ _ _=>rfl) (hf.ji _ _) (fun _ _ _=>⟨by omega,fun e=>by omega⟩) (fun q=>absurd q hf.2.1)
  ·simp only[if_neg q,d,bT,if_false,hb];exact h.step hw rfl (fun _ _ _=>rfl) (mk _ _ ⟨k,rfl,.inl rfl⟩) (fun q=>absurd (hP' _) q) (fun q=>absurd q (noadv _))
omit h hw in
theorem aJE(hc:JG c){q:Int}(hq:0<=q/\q<=2)(e:Int):(FV c q e).1.aG=c.aG/\(∀v,0<=v/\v<=2->(cW (FV c q e).1 v).On=(cW c v).On/\(cW (FV c q e).1 v).aG=(cW c v).aG/\((cW (FV c q e).1 v).fU=false->(cW c v).fU=false)) /\
  ((FV c q e).2=true->(cW (FV c q e).1 q).On=true->(cW (FV c q e).1 q).fU=false->(cW c q).aG=e):=by
 unfold FV;by_cases k1:(cW c q).On=false\/(cW c q).fU=true\/(cW c q).aG=e
 ·grind
 ·rw[if_neg k1];by_cases k2:(cW c q).Seen=2
  ·rw[if_pos k2];refine⟨rfl,fun v hv=>?_,fun _ _ o2=>?_⟩
   ·rw[yH hc hq hv];grind
   simp_all[yH]
  ·rw[if_neg k2];refine⟨rfl,fun v hv=>?_,fun x=>by cases x⟩;rw[yH hc hq hv];grind
theorem Ep.advance{b:aC}(hb:b.aA=c)(hc:JG c)(hj:J w=j)(hA:Adv j){fin:Job}(hf:Calm fin) :
  Ep (eZ b j.Sub).1.aA (upJ J w (if(eZ b j.Sub).2.cJ then fin else {j with Sub:=(eZ b j.Sub).2})):=by
 have hji:=h.1 w hw;rw[hj] at hji;have hk4:=hA.2.1;obtain⟨k,d,hpc⟩:=(hji hA.1).2.2.1 hA;have nopin:∀s:Sub,¬pT {j with Sub:=s}:=fun s q=>by have:=q.2.1;grind
 have nopw:¬pT (J w):=by simp_all
 have mk:∀(s:Sub) (p:vR) (e:Int),(s.Kind=3/\s.cJ=false/\(s.Pc=0\/s.E<=e/\(s.Pc=1/\(0<=s.B/\s.B<=2)\/s.Pc=2/\s.B=3)))->JI e p {j with Sub:=s}:=fun s p e hs _=>⟨fun q=>by grind,fun _ q=>by simp only at q;have:=hA.2.2;omega,fun _=>hs,fun q=>absurd q (nopin s)⟩;unfold eZ;rw[hb];rcases hpc with p0 | ⟨el,⟨p1,B0,B2⟩ | ⟨p2,B3⟩⟩
 ·simp only[if_pos p0,d,bT,if_false,hb];refine h.step hw rfl (fun _ _ _=>rfl) (mk _ _ _ ⟨k,rfl,.inr ⟨K6 _,.inl ⟨rfl,by simp,by simp⟩⟩⟩) (fun _ o1 o2=>?_) (fun _=>.inr rfl);obtain⟨a1,a2⟩:=h.2 w hw nopw o1 o2;grind
 ·obtain⟨le,lv,lq⟩:=aJE hc (q:=j.Sub.B) ⟨B0,B2⟩ j.Sub.E;simp only[if_neg (show ¬j.Sub.Pc=0 by omega),if_pos p1,if_pos (show 0<=j.Sub.B/\j.Sub.B<=2 from⟨B0,B2⟩)];have others:∀v,0<=v/\v<=2->JI (FV c j.Sub.B j.Sub.E).1.aG (cW (FV c j.Sub.B j.Sub.E).1 v) (J v):=fun v hv=>by have:=h.1 v hv;rw[le];intro hbv;obtain⟨x1,x2,x3,x4⟩:=this hbv;grind
  cases hl:(FV c j.Sub.B j.Sub.E).2
  ·simp only[bT,if_false,xD,if_true];refine⟨fun v hv=>?_,fun p hp hn o1 o2=>?_⟩
   ·by_cases q:v=w
    ·subst q;rw[E8];exact hf.ji _ _
    grind[o6]
   ·have hn':¬pT (J p):=by grind[o6]
    obtain⟨y1,y2,y3⟩:=lv p hp;rw[y1] at o1;obtain⟨a1,a2⟩:=h.2 p hp hn' o1 (y3 o2);rw[le,y2];refine⟨a1,fun e a har=>?_⟩;by_cases q:a=w
    ·subst q;rw[E8];exact fun q=>absurd q hf.2.1
    grind[o6]
  ·simp only[if_true,d,bT,if_false];refine⟨fun v hv=>?_,fun p hp hn o1 o2=>?_⟩
   ·by_cases q:v=w
    ·subst q;rw[E8,le];grind
    grind[o6]
   ·have hn':¬pT (J p):=by grind[o6]
    obtain⟨y1,y2,y3⟩:=lv p hp;have o1':=o1;rw[y1] at o1';obtain⟨a1,a2⟩:=h.2 p hp hn' o1' (y3 o2);grind[E8,o6]
 ·simp only[if_neg (show ¬j.Sub.Pc=0 by omega),if_neg (show ¬j.Sub.Pc=1 by omega),if_pos p2,xD,if_true];unfold aD9;by_cases q:c.aG=j.Sub.E/\j.Sub.E≠100000
  ·simp only[if_pos q];refine⟨fun v hv=>?_,fun p hp hn o1 o2=>?_⟩
   ·by_cases z:v=w
    ·subst z;rw[E8];exact hf.ji _ _
    ·rw[o6 _ _ z];intro hbv;obtain⟨x1,x2,x3,x4⟩:=h.1 v hv hbv;refine⟨x1,x2,fun q=>?_,fun q=>?_⟩
     ·grind
     ·obtain⟨z1,z2,z3⟩:=x4 q;exact⟨z1,z2,z3.imp id fun z4=>z4.imp (fun z5=>⟨z5.1,z5.2.1,by grind⟩) id⟩
   ·have hn':¬pT (J p):=by grind[o6]
    have o1':(cW c p).On=true:=o1;have o2':(cW c p).fU=false:=o2;obtain⟨a1,a2⟩:=h.2 p hp hn' o1' o2';have hpk:=(aI8 hc hp).1.2;have hne:c.aG≠(cW c p).aG+1:=fun e=>by grind
    have hep:cW ⟨j.Sub.E+1,c.cH⟩ p=cW c p:=rfl;rw[hep];refine⟨by grind,fun e a har hA' hp' hE'=>?_⟩;exfalso;by_cases z:a=w
    ·subst z;rw[E8] at hA';exact hf.2.1 hA'
    ·rw[o6 _ _ z] at hA' hp' hE';obtain⟨_,_,z3⟩:=(h.1 a har hA'.1).2.2.1 hA';omega
  ·simp only[if_neg q];exact h.still hw nopw hf
end
end Go.Gv
end
noncomputable section
namespace Go.Gv
theorem aDL{b:aC}(hb:nC b){w:Int}(hw:0<=w/\w<=2)(s:Sub):qA s b w=some ((i4 b w s).2,(i4 b w s).1):=by obtain⟨x,y,e1,e2,h⟩:=step_eq hb hb.small hw s;grind[aVV]
end Go.Gv
end
noncomputable section
namespace Go.Gv
def dP:aE:=⟨false,⟨false,[]⟩,0,0,0,0,0,0,0,0,aQO,false,0,⟨0,0,0,0,0,0,0,0,0,false⟩,[],[],[],[],[],[]⟩
def iP(k:List bY)(i:Int):bY:=k.getD i.toNat ⟨0,0,0⟩
def FD(j:aE)(c:Int):aE:={j with Pc:=16,Code:=c}
def UB(a b:Int):Int:=Int.tmod (bE (a+b)) 65536
def zI(j:aE)(x:aS):Bool×aE:=if 6<(J0 j.aB x).length then(false,FD j 1) else(true,{j with aB:=J0 j.aB x})
def aB0(j:aE)(is:Bool)(v:Int):aE:={j with dJ:=j.dJ ++ [⟨is,v⟩],Pc:=1,At:=j.At+1}
def aJF(j:aE)(c:iT)(v:Int):aE:=if(zI j ⟨c.Key,false,UB v c.dO⟩).1 then aB0 (zI j ⟨c.Key,false,UB v c.dO⟩).2 true (UB v c.dO) else(zI j ⟨c.Key,false,UB v c.dO⟩).2
def JM(j:aE)(c:iT)(v:Int)(is:Bool):aE:=if c.Kind=4 then aJF j c (if is then v else 0) else aB0 j is (if is then v else 0)
def fK(j:aE):iT:=j.Batch.aY.getD j.At.toNat ⟨0,0,0⟩
def AL(j:aE):Prop:=j.At<j.Batch.aY.length
instance (j:aE):Decidable (AL j):=by unfold AL;infer_instance
def WJ(j:aE):aE:=
 if AL j then
  if(fK j).Kind=2\/(fK j).Kind=3 then
   if(zI j ⟨(fK j).Key,(fK j).Kind == 3,(fK j).dO⟩).1 then {(zI j ⟨(fK j).Key,(fK j).Kind == 3,(fK j).dO⟩).2 with At:=j.At+1,dJ:=j.dJ ++ [⟨false,0⟩]}
   else(zI j ⟨(fK j).Key,(fK j).Kind == 3,(fK j).dO⟩).2
  else if(aFU j.aB (fK j).Key).2 then JM j (fK j) (aFU j.aB (fK j).Key).1.dO (!(aFU j.aB (fK j).Key).1.FR)
  else {j with Pc:=2,bY:=oJ (fK j).Key}
 else {j with Pc:=6,K:=0,Sub:=zG 1 16}
def J1(b:aC)(k:List bY)(w:Int)(j:aE):aE:=
 if j.Pc=2 then
  if(iP k j.bY).gP≠0 then FD j 7
  else {j with fX:=(iP k j.bY).fX,H:=(iP k j.bY).Head,Found:=false,Node:=aQO,Pc:=if(iP k j.bY).Head=0 then 5 else 3}
 else if j.Pc=3 then {j with Node:=WI b.Mem.Heap j.H,Pc:=4}
 else if j.Pc=4 then
  if ¬((cW b.aA w).On=true/\(cW b.aA w).fU=false) then FD j 6
  else if AL j then {j with Found:=j.Node.Key == (fK j).Key,H:=Q9 j.Node,Pc:=if j.Node.Key=(fK j).Key\/Q9 j.Node=0 then 5 else 3}
  else FD j 1
 else
  if(iP k j.bY).gP≠0\/(iP k j.bY).fX≠j.fX then FD j 7
  else if(FU j.Reads j.bY j.fX).2=false then FD {j with Reads:=(FU j.Reads j.bY j.fX).1} 7
  else if AL j then JM {j with Reads:=(FU j.Reads j.bY j.fX).1} (fK j) j.Node.dO j.Found
  else FD {j with Reads:=(FU j.Reads j.bY j.fX).1} 1
def IM(b:aC)(w:Int)(j:aE):aC×aE:=
 if fS j.aB j.aB.length<=j.K then(b,{j with Pc:=7,K:=0})
 else((i4 b w j.Sub).1,
  if(i4 b w j.Sub).2.cJ=false then {j with Sub:=(i4 b w j.Sub).2}
  else if(i4 b w j.Sub).2.Code≠0\/¬lW (i4 b w j.Sub).2.Out\/6<=j.dF.length then FD {j with Sub:=(i4 b w j.Sub).2} (i4 b w j.Sub).2.Code
  else {j with dF:=j.dF ++ [(i4 b w j.Sub).2.Out],K:=j.K+1,Sub:=zG 1 16})
def gR(j:aE):Int:=(qI j.aB).getD j.K.toNat 0
def PI(j:aE):aE:={j with aQ:=if gR j∈j.aQ then j.aQ else j.aQ ++ [gR j],K:=j.K+1}
def PJ(k:List bY)(w:Int)(j:aE):List bY×aE×Bool:=
 if j.K<(qI j.aB).length then
  if(iP k (gR j)).gP≠0\/(j.Reads.any fun s=>s.bY == gR j && s.fX != (iP k (gR j)).fX)=true then(k,FD j 7,false)
  else if(iP k (gR j)).fX=1000000 then(k,FD j 3,false)
  else if(qI j.aB).length<=j.K+1 then(k.set (gR j).toNat {iP k (gR j) with gP:=w+1},{PI j with Pc:=8,K:=0},true)
  else(k.set (gR j).toNat {iP k (gR j) with gP:=w+1},PI j,false)
 else(k,{j with Pc:=8,K:=0},true)
def rdN(j:aE):Seen:=j.Reads.getD j.K.toNat ⟨0,0⟩
def X5(k:List bY)(w:Int)(j:aE):aE:=
 if j.Reads.length<=j.K then {j with Pc:=9,K:=0}
 else if((iP k (rdN j).bY).gP≠0/\(iP k (rdN j).bY).gP≠w+1)\/(iP k (rdN j).bY).fX≠(rdN j).fX then FD j 7
 else {j with K:=j.K+1}
def PO(j:aE)(x:aS):aE:=if x.FR then {j with Pc:=9,K:=j.K+1} else {j with Pc:=12}
def rX(j:aE):aS:=j.aB.getD j.K.toNat ⟨0,false,0⟩
def FJ(j:aE):Int:=j.dF.getD (fS j.aB j.K).toNat 0
def SN(j:aE):aE:=if lW j.H/\j.bA.length<6 then {j with bA:=j.bA ++ [j.H]} else j
def E9(b:aC)(k:List bY)(j:aE):aC×List bY×aE:=
 if j.aB.length<=j.K then(b,k,{j with Pc:=14})
 else if j.Pc=9 then(b,k,if(iP k (oJ (rX j).Key)).Head=0 then PO {j with Pc:=10,H:=(iP k (oJ (rX j).Key)).Head,dB:=0} (rX j) else {j with Pc:=10,H:=(iP k (oJ (rX j).Key)).Head,dB:=0})
 else if j.Pc=10 then
  (b,k,if(WI b.Mem.Heap j.H).Key=(rX j).Key then {j with Pc:=11,Node:=WI b.Mem.Heap j.H}
   else if Q9 (WI b.Mem.Heap j.H)=0 then PO {j with Node:=WI b.Mem.Heap j.H} (rX j)
   else {j with H:=Q9 (WI b.Mem.Heap j.H),dB:=j.H,Node:=WI b.Mem.Heap j.H})
 else if j.Pc=11 then
  if j.dB=0 then(b,k.set (oJ (rX j).Key).toNat {iP k (oJ (rX j).Key) with Head:=Q9 j.Node},PO (SN j) (rX j))
  else({b with Mem:=Gv.aEC b.Mem j.dB (Q9 j.Node)},k,PO (SN j) (rX j))
 else if j.dF.length<=fS j.aB j.K then(b,k,FD j 1)
 else if j.Pc=12 then({b with Mem:=aBZ b.Mem (FJ j) ⟨(rX j).Key,(rX j).dO,(iP k (oJ (rX j).Key)).Head⟩},k,{j with Pc:=13})
 else(b,k.set (oJ (rX j).Key).toNat {iP k (oJ (rX j).Key) with Head:=FJ j},{j with Pc:=9,K:=j.K+1})
def SO(j:aE):aE:=if j.K<j.bA.length then {j with Sub:=zG 2 (j.bA.getD j.K.toNat 0)} else j
def AM(j:aE):Int:=j.aQ.getD 0 0
def PK(k:List bY)(j:aE):List bY×aE:=
 if 0<j.aQ.length then
  (k.set (AM j).toNat (if j.Pc=14 then⟨(iP k (AM j)).Head,if 1000000<(iP k (AM j)).fX+1 then 1000000 else(iP k (AM j)).fX+1,0⟩ else {iP k (AM j) with gP:=0}),{j with aQ:=j.aQ.drop 1})
 else if j.Pc=16 then(k,{j with Pc:=17})
 else(k,SO {j with Pc:=15,K:=0})
def MN(b:aC)(w:Int)(j:aE):aC×aE:=
 if j.bA.length<=j.K then(b,{j with Pc:=18})
 else((i4 b w j.Sub).1,if(i4 b w j.Sub).2.cJ then SO {j with K:=j.K+1,Sub:=(i4 b w j.Sub).2} else {j with Sub:=(i4 b w j.Sub).2})
def aTJ(m:Mem)(w x:Int):Mem:=if m5 m x then rW m w x else m
def KX(b:aC)(w:Int)(j:aE):aC×aE:=
 if j.dF.length=0 then(b,{j with Pc:=18})
 else(if aQ b.aN (j.dF.getD 0 0 % 32) then b else {b with Mem:=aTJ b.Mem w (j.dF.getD 0 0)},{j with dF:=j.dF.drop 1})
def zJ(b:aC)(w:Int)(j:aE):aC×aE:=
 ((i4 b w j.Sub).1, if(i4 b w j.Sub).2.cJ = false then {j with Sub := (i4 b w j.Sub).2}
  else if j.Pc=0 then {j with Pc:=1,Sub:=(i4 b w j.Sub).2}
  else if j.Pc=20 then {j with Pc:=21,Sub:=zG 4 0}
  else {j with Pc:=19,Sub:=(i4 b w j.Sub).2})
def tlE(w:Int)(j:aE):lV:=⟨3,w,j.aI,j.Code,[],if j.Code=0 then j.dJ else []⟩
structure TR where
 b:aC
 k:List bY
 j:aE
 l:List lV
def JN(b:aC)(k:List bY)(w:Int)(j:aE):TR:=
 if j.Pc=0\/j.Pc=20\/j.Pc=21 then⟨(zJ b w j).1,k,(zJ b w j).2,[]⟩
 else if j.Pc=1 then⟨b,k,WJ j,[]⟩
 else if 2<=j.Pc/\j.Pc<=5 then⟨b,k,J1 b k w j,[]⟩
 else if j.Pc=6 then⟨(IM b w j).1,k,(IM b w j).2,[]⟩
 else if j.Pc=7 then⟨b,(PJ k w j).1,(PJ k w j).2.1,if(PJ k w j).2.2 then [⟨2,w,j.aI,0,[],[]⟩] else []⟩
 else if j.Pc=8 then⟨b,k,X5 k w j,[]⟩
 else if 9<=j.Pc/\j.Pc<=13 then⟨(E9 b k j).1,(E9 b k j).2.1,(E9 b k j).2.2,[]⟩
 else if j.Pc=14\/j.Pc=16 then⟨b,(PK k j).1,(PK k j).2,[]⟩
 else if j.Pc=15 then⟨(MN b w j).1,k,(MN b w j).2,[]⟩
 else if j.Pc=17 then⟨(KX b w j).1,k,(KX b w j).2,[]⟩
 else if j.Pc=18 then⟨{b with aA:=(JL b.aA w).1},k,{j with Pc:=19},[]⟩
 else if j.Pc=19 then⟨b,k,dP,[tlE w j]⟩
 else⟨b,k,FD j 1,[]⟩
def bK(t:Table)(w:Int):aE:=t.aO.getD w.toNat dP
def vU(t:Table)(w:Int):List Batch:=(t.dU.getD w.toNat ⟨[]⟩).List
def mE(b:Batch)(s:Int):aE:=⟨true,b,s,if b.Collect then 20 else 0,0,0,0,0,0,0,aQO,false,0,if b.Collect then zG 3 0 else zG 5 0,[],[],[],[],[],[]⟩
def M5(t:Table)(w:Int)(b:Batch):Table:=⟨t.aC,t.b8,t.aO.set w.toNat (mE b (t.aI+1)),t.dU.set w.toNat ⟨(vU t w).drop 1⟩,t.Log ++ [⟨1,w,t.aI+1,0,b.aY,[]⟩],t.aI+1⟩
def KY(t:Table)(w:Int)(r:TR):Table:=⟨r.b,r.k,t.aO.set w.toNat r.j,t.dU,t.Log++r.l,t.aI⟩
def kP(t:Table)(w:Int):Table:=
 if(bK t w).bX then KY t w (JN t.aC t.b8 w (bK t w))
 else if(vU t w).length=0\/t.aI=1000000 then t else M5 t w ((vU t w).getD 0 ⟨false,[]⟩)
def X6(c:iT):Prop:=(1<=c.Kind/\c.Kind<=4)/\(0<=c.Key/\c.Key<=99)/\(0<=c.dO/\c.dO<=65535)/\(c.Kind=2\/c.Kind=4\/c.dO=0)
instance (c:iT):Decidable (X6 c):=by unfold X6;infer_instance
def X7(b:Batch):Prop:=(b.Collect=true->b.aY=[])/\b.aY.length<=6/\(∀c∈b.aY,X6 c)/\(b.Collect=false->1<=b.aY.length)
instance (b:Batch):Decidable (X7 b):=by unfold X7;infer_instance
def QuV(q:aL):Prop:=q.List.length<=12/\∀b∈q.List,X7 b
instance (q:aL):Decidable (QuV q):=by unfold QuV;infer_instance
def WK(l:List aL):Prop:=l.length=3/\∀q∈l,QuV q
instance (l:List aL):Decidable (WK l):=by unfold WK;infer_instance
def BkV(b:bY):Prop:=oS b.Head/\(0<=b.fX/\b.fX<=1000000)/\(0<=b.gP/\b.gP<=3)
def WrV(l:List aS):Prop:=l.length<=6/\(∀x∈l,(0<=x.Key/\x.Key<=99)/\(0<=x.dO/\x.dO<=65535))/\l.Pairwise (fun x y=>x.Key<y.Key)
structure JB (j:aE):Prop where
 busy:j.bX=true
 ZX:X7 j.Batch
 h:oS j.H
 prev:oS j.dB
 bkt:0<=j.bY/\j.bY<=1
 at_:0<=j.At/\j.At<=j.Batch.aY.length
 k:0<=j.K/\j.K<=6
 new:j.dF.length<=6/\∀x∈j.dF,lW x
 old:j.bA.length<=6/\∀x∈j.bA,lW x
 reads:(∀s∈j.Reads,0<=s.bY/\s.bY<=1)/\(j.Reads.map Seen.bY).Nodup
 wr:WrV j.aB
 held:(∀x∈j.aQ,0<=x/\x<=1)/\j.aQ.Nodup
 res:(j.dJ.length:Int)=j.At
 node:0<=j.Node.dO/\j.Node.dO<=4294967295
structure TV (t:Table):Prop where
 base:nC t.aC
 bk:t.b8.length=2/\∀x∈t.b8,BkV x
 K0:t.aO.length=3/\∀j∈t.aO,j=dP\/JB j
 todo:WK t.dU
 ser:0<=t.aI/\t.aI<=1000000
end Go.Gv
end
noncomputable section
namespace Go.Gv
theorem aMD{j:aE}(hw:j.aB.length<=1000)(x:aS):rM j x=some (zI j x):=by
 unfold rM zI;rw[aDI hw,aK];by_cases h:6<(J0 j.aB x).length
 ·rw[if_pos (by simp;omega),if_pos h];rfl
 grind
theorem aDM(j:aE)(x:aS):(zI j x).2.dJ=j.dJ/\(zI j x).2.At=j.At:=by grind[zI,FD]
theorem aME{j:aE}(hw:j.aB.length<=1000)(hr:j.dJ.length<=1000)(ha:0<=j.At/\j.At<=1000)(c:iT)(v:Int)(is:Bool):rN j c v is=some (JM j c v is):=by
 have key:∀u,mV j c is u=some (if c.Kind=4 then aJF j c u else aB0 j is u):=fun u=>by
  unfold mV;by_cases hk:c.Kind=4
  ·rw[if_pos (by grind),if_pos hk];unfold Y9 aJF;rw[aK,show Int.tmod (bE (u+c.dO)) 65536=UB u c.dO from rfl,aMD hw,aK];obtain⟨e1,e2⟩:=aDM j ⟨c.Key,false,UB u c.dO⟩;cases h:(zI j ⟨c.Key,false,UB u c.dO⟩).1
   ·simp
   ·rw[if_neg (by simp),if_pos rfl];grind[mU,qP,aB0,aM,aP]
  ·rw[if_neg (by grind),if_neg hk];grind[mU,qP,aB0,aM,aP]
 unfold rN JM;grind
theorem aJG{j:aE}(hl:j.Batch.aY.length<=1000)(ha:0<=j.At):pK j=some (if AL j then(fK j,true,j) else(⟨0,0,0⟩,false,j)):=by
 unfold pK fK;rw[dL,aK,aP (by omega) (by omega)];by_cases hc:AL j
 ·have h:j.At<j.Batch.aY.length:=hc;rw[cZ (by omega),if_neg (by simp),if_pos hc,iC ha h,aK];grind
 ·have h:¬j.At<j.Batch.aY.length:=hc;grind
theorem a2P{j:aE}(hl:j.Batch.aY.length<=1000)(hw:j.aB.length<=1000)(hr:j.dJ.length<=1000)(ha:0<=j.At/\j.At<=1000):EC j=some (WJ j):=by
 unfold EC WJ;rw[aJG hl ha.1,aK];by_cases h:AL j
 ·rw[if_pos h,if_pos h];have put:j6 (fK j,true,j) true j=some (if(zI j ⟨(fK j).Key,(fK j).Kind == 3,(fK j).dO⟩).1 then {(zI j ⟨(fK j).Key,(fK j).Kind == 3,(fK j).dO⟩).2 with At:=j.At+1,dJ:=j.dJ ++ [⟨false,0⟩]} else(zI j ⟨(fK j).Key,(fK j).Kind == 3,(fK j).dO⟩).2):=by
   unfold j6;rw[if_pos rfl,aMD hw,aK];obtain⟨e1,e2⟩:=aDM j ⟨(fK j).Key,(fK j).Kind == 3,(fK j).dO⟩;cases (zI j ⟨(fK j).Key,(fK j).Kind == 3,(fK j).dO⟩).1
   ·rw[if_neg (by simp),if_neg (by simp)]
   ·rw[if_pos rfl,if_pos rfl,aM (by rw[e1];simp;omega)];simp only[e1,e2];rw[aP (by omega) (by omega)]
  have get:j6 (fK j,true,j) false j=some (if(aFU j.aB (fK j).Key).2 then JM j (fK j) (aFU j.aB (fK j).Key).1.dO (!(aFU j.aB (fK j).Key).1.FR) else {j with Pc:=2,bY:=oJ (fK j).Key}):=by
   unfold j6 EB;rw[if_neg (by simp),aFV hw,aK];cases (aFU j.aB (fK j).Key).2
   ·rw[if_neg (by simp),if_neg (by simp),PC];rfl
   ·rw[if_pos rfl,if_pos rfl,aME hw hr ha];rfl
  grind
 ·rw[if_neg h,if_neg h];rfl
theorem BL{t:Table}{w:Int}(h3:t.aO.length=3)(hw:0<=w/\w<=2):idx t.aO w=some (bK t w):=by grind[iC,bK]
theorem aDN{k:List bY}{i:Int}(h2:k.length=2)(hi:0<=i/\i<=1):idx k i=some (iP k i):=by grind[iC,iP]
theorem aB1{α:Type}{l:List α}{i:Int}{x:α}(h:0<=i/\i<l.length):idx (l.set i.toNat x) i=some x:=by grind[iC]
theorem KZ{t:Table}{w:Int}(h3:t.aO.length=3)(hw:0<=w/\w<=2):bK t w∈t.aO:=by grind[bK]
def aQQ(t:Table)(w:Int)(j:aE):Table:={t with aO:=t.aO.set w.toNat j}
noncomputable section
variable {t:Table} {w:Int} (h3:t.aO.length=3) (h2:t.b8.length=2) (hb:nC t.aC) (hw:0<=w/\w<=2) (hj:JB (bK t w))
include h3 h2 hb hw hj
theorem WL:(bK t w).Batch.aY.length<=1000/\(bK t w).aB.length<=1000/\(bK t w).dJ.length<=1000/\(0<=(bK t w).At/\(bK t w).At<=1000)/\(bK t w).Reads.length<=2:=by
 have h1:=hj.ZX.2.1;have h4:=hj.at_;have h5:=hj.res;have h6:=hj.wr.1;refine⟨by omega,by omega,by omega,by omega,?_⟩;have hn:=hj.reads.2;have hm:∀x∈(bK t w).Reads.map Seen.bY,x=0\/x=1:=fun x hx=>by obtain⟨s,hs,rfl⟩:=UI.1 hx;have:=hj.reads.1 s hs;omega
 have hl:((bK t w).Reads.map Seen.bY).length<=2:=by
  match h:(bK t w).Reads.map Seen.bY,hn,hm with
  | [],_,_=>simp
  | [_],_,_=>simp
  | [_,_],_,_=>simp
  | x :: y :: z :: r, hn, hm =>
   (simp_all;omega)
 grind
theorem a6O:A1 t w=some (aQQ t w (J1 t.aC t.b8 w (bK t w))):=by
 obtain⟨s1,s2,s3,s4,s5⟩:=WL h3 h2 hb hw hj;have hjob:=BL h3 hw;unfold A1 B5 J1 aQQ;rw[hjob,aK,aDN h2 hj.bkt,aK,aK,aJG s1 s4.1,aK];generalize hjj:bK t w=j at *;have e62:(if AL j then(fK j,true,j) else((⟨0,0,0⟩:iT),false,j)).2.2=j:=by grind
 have set2:∀x y:aE,(t.aO.set w.toNat x).set w.toNat y=t.aO.set w.toNat y:=fun x y=>aOW ..;have iset:∀x:aE,idx (t.aO.set w.toNat x) w=some x:=fun x=>aB1 ⟨hw.1,by omega⟩;simp only[e62];by_cases p2:j.Pc=2
 ·have p2':(j.Pc == 2)=true:=by grind
  simp only[p2',if_true,if_pos p2];by_cases hl:(iP t.b8 j.bY).gP=0
  ·have e:((iP t.b8 j.bY).gP != 0)=false:=by grind
   simp only[e,bT,if_false,if_neg (not_not_intro hl)];by_cases hh:(iP t.b8 j.bY).Head=0
   ·have e:((iP t.b8 j.bY).Head == 0)=true:=by grind
    simp only[e,if_true,if_pos hh];rfl
   ·have e:((iP t.b8 j.bY).Head == 0)=false:=by grind
    simp only[e,bT,if_false,if_neg hh];rfl
  ·have e:((iP t.b8 j.bY).gP != 0)=true:=by grind
   simp only[e,if_true,if_pos hl];rfl
 ·have p2':(j.Pc == 2)=false:=by grind
  simp only[p2',bT,if_false,if_neg p2];by_cases p3:j.Pc=3
  ·have p3':(j.Pc == 3)=true:=by grind
   simp only[p3',if_true,if_pos p3];obtain⟨c,e⟩:=aMB hb.1.1 j.H;rw[e];rfl
  ·have p3':(j.Pc == 3)=false:=by grind
   simp only[p3',bT,if_false,if_neg p3];by_cases p4:j.Pc=4
   ·have p4':(j.Pc == 4)=true:=by grind
    simp only[p4',if_true,if_pos p4];rw[Q8 hb.1.2.1 hw,aK];simp only[BY,oH];have hp:(if(cW t.aC.aA w).On=true then some (!(cW t.aC.aA w).fU) else some false)=some (decide ((cW t.aC.aA w).On=true/\(cW t.aC.aA w).fU=false)):=by cases (cW t.aC.aA w).On<;>cases (cW t.aC.aA w).fU<;>rfl
    rw[hp,aK];by_cases hpin:(cW t.aC.aA w).On=true/\(cW t.aC.aA w).fU=false
    ·simp only[cZ hpin,kV,bT,if_false,if_neg (not_not_intro hpin)];by_cases hc:AL j
     ·simp only[if_pos hc,kV,bT,if_false,aOB,aK,BZ,sQ,iset,set2];grind
     ·simp only[if_neg hc,PQ,if_true];rfl
    ·simp only[gZ hpin,PQ,if_true,if_pos hpin];rfl
   ·have p4':(j.Pc == 4)=false:=by grind
    simp only[p4',bT,if_false,if_neg p4];have tail:jD t w (if AL j then(fK j,true,j) else((⟨0,0,0⟩:iT),false,j)) false=some (aQQ t w (if(FU j.Reads j.bY j.fX).2=false then FD {j with Reads:=(FU j.Reads j.bY j.fX).1} 7
      else if AL j then JM {j with Reads:=(FU j.Reads j.bY j.fX).1} (fK j) j.Node.dO j.Found
      else FD {j with Reads:=(FU j.Reads j.bY j.fX).1} 1)):=by
     simp only[jD,B4,e62,iset,aK,set2,bT,if_false];rw[aFW (by omega),aK];cases hs:(FU j.Reads j.bY j.fX).2
     ·rfl
     ·simp only[kV,bT,if_false,reduceCtorEq];by_cases hc:AL j
      ·simp only[if_pos hc,kV,bT,if_false];rw[aME (j:={j with Reads:=(FU j.Reads j.bY j.fX).1}) s2 s3 s4];rfl
      ·simp only[if_neg hc,PQ,if_true];rfl
    have ab:jD t w (if AL j then(fK j,true,j) else((⟨0,0,0⟩:iT),false,j)) true=some (aQQ t w (FD j 7)):=by simp only[jD,e62,iset,aK,set2,if_true];rfl
    by_cases hl:(iP t.b8 j.bY).gP=0
    ·have e:((iP t.b8 j.bY).gP != 0)=false:=by grind
     simp only[e,bT,if_false];by_cases hv:(iP t.b8 j.bY).fX=j.fX
     ·have e:((iP t.b8 j.bY).fX != j.fX)=false:=by grind
      rw[e,tail,if_neg (show ¬((iP t.b8 j.bY).gP≠0\/(iP t.b8 j.bY).fX≠j.fX) from fun q=>q.elim (fun h=>h hl) fun h=>h hv)];rfl
     ·have e:((iP t.b8 j.bY).fX != j.fX)=true:=by grind
      rw[e,ab,if_pos (.inr hv)];rfl
    ·have e:((iP t.b8 j.bY).gP != 0)=true:=by grind
     simp only[e,if_true];rw[ab,if_pos (.inl hl)];rfl
end
end Go.Gv
end
noncomputable section
namespace Go.Gv
def WM(t:Table)(w:Int)(p:aC×aE):Table:={t with aC:=p.1,aO:=t.aO.set w.toNat p.2}
noncomputable section
variable {t:Table} {w:Int} (h3:t.aO.length=3) (h2:t.b8.length=2) (hb:nC t.aC) (hw:0<=w/\w<=2) (hj:JB (bK t w))
include h3 h2 hb hw hj
theorem a2Q:sP t w=some (WM t w (zJ t.aC w (bK t w))):=by
 unfold sP zJ WM;rw[BL h3 hw,aK,aDL hb hw,aK];generalize bK t w=j at *;generalize i4 t.aC w j.Sub=r;cases hd:r.2.cJ
 ·rfl
 ·simp only[hd,kV,bT,if_false,reduceCtorEq];by_cases p0:j.Pc=0
  ·grind
  ·have e:(j.Pc == 0)=false:=by grind
   simp only[e,bT,if_false,if_neg p0];by_cases p20:j.Pc=20
   ·have e:(j.Pc == 20)=true:=by grind
    simp only[e,if_true,if_pos p20];rfl
   grind
theorem aX4:xU t w=some (WM t w (IM t.aC w (bK t w))):=by
 obtain⟨s1,s2,s3,s4,s5⟩:=WL h3 h2 hb hw hj;have hjob:=BL h3 hw;have hk:=hj.k;have hn:=hj.new.1;unfold xU IM WM;rw[hjob,aK,aBT s2,aK];generalize hjj:bK t w=j at *;have set2:∀x y:aE,(t.aO.set w.toNat x).set w.toNat y=t.aO.set w.toNat y:=fun x y=>aOW ..;have iset:∀x:aE,idx (t.aO.set w.toNat x) w=some x:=fun x=>aB1 ⟨hw.1,by omega⟩;unfold y5;by_cases hp:fS j.aB j.aB.length<=j.K
 ·grind
 ·rw[gZ hp,if_neg (by simp),if_neg hp,hjob,aK,aDL hb hw,aK];generalize i4 t.aC w j.Sub=r;cases hd:r.2.cJ
  ·rfl
  ·have ab:iB w true {t with aC:=r.1,aO:=t.aO.set w.toNat {j with Sub:=r.2}}=some {t with aC:=r.1,aO:=t.aO.set w.toNat (FD {j with Sub:=r.2} r.2.Code)}:=by simp_all[iB,cK,FD]
   have go:j.dF.length<6->iB w false {t with aC:=r.1,aO:=t.aO.set w.toNat {j with Sub:=r.2}}=some {t with aC:=r.1,aO:=t.aO.set w.toNat {j with dF:=j.dF ++ [r.2.Out],K:=j.K+1,Sub:=zG 1 16}}:=fun h6=>by simp only[iB,bT,if_false,iset,aK,set2,yZ,lO,yY];rw[aM (by simp;omega),aP (by omega) (by omega)];rfl
   simp only[hd,kV,bT,if_false,reduceCtorEq];by_cases hc:r.2.Code=0
   ·have e:(r.2.Code != 0)=false:=by grind
    simp only[e,bT,if_false,g9,aK];grind
   grind
theorem a2R:qQ t w=some (aQQ t w (X5 t.b8 w (bK t w))):=by
 have hjob:=BL h3 hw;have hk:=hj.k;have hr:=hj.reads.1;unfold qQ sW X5 aQQ;rw[hjob,aK,aK];generalize hjj:bK t w=j at *;by_cases hp:(j.Reads.length:Int)<=j.K
 ·grind
 ·have hi:j.K.toNat<j.Reads.length:=by omega
  have er:rdN j=j.Reads[j.K.toNat]:=by grind[rdN]
  have hbk:=hr j.Reads[j.K.toNat] (dC hi);rw[if_neg (by grind),if_neg hp,aK,iC hk.1 (by omega),aK,<-er];rw[<-er] at hbk;unfold sV sU;rw[aDN h2 hbk,aK,aP (by omega) (by omega)];have ab:fI t w true=some {t with aO:=t.aO.set w.toNat (FD j 7)}:=by simp_all[fI,cK,FD]
  have go:fI t w false=some {t with aO:=t.aO.set w.toNat {j with K:=j.K+1}}:=by simp only[fI,bT,if_false,hjob,aK];grind[aP]
  grind
theorem aLE{l:List Seen}(hl:l.length<=1000)(f:Seen->Bool)(g:Seen->Option Bool)(hg:∀x,g x=some (f x)):fM l g=some (l.any f):=by
 have e:g=fun x=>some (f x):=funext hg;rw[e];unfold fM;rcases aD8 (s:=l) (p:=f) (by omega) with ⟨j,h,h1,h2,h3⟩ | ⟨h1,h3⟩
 ·rw[h3,aK,cZ (by omega)];congr 1;exact(List.any_eq_true.2 ⟨l[j],dC h,h2⟩).symm
 ·rw[h3,aK,gZ (by omega)];congr 1;refine(aGX.2 fun x hx=>?_).symm;obtain⟨i,hi,rfl⟩:=Z4 hx;simp[h1 i hi]
def bCX(t:Table)(w:Int)(p:List bY×aE×Bool):Table:={t with b8:=p.1,aO:=t.aO.set w.toNat p.2.1,Log:=t.Log++if p.2.2 then [⟨2,w,(bK t w).aI,0,[],[]⟩] else []}
theorem a6P(hl:t.Log.length<=1000000):A4 t w=some (bCX t w (PJ t.b8 w (bK t w))):=by
 obtain⟨s1,s2,s3,s4,s5⟩:=WL h3 h2 hb hw hj;have hjob:=BL h3 hw;have hk:=hj.k;have hd:=hj.held;have hwr:=hj.wr;unfold A4 PJ bCX;rw[hjob,aK,aFX (by have:=hwr.1;omega) (fun x hx=>(hwr.2.1 x hx).1),aK];generalize hjj:bK t w=j at *;have set2:∀x y:aE,(t.aO.set w.toNat x).set w.toNat y=t.aO.set w.toNat y:=fun x y=>aOW ..;have iset:∀x:aE,idx (t.aO.set w.toNat x) w=some x:=fun x=>aB1 ⟨hw.1,by omega⟩;have hheld:j.aQ.length<=2:=by
  match h:j.aQ,hd with
  | [],_=>simp
  | [_],_=>simp
  | [_,_],_=>simp
  | x :: y :: z :: r, ⟨hm, hn⟩ =>
   (simp_all;omega)
 by_cases hp:j.K<(qI j.aB).length
 ·have hi:j.K.toNat<(qI j.aB).length:=by omega
  have er:gR j=(qI j.aB)[j.K.toNat]:=by grind[gR]
  have hbk:0<=gR j/\gR j<=1:=by grind[WA,dC]
  rw[if_pos (by grind),if_pos hp,iC hk.1 hp,aK,<-er,aDN h2 hbk,aK];have ab:iM t w (qI j.aB) (gR j) true=some {t with aO:=t.aO.set w.toNat (FD j 7)}:=by simp_all[iM,cK,FD]
  have en:∀x:aE,x.K=j.K->x.aI=j.aI->nY t w (qI j.aB) (gR j) (iP t.b8 (gR j)) (t.aO.set w.toNat x) =
    some {t with b8:=t.b8.set (gR j).toNat {iP t.b8 (gR j) with gP:=w+1},aO:=t.aO.set w.toNat (if(qI j.aB).length<=j.K+1 then {x with K:=0,Pc:=8} else {x with K:=j.K+1}),Log:=t.Log++if(qI j.aB).length<=j.K+1 then [⟨2,w,j.aI,0,[],[]⟩] else []}:=fun x hx hs=>by
   simp only[nY,nX,sS,iset,set2,aK,hx,hs];rw[aP (by omega) (by omega),aP (by omega) (by omega)];by_cases hq:((qI j.aB).length:Int)<=j.K+1
   ·rw[if_pos (by grind),aM (by simp;omega),if_pos hq,if_pos hq]
   grind
  have go:iM t w (qI j.aB) (gR j) false=some (if(iP t.b8 (gR j)).fX=1000000 then {t with aO:=t.aO.set w.toNat (FD j 3)} else
    {t with b8:=t.b8.set (gR j).toNat {iP t.b8 (gR j) with gP:=w+1},aO:=t.aO.set w.toNat (if(qI j.aB).length<=j.K+1 then {PI j with K:=0,Pc:=8} else PI j),Log:=t.Log++if(qI j.aB).length<=j.K+1 then [⟨2,w,j.aI,0,[],[]⟩] else []}):=by
   unfold iM;rw[if_neg (by simp),aDN h2 hbk,aK];by_cases hv:(iP t.b8 (gR j)).fX=1000000
   ·simp_all[cK,FD]
   ·have e:((iP t.b8 (gR j)).fX == 1000000)=false:=by grind
    simp only[e,bT,if_false,if_neg hv,hjob,aK];rw[contains_eq (by grind[maxLen]),aK];by_cases hm:gR j∈j.aQ
    ·rw[cZ hm,if_neg (by simp)];have:=en j rfl rfl;rw[show t.aO.set w.toNat j=t.aO by
      rw[<-hjj];unfold bK;rw[PR,kG (show w.toNat<t.aO.length by omega)];simp] at this
     simp_all[PI]
    ·rw[gZ hm,if_pos (by rfl),aM (by simp;omega)];unfold B9;rw[en {j with aQ:=j.aQ ++ [gR j]} rfl rfl];unfold PI;rw[if_neg hm]
  have fin:∀B:Bool,iM t w (qI j.aB) (gR j) B=some (if B=true then {t with aO:=t.aO.set w.toNat (FD j 7)} else if(iP t.b8 (gR j)).fX=1000000 then {t with aO:=t.aO.set w.toNat (FD j 3)} else
    {t with b8:=t.b8.set (gR j).toNat {iP t.b8 (gR j) with gP:=w+1},aO:=t.aO.set w.toNat (if(qI j.aB).length<=j.K+1 then {PI j with K:=0,Pc:=8} else PI j),Log:=t.Log++if(qI j.aB).length<=j.K+1 then [⟨2,w,j.aI,0,[],[]⟩] else []}):=fun B=>by
   cases B
   ·simp only[bT,if_false];exact go
   ·simp only[if_true];exact ab
  have cf:fM j.Reads (fun y0=>vI y0 (gR j) (iP t.b8 (gR j)))=some (j.Reads.any fun s=>s.bY == gR j && s.fX != (iP t.b8 (gR j)).fX):=
   aLE h3 h2 hb hw (by grind) (by omega) _ _ fun x=>by unfold vI pL;cases x.bY == gR j<;>rfl
  by_cases hl0:(iP t.b8 (gR j)).gP=0
  ·have e:((iP t.b8 (gR j)).gP != 0)=false:=by grind
   simp only[e,bT,if_false];rw[cf,aK,fin];by_cases hany:(j.Reads.any fun s=>s.bY == gR j && s.fX != (iP t.b8 (gR j)).fX)=true
   ·grind
   ·rw[if_neg hany,if_neg (show ¬((iP t.b8 (gR j)).gP≠0\/(j.Reads.any fun s=>s.bY == gR j && s.fX != (iP t.b8 (gR j)).fX)=true) from fun q=>q.elim (fun a=>a hl0) hany)];by_cases hv:(iP t.b8 (gR j)).fX=1000000
    ·rw[if_pos hv,if_pos hv];simp
    ·rw[if_neg hv,if_neg hv];by_cases hq:((qI j.aB).length:Int)<=j.K+1
     ·simp only[if_pos hq];rfl
     ·simp only[if_neg hq];rfl
  grind
 ·rw[if_neg (by grind),if_neg hp];unfold nX sS;rw[hjob,aK,if_pos (by simp;omega),aM (by simp;omega),aK];rfl
end
end Go.Gv
end
noncomputable section
namespace Go.Gv
def aTK(t:Table)(w:Int)(p:aC×List bY×aE):Table:={t with aC:=p.1,b8:=p.2.1,aO:=t.aO.set w.toNat p.2.2}
theorem aJH{j:aE}(hk:0<=j.K/\j.K<=100)(x:aS):oY j x=some (PO j x):=by
 unfold oY PO;cases x.FR
 ·rfl
 ·simp only[if_true];grind[aP]
theorem a2S{j:aE}(hk:0<=j.K):lQ j=some (SO j):=by
 unfold lQ SO;by_cases h:j.K<j.bA.length
 ·have hi:j.K.toNat<j.bA.length:=by omega
  rw[if_pos (by grind),if_pos h,iC hk h,aK];simp only[lO,aK,rO,PR,kG hi,Option.getD_some];rfl
 grind
theorem aTL{m:Mem}(hm:mO m){w:Int}(hw:0<=w/\w<=2)(x:Int):∃c,KL m w x=some (aTJ m w x,c):=by
 obtain⟨hcnt,h3,h9,h1,h2,hsm,hcp,hlo,hsG,hsO⟩:=mO.facts hm;have hbl:m.Heap.Bytes.length<=maxLen:=by grind[maxLen]
 unfold KL aTJ;rw[HN hbl (by omega),cZ hm,aK,if_neg (by simp),nI,cZ hw,aK];unfold A6;rw[if_neg (by simp),E2 hm.1.1.1 (by omega) (by omega) (by omega),aK];by_cases hl:m5 m x
 ·obtain⟨m',e1,e2,_,_⟩:=aGP hm hw hl;simp_all[aBX]
 simp_all[OC]
theorem a6Q{α:Type}{l:List α}{a b:Nat}(hab:a<=b)(hb:b<=l.length):((cT l a (l.drop b)).take (a+(l.length - b))).drop 0=l.take a++l.drop b:=by
 have h1:(l.take a).length=a:=by grind
 have h2:(l.drop b).length=l.length - b:=by simp
 unfold cT;rw[UH,aDZ (l:=l.drop b) (by omega),<-qE,show a+(l.length - b)=(l.take a++l.drop b).length by grind];grind
theorem aQR{l:List Int}(h:0<l.length)(hl:l.length<=1000):pM l 0 1=some (l.drop 1):=by
 unfold pM;rw[aM (by omega),if_neg (by simp),aM (by omega),aM (by omega),aM (by decide),a6Q (by decide) (show Int.toNat 1<=l.length from h),aM]
 ·rfl
 ·rw[fP (by simp)];simp only[C1,Z5,X8,Int.toNat_zero];omega
noncomputable section
variable {t:Table} {w:Int} (h3:t.aO.length=3) (h2:t.b8.length=2) (hb:nC t.aC) (hw:0<=w/\w<=2) (hj:JB (bK t w))
include h3 h2 hb hw hj
theorem a2T:xV t w=some (aTK t w (E9 t.aC t.b8 (bK t w))):=by
 obtain⟨s1,s2,s3,s4,s5⟩:=WL h3 h2 hb hw hj;have hjob:=BL h3 hw;have hk:=hj.k;have hwr:=hj.wr;have hol:=hj.old.1;unfold xV zA E9 aTK;rw[hjob,aK,aK];generalize hjj:bK t w=j at *;have set2:∀x y:aE,(t.aO.set w.toNat x).set w.toNat y=t.aO.set w.toNat y:=fun x y=>aOW ..;have iset:∀x:aE,idx (t.aO.set w.toNat x) w=some x:=fun x=>aB1 ⟨hw.1,by omega⟩;by_cases hp:(j.aB.length:Int)<=j.K
 ·grind
 ·have hi:j.K.toNat<j.aB.length:=by omega
  have er:rX j=j.aB[j.K.toNat]:=by grind[rX]
  have hx:=hwr.2.1 j.aB[j.K.toNat] (dC hi);rw[<-er] at hx;have hbk:0<=oJ (rX j).Key/\oJ (rX j).Key<=1:=by unfold oJ;omega
  rw[if_neg (by grind),if_neg hp,aK,iC hk.1 (by omega),aK,<-er];unfold y9;rw[PC,aK,aDN h2 hbk,aK,hjob,aK];generalize rX j=x at *;generalize hbb:oJ x.Key=bi at *;have ex:(⟨x.Key,x.FR,x.dO⟩:aS)=x:=rfl;rw[ex];by_cases p9:j.Pc=9
  ·have e:(j.Pc == 9)=true:=by grind
   simp only[e,if_true,if_pos p9];by_cases hh:(iP t.b8 bi).Head=0
   ·have e:((iP t.b8 bi).Head == 0)=true:=by grind
    simp only[e,if_true,if_pos hh];grind[aJH]
   grind
  ·have e : (j.Pc == 9) = false := by grind
   simp only[e,bT,if_false,if_neg p9];by_cases p10:j.Pc=10
   ·have e:(j.Pc == 10)=true:=by grind
    simp only[e,if_true,if_pos p10];obtain⟨c,e⟩:=aMB hb.1.1 j.H;rw[e,aK];simp only;by_cases hkey:(WI t.aC.Mem.Heap j.H).Key=x.Key
    ·grind
    ·have e:((WI t.aC.Mem.Heap j.H).Key == x.Key)=false:=by grind
     simp only[e,bT,if_false,if_neg hkey,aOB,aK];by_cases hs:Q9 (WI t.aC.Mem.Heap j.H)=0
     ·have e:(Q9 (WI t.aC.Mem.Heap j.H) == 0)=true:=by grind
      simp only[e,if_true,if_pos hs];grind[aJH]
     simp_all[y6]
   ·have e:(j.Pc == 10)=false:=by grind
    simp only[e,bT,if_false,if_neg p10];by_cases p11:j.Pc=11
    ·have e:(j.Pc == 11)=true:=by grind
     simp only[e,if_true,if_pos p11];have cut:∀u:Table,u.aO=t.aO->mX w x.Key x.FR x.dO u=some {u with aO:=t.aO.set w.toNat (PO (SN j) x)}:=fun u hu=>by
      have hju:idx u.aO w=some j:=by grind
      have last:∀v:Table,∀y:aE,idx v.aO w=some y->(0<=y.K/\y.K<=100)->mW w x.Key x.FR x.dO v=some {v with aO:=v.aO.set w.toNat (PO y x)}:=fun v y hy hyk=>by simp_all[mW,aJH]
      unfold mX qR y7 SN;rw[hju,aK,g9,aK];by_cases hh:lW j.H
      ·rw[cZ hh,if_pos rfl];by_cases h6:j.bA.length<6
       ·rw[cZ (by omega),if_pos rfl,aK,aM (by simp;omega),last _ {j with bA:=j.bA ++ [j.H]} (by grind) (by grind),if_pos ⟨hh,h6⟩];grind
       grind
      grind
     by_cases hpv:j.dB=0
     ·simp_all[aOB]
     ·have e:(j.dB == 0)=false:=by grind
      simp only[e,bT,if_false,if_neg hpv,aOB,aK];obtain⟨c,e⟩:=aX1 hb.1.1 j.dB (Q9 j.Node);grind[y8]
    ·have e:(j.Pc == 11)=false:=by grind
     simp only[e,bT,if_false,if_neg p11];have hpn:0<=fS j.aB j.K:=by grind[fS]
     have hbs:t.b8.set bi.toNat (iP t.b8 bi)=t.b8:=by grind[iP,aLI]
     unfold I8;rw[aBT s2,aK];by_cases hn:(j.dF.length:Int)<=fS j.aB j.K
     ·rw[if_pos (by grind),if_pos hn];simp only[cK,aK,hbs];rfl
     ·have hi2:(fS j.aB j.K).toNat<j.dF.length:=by omega
      have en:FJ j=j.dF[(fS j.aB j.K).toNat]:=by grind[FJ]
      rw[if_neg (by grind),if_neg hn,iC hpn (by omega),<-en];by_cases p12:j.Pc=12
      ·have e:(j.Pc == 12)=true:=by grind
       simp only[e,if_true,if_pos p12,aK];obtain⟨c,e⟩:=aTI hb.1.1 (FJ j) ⟨x.Key,x.dO,(iP t.b8 bi).Head⟩;grind[CA]
      ·have e:(j.Pc == 12)=false:=by grind
       simp only[e,bT,if_false,if_neg p12,aK];grind[aP]
def aVZ(t:Table)(w:Int)(p:List bY×aE):Table:={t with b8:=p.1,aO:=t.aO.set w.toNat p.2}
theorem aX5(hk1:∀x∈t.b8,BkV x):vJ t w=some (aVZ t w (PK t.b8 (bK t w))):=by
 have hjob:=BL h3 hw;have hd:=hj.held;unfold vJ PK aVZ;rw[hjob,aK];generalize hjj:bK t w=j at *;have hheld:j.aQ.length<=2:=by
  match h:j.aQ,hd with
  | [],_=>simp
  | [_],_=>simp
  | [_,_],_=>simp
  | x :: y :: z :: r, ⟨hm, hn⟩ =>
   (simp_all;omega)
 by_cases hp:0<j.aQ.length
 ·have er:AM j=j.aQ[0]:=by grind[AM]
  have hbk:=hd.1 j.aQ[0] (dC hp);rw[<-er] at hbk;have hbv:BkV (iP t.b8 (AM j)):=by grind[iP]
  have hver:=hbv.2.1;rw[if_pos (by grind),if_pos hp,show(0:Int)=((0:Nat):Int) from rfl,aV hp,aK,<-er,aDN h2 hbk,aK];have un:∀k,lR t w k=some {t with b8:=k,aO:=t.aO.set w.toNat {j with aQ:=j.aQ.drop 1}}:=fun k=>by grind[lR,aQR]
  by_cases p14:j.Pc=14
  ·have e:(j.Pc == 14)=true:=by grind
   simp only[e,if_true,if_pos p14];grind[aP]
  ·have e:(j.Pc == 14)=false:=by simpa using p14
   simp only[e,bT,if_false,if_neg p14];rw[un]
 ·rw[if_neg (by simpa using hp),if_neg hp];by_cases p16:j.Pc=16
  ·have e:(j.Pc == 16)=true:=by simpa using p16
   simp only[e,if_true,if_pos p16]
  ·have e:(j.Pc == 16)=false:=by simpa using p16
   simp only[e,bT,if_false,if_neg p16];rw[a2S (j:={j with Pc:=15,K:=0}) (K6 _)];rfl
theorem aTM:vK t w=some (WM t w (MN t.aC w (bK t w))):=by
 have hjob:=BL h3 hw;have hk:=hj.k;unfold vK wO MN WM;rw[hjob,aK,aK];generalize hjj:bK t w=j at *;by_cases hp:(j.bA.length:Int)<=j.K
 ·grind
 ·rw[if_neg (by grind),if_neg hp,aK,aDL hb hw,aK];generalize i4 t.aC w j.Sub=r;cases hd:r.2.cJ
  ·simp
  ·simp only[hd,if_true];grind[aP,a2S]
theorem drop_eq:A7 t w=some (WM t w (KX t.aC w (bK t w))):=by
 have hjob:=BL h3 hw;have hn:=hj.new;unfold A7 KX WM;rw[hjob,aK];generalize hjj:bK t w=j at *;by_cases hp:j.dF.length=0
 ·grind
 ·have hp0:0<j.dF.length:=by omega
  have er:j.dF.getD 0 0=j.dF[0]:=by grind
  have hh:=hn.2 j.dF[0] (dC hp0);rw[<-er] at hh;rw[if_neg (by grind),if_neg hp,show(0:Int)=((0:Nat):Int) from rfl,aV hp0,aK,<-er,show((0:Nat):Int)=0 from rfl,aQR hp0 (by omega),aK,(lW.mod hh).1,T1 hb.1.2.2.1,aK];by_cases hl:aQ t.aC.aN (j.dF.getD 0 0 % 32)
  ·grind
  ·rw[gZ hl,if_pos (by rfl),if_neg hl];obtain⟨c,e⟩:=aTL hb.1.1 hw (j.dF.getD 0 0);rw[e];rfl
theorem aTN(hl:t.Log.length<=1000000):sY t w=some {t with aO:=t.aO.set w.toNat dP,Log:=t.Log ++ [tlE w (bK t w)]}:=by
 have hjob:=BL h3 hw;unfold sY tlE;rw[hjob,aK];generalize hjj:bK t w=j at *;by_cases hc:j.Code=0
 ·have e:(j.Code == 0)=true:=by grind
  simp only[e,if_true,if_pos hc];rw[aM (by simp;omega)];rfl
 ·have e:(j.Code == 0)=false:=by grind
  simp only[e,bT,if_false,if_neg hc];rw[aM (by simp;omega)];rfl
end
end Go.Gv
end
noncomputable section
namespace Go.Gv
theorem aX6{b:aC}(hb:nC b){w:Int}(hw:0<=w/\w<=2):∃c,A8 b w=some (c,{b with aA:=(JL b.aA w).1}):=by obtain⟨r,e1,e2,_,_⟩:=aQN hb.1.2.1 hw;rw[aL7 hb.1.2.1 hw] at e1;simp_all[A8]
noncomputable section
variable {t:Table} {w:Int} (h3:t.aO.length=3) (h2:t.b8.length=2) (hb:nC t.aC) (hw:0<=w/\w<=2)
include h3 h2 hb hw
theorem a6R(hq3:t.dU.length=3)(hqv:∀q∈t.dU,q.List.length<=12/\∀b∈q.List,X7 b)(hs:0<=t.aI/\t.aI<=1000000)(hl:t.Log.length<=1000000) :
  xN t w=some (if(vU t w).length=0\/t.aI=1000000 then t else M5 t w ((vU t w).getD 0 ⟨false,[]⟩)):=by
 have hqi:w.toNat<t.dU.length:=by omega
 have hq:idx t.dU w=some ⟨vU t w⟩:=by simp_all[iC,vU]
 have hqm:(⟨vU t w⟩:aL)∈t.dU:=by unfold vU;rw[PR,kG hqi];exact dC _
 have hqq:=hqv _ hqm;simp only at hqq;unfold xN;rw[hq,aK];simp only;by_cases h0:(vU t w).length=0
 ·simp_all[mT]
 ·have e:(((vU t w).length:Int) == 0)=false:=by grind
  rw[if_neg (by rw[e];simp)];unfold mT;by_cases hm:t.aI=1000000
  ·grind
  ·have e:(t.aI == 1000000)=false:=by grind
   have hp0:0<(vU t w).length:=by omega
   have er:(vU t w).getD 0 ⟨false,[]⟩=(vU t w)[0]:=by grind
   have hbv:=hqq.2 (vU t w)[0] (dC hp0);rw[<-er] at hbv;rw[if_neg (by rw[e];simp),hq,aK];simp only;have i0:idx (vU t w) 0=some ((vU t w)[0]):=aV hp0;rw[i0,aK,<-er,if_neg (fun q=>q.elim h0 hm)];unfold JW;rw[aM (by omega),aK];generalize hbb:(vU t w).getD 0 ⟨false,[]⟩=b at *;simp only[lO,aK];unfold yW;have fin:∀x:aE,x.aI=t.aI+1->x.Batch.Collect=b.Collect->mS t w ⟨vU t w⟩ b x=some ⟨t.aC,t.b8,t.aO.set w.toNat {x with Batch:=⟨x.Batch.Collect,b.aY⟩,Reads:=[],aB:=[],dJ:=[],dF:=[],aQ:=[],bA:=[]},t.dU.set w.toNat ⟨(vU t w).drop 1⟩,t.Log ++ [⟨1,w,t.aI+1,0,b.aY,[]⟩],t.aI+1⟩:=fun x hx _=>by unfold mS kX yV;rw[BL h3 hw,aK,aM (by have:=hbv.2.1;simp;omega),aK,aM (by simp;omega),hx,aP (by omega) (by omega)];rfl
   have e1:bE (t.aI+1)=t.aI+1:=aP (by omega) (by omega);unfold M5 mE;cases hc:b.Collect
   ·rw[if_neg (by simp),fin _ (by omega) (by grind)];simp only[e1,hc,bT,if_false];have eb:(⟨false,b.aY⟩:Batch)=b:=by cases b;grind
    rw[eb];rfl
   ·rw[if_pos rfl];simp only[lO,aK];rw[fin _ (by omega) (by grind)];simp only[e1,hc,if_true];have eb:(⟨true,b.aY⟩:Batch)=b:=by cases b;grind
    rw[eb];rfl
end
theorem SP(t:Table)(w:Int)(p:aC×aE):KY t w ⟨p.1,t.b8,p.2,[]⟩=WM t w p:=by grind[KY,WM]
theorem aQS{t:Table}(hv:TV t)(hl:t.Log.length<=1000000){w:Int}(hw:0<=w/\w<=2):tX t w=some (kP t w):=by
 have h3:=hv.K0.1;have h2:=hv.bk.1;have hb:=hv.base;have hjob:=BL h3 hw;have hjv:=hv.K0.2 _ (KZ h3 hw);unfold tX kP;rw[hjob,aK];cases hbusy:(bK t w).bX
 ·simp only[PQ,if_true,bT,if_false];rw[a6R h3 h2 hb hw hv.todo.1 hv.todo.2 hv.ser hl];rfl
 ·have hj : JB (bK t w) := hjv.resolve_left fun e => by rw[e] at hbusy; cases hbusy
  simp only[kV,bT,if_false,if_true];unfold JN;by_cases p0:(bK t w).Pc=0\/(bK t w).Pc=20\/(bK t w).Pc=21
  ·rw[if_pos p0,SP];have go:jH t w (bK t w) true=some (WM t w (zJ t.aC w (bK t w))):=by simp_all[jH,a2Q]
   grind
  ·rw[if_neg p0];have e0:((bK t w).Pc == 0)=false:=by simp;omega
   have e20:((bK t w).Pc == 20)=false:=by simp;omega
   have e21:((bK t w).Pc == 21)=false:=by simp;omega
   simp only[e0,e20,e21,bT,if_false];unfold jH;simp only[bT,if_false,dL,aK];by_cases p1:(bK t w).Pc=1
   ·have e:((bK t w).Pc == 1)=true:=by grind
    simp_all[WL,a2P,KY]
   ·have e : ((bK t w).Pc == 1) = false := by grind
    simp only[e,bT,if_false,if_neg p1];by_cases p2:2<=(bK t w).Pc/\(bK t w).Pc<=5
    ·simp_all[a6O,KY,aQQ]
    ·simp only[gZ p2,bT,if_false,if_neg p2];by_cases p6:(bK t w).Pc=6
     ·simp_all[aX4,SP]
     ·have e : ((bK t w).Pc == 6) = false := by grind
      simp only[e,bT,if_false,if_neg p6];by_cases p7:(bK t w).Pc=7
      ·have e:((bK t w).Pc == 7)=true:=by grind
       simp only[e,if_true,if_pos p7];rw[a6P h3 h2 hb hw hj hl];rfl
      ·have e : ((bK t w).Pc == 7) = false := by grind
       simp only[e,bT,if_false,if_neg p7];by_cases p8:(bK t w).Pc=8
       ·simp_all[a2R,KY,aQQ]
       ·have e : ((bK t w).Pc == 8) = false := by grind
        simp only[e,bT,if_false,if_neg p8];by_cases p9:9<=(bK t w).Pc/\(bK t w).Pc<=13
        ·simp_all[a2T,KY,aTK]
        ·simp only[gZ p9,bT,if_false,if_neg p9];by_cases p14:(bK t w).Pc=14\/(bK t w).Pc=16
         ·rw[if_pos p14];have go:kZ t w (bK t w) true=some (aVZ t w (PK t.b8 (bK t w))):=by unfold kZ;rw[if_pos rfl,aX5 h3 h2 hb hw hj hv.bk.2];rfl
          grind[aVZ,KY]
         ·have e14:((bK t w).Pc == 14)=false:=by simp;omega
          have e16:((bK t w).Pc == 16)=false:=by simp;omega
          simp only[e14,e16,bT,if_false,if_neg p14];unfold kZ;simp only[bT,if_false];by_cases p15:(bK t w).Pc=15
          ·simp_all[aTM,SP]
          ·have e:((bK t w).Pc == 15)=false:=by grind
           simp only[e,bT,if_false,if_neg p15];by_cases p17:(bK t w).Pc=17
           ·simp_all[drop_eq,SP]
           ·have e:((bK t w).Pc == 17)=false:=by grind
            simp only[e,bT,if_false,if_neg p17];by_cases p18:(bK t w).Pc=18
            ·have e:((bK t w).Pc == 18)=true:=by grind
             simp only[e,if_true,if_pos p18];grind[aX6,KY]
            ·have e:((bK t w).Pc == 18)=false:=by grind
             simp only[e,bT,if_false,if_neg p18];by_cases p19:(bK t w).Pc=19
             ·have e:((bK t w).Pc == 19)=true:=by grind
              simp only[e,if_true,if_pos p19];rw[aTN h3 h2 hb hw hj hl];rfl
             simp_all[KY,cK,FD]
end Go.Gv
end
noncomputable section
namespace Go.Gv
def aOC(o:List aS)(x:aS):List aS:=o.takeWhile (fun y=>!decide (x.Key<y.Key)) ++ [x]++o.dropWhile (fun y=>!decide (x.Key<y.Key))
theorem aMF(y:aS)(r:List aS)(x:aS):aOC (y :: r) x=if x.Key<y.Key then x :: y :: r else y :: aOC r x:=by grind[aOC,List.takeWhile_cons,List.dropWhile_cons]
theorem aJI(o:List aS)(x z:aS):z∈aOC o x↔z=x\/z∈o:=by
 induction o with
 | nil=>simp[aOC]
 | cons y r ih =>
  grind[aMF]
theorem aQT{o:List aS}{x:aS}(hs:o.Pairwise (fun a b=>a.Key<b.Key))(hx:∀y∈o,y.Key≠x.Key):(aOC o x).Pairwise (fun a b=>a.Key<b.Key):=by
 induction o with
 | nil=>simp[aOC]
 | cons y r ih =>
  grind[aMF,List.pairwise_cons,aJI]
theorem a2U{l:List aS}(h:WrV l){x:aS}(hx:(0<=x.Key/\x.Key<=99)/\(0<=x.dO/\x.dO<=65535))(hl:(J0 l x).length<=6):WrV (J0 l x):=by
 refine⟨hl,fun y hy=>?_,?_⟩
 ·rcases(aJI _ _ _).1 (show y∈aOC _ x from hy) with rfl | hy
  ·exact hx
  ·exact h.2.1 y (List.mem_filter.1 hy).1
 ·exact aQT (h.2.2.sublist List.filter_sublist) fun y hy=>by grind
theorem a2V{a b:Int}(ha:0<=a/\a<=4294967295)(hb:0<=b/\b<=65535):0<=UB a b/\UB a b<=65535:=by grind[UB,aP]
noncomputable section
variable {j:aE} (hj:JB j)
include hj
theorem JB.ab(c:Int):JB (FD j c):=⟨hj.busy,hj.ZX,hj.h,hj.prev,hj.bkt,hj.at_,hj.k,hj.new,hj.old,hj.reads,hj.wr,hj.held,hj.res,hj.node⟩
theorem JB.pc(p:Int):JB {j with Pc:=p}:=⟨hj.busy,hj.ZX,hj.h,hj.prev,hj.bkt,hj.at_,hj.k,hj.new,hj.old,hj.reads,hj.wr,hj.held,hj.res,hj.node⟩
theorem JB.sub(s:Sub):JB {j with Sub:=s}:=⟨hj.busy,hj.ZX,hj.h,hj.prev,hj.bkt,hj.at_,hj.k,hj.new,hj.old,hj.reads,hj.wr,hj.held,hj.res,hj.node⟩
theorem JB.kk{k:Int}(h:0<=k/\k<=6):JB {j with K:=k}:=⟨hj.busy,hj.ZX,hj.h,hj.prev,hj.bkt,hj.at_,h,hj.new,hj.old,hj.reads,hj.wr,hj.held,hj.res,hj.node⟩
theorem JB.nd{n:gW}(h:0<=n.dO/\n.dO<=4294967295):JB {j with Node:=n}:=⟨hj.busy,hj.ZX,hj.h,hj.prev,hj.bkt,hj.at_,hj.k,hj.new,hj.old,hj.reads,hj.wr,hj.held,hj.res,h⟩
theorem JB.hh{x:Int}(h:oS x):JB {j with H:=x}:=⟨hj.busy,hj.ZX,h,hj.prev,hj.bkt,hj.at_,hj.k,hj.new,hj.old,hj.reads,hj.wr,hj.held,hj.res,hj.node⟩
theorem JB.pv{x:Int}(h:oS x):JB {j with dB:=x}:=⟨hj.busy,hj.ZX,hj.h,h,hj.bkt,hj.at_,hj.k,hj.new,hj.old,hj.reads,hj.wr,hj.held,hj.res,hj.node⟩
theorem JB.rd2:j.Reads.length<=2:=by
 have hn:=hj.reads.2;have hm:∀x∈j.Reads.map Seen.bY,x=0\/x=1:=fun x hx=>by obtain⟨s,hs,rfl⟩:=UI.1 hx;have:=hj.reads.1 s hs;omega
 have hl:(j.Reads.map Seen.bY).length<=2:=by
  match h:j.Reads.map Seen.bY,hn,hm with
  | [],_,_=>simp
  | [_],_,_=>simp
  | [_,_],_,_=>simp
  | x :: y :: z :: r, hn, hm =>
   (simp_all;omega)
 grind
theorem JB.cmd(h:AL j):X6 (fK j):=by
 have ha:=hj.at_;have hi:j.At.toNat<j.Batch.aY.length:=by grind[AL]
 unfold fK;rw[PR,kG hi];exact hj.ZX.2.2.1 _ (dC hi)
theorem JB.aB0(h:AL j)(is:Bool)(v:Int):JB (Gv.aB0 j is v):=by have h':j.At<j.Batch.aY.length:=h;have ha:=hj.at_;have hr:=hj.res;exact⟨hj.busy,hj.ZX,hj.h,hj.prev,hj.bkt,⟨by show 0<=j.At+1;omega,by show j.At+1<=(j.Batch.aY.length:Int);omega⟩,hj.k,hj.new,hj.old,hj.reads,hj.wr,hj.held,by show(((j.dJ ++ [_]).length:Nat):Int)=j.At+1;simp;omega,hj.node⟩
theorem JB.rcw{x:aS}(hx:(0<=x.Key/\x.Key<=99)/\(0<=x.dO/\x.dO<=65535)):JB (zI j x).2:=by
 unfold zI;split
 ·exact hj.ab 1
 ·exact⟨hj.busy,hj.ZX,hj.h,hj.prev,hj.bkt,hj.at_,hj.k,hj.new,hj.old,hj.reads,a2U hj.wr hx (by omega),hj.held,hj.res,hj.node⟩
theorem aJJ(x:aS):(zI j x).2.Batch=j.Batch:=by grind[zI,FD]
theorem JB.ans(h:AL j){c:iT}(hc:X6 c){v:Int}(hv:0<=v/\v<=4294967295)(is:Bool):JB (JM j c v is):=by
 unfold JM;split
 ·have hv':0<=(if is then v else 0)/\(if is then v else 0)<=4294967295:=by omega
  generalize (if is then v else 0)=u at hv';unfold aJF;have hr:=hj.rcw (x:=⟨c.Key,false,UB u c.dO⟩) ⟨hc.2.1,a2V hv' hc.2.2.1⟩;split
  ·refine hr.aB0 ?_ _ _;grind[AL,aJJ,aDM]
  ·exact hr
 ·exact hj.aB0 h _ _
theorem JB.jnx:JB (WJ j):=by
 unfold WJ;split
 ·rename_i h;have hc:=hj.cmd h;have h':j.At<j.Batch.aY.length:=h;have ha:=hj.at_;have hr:=hj.res;split
  ·have hr':=hj.rcw (x:=⟨(fK j).Key,(fK j).Kind == 3,(fK j).dO⟩) ⟨hc.2.1,hc.2.2.1⟩;split
   ·refine⟨hr'.busy,hr'.ZX,hr'.h,hr'.prev,hr'.bkt,⟨by grind,?_⟩,hr'.k,hr'.new,hr'.old,hr'.reads,hr'.wr,hr'.held,by grind,hr'.node⟩;grind[aJJ]
   ·exact hr'
  ·split
   ·refine hj.ans h hc ?_ _;unfold aFU;split
    ·rename_i x hf;have:=hj.wr.2.1 x (List.mem_of_find?_eq_some hf);grind
    simp
   ·exact⟨hj.busy,hj.ZX,hj.h,hj.prev,by show 0<=oJ _/\oJ _<=1;unfold oJ;rw[if_pos hc.2.1];omega,hj.at_,hj.k,hj.new,hj.old,hj.reads,hj.wr,hj.held,hj.res,hj.node⟩
 ·exact((hj.pc 6).kk (k:=0) (by omega)).sub _
theorem JB.spt(b v:Int)(hb:0<=b/\b<=1):JB {j with Reads:=(FU j.Reads b v).1}:=by
 refine⟨hj.busy,hj.ZX,hj.h,hj.prev,hj.bkt,hj.at_,hj.k,hj.new,hj.old,?_,hj.wr,hj.held,hj.res,hj.node⟩;show(∀s∈(FU j.Reads b v).1,0<=s.bY/\s.bY<=1)/\((FU j.Reads b v).1.map Seen.bY).Nodup;unfold FU;split
 ·exact hj.reads
 ·rename_i hf;refine⟨fun s hs=>?_,?_⟩
  ·rcases fB.1 hs with hs | hs
   ·exact hj.reads.1 s hs
   grind
  ·rw[uX,List.nodup_append];refine⟨hj.reads.2,by simp,fun a ha c hc=>?_⟩;grind
theorem JB.pl(h:j.K<j.aB.length)(x:aS):JB (PO j x):=by
 have hk:=hj.k;have hw:=hj.wr.1;unfold PO;split
 ·exact(hj.pc 9).kk (k:=j.K+1) (by omega)
 ·exact hj.pc 12
theorem JB.bEW:JB (SN j):=by
 unfold SN;split
 ·rename_i h;refine⟨hj.busy,hj.ZX,hj.h,hj.prev,hj.bkt,hj.at_,hj.k,hj.new,⟨by grind,fun x hx=>?_⟩,hj.reads,hj.wr,hj.held,hj.res,hj.node⟩;rcases fB.1 hx with hx | hx
  ·exact hj.old.2 x hx
  grind
 ·exact hj
theorem JB.rtn:JB (SO j):=by
 unfold SO;split
 ·exact hj.sub _
 ·exact hj
end
theorem a6S{l:List Int}(h:sC l){a:Nat}(ha:a+4<=l.length):0<=ld l a 4/\ld l a 4<=4294967295:=by
 rw[ld4 ha];have b:∀k,k<l.length->0<=bt l k/\bt l k<=255:=fun k hk=>by rw[<-aI3 hk];exact h _ (dC hk)
 grind
theorem aQU{m:Mem}(hm:mO m)(x:Int):0<=(WI m.Heap x).dO/\(WI m.Heap x).dO<=4294967295:=by
 unfold WI;split
 ·rename_i h;have hr:=(CG h.2.1 h.2.2).1;have h1:=hm.1.1.1.1;exact a6S hm.1.1.1.2.2.1 (by omega)
 ·show(0:Int)<=0/\(0:Int)<=4294967295;omega
theorem RC(l:List aS)(n:Int):fS l n<=l.length:=by grind[fS]
theorem aV0{k:List bY}{i:Int}(h2:k.length=2)(hi:0<=i/\i<=1):iP k i∈k:=by grind[iP]
theorem aGS{k:List bY}(h:k.length=2/\∀x∈k,BkV x)(i:Nat){y:bY}(hy:BkV y):(k.set i y).length=2/\∀x∈k.set i y,BkV x:=
 ⟨by grind,fun x hx=>(uY hx).elim (h.2 x) fun e=>e ▸ hy⟩
theorem bAR{b:aC}(hb:nC b){w x:Int}(hw:0<=w/\w<=2)(hx:lW x)(hn:¬aQ b.aN (x % 32)):nC {b with Mem:=aTJ b.Mem w x}:=by
 unfold aTJ;by_cases hl:m5 b.Mem x
 ·obtain⟨m',e1,e2,_,h⟩:=aGP hb.1.1 hw hl;rw[aBX hb.1.1 hw hl] at e1;injection e1 with e1
  rw[if_pos hl,e1];refine⟨⟨h.1,hb.1.2⟩,fun r hr=>⟨h.live (hb.2 r hr).1 ?_,(hb.2 r hr).2⟩⟩;intro e;exact hn ⟨r,hr,(hb.2 r hr).1.1,e⟩
 simp_all
structure TRV (r:TR):Prop where
 b:nC r.b
 k:r.k.length=2/\∀x∈r.k,BkV x
 j:r.j=dP\/JB r.j
theorem aF2{c:Prop}[Decidable c]{a b:TR}(h1:c->TRV a)(h2:¬c->TRV b):TRV (if c then a else b):=by grind
theorem bAS{b:aC}{k:List bY}{w:Int}{j:aE}(hb:nC b)(hk:k.length=2/\∀x∈k,BkV x)(hw:0<=w/\w<=2)(hj:JB j):TRV (JN b k w j):=by
 have hkk:=hj.k;have hwr:=hj.wr;have hrd:=hj.rd2;have hbs:=a6M hb hw j.Sub;have bkv:∀{i},0<=i/\i<=1->BkV (iP k i):=fun hi=>hk.2 _ (aV0 hk.1 hi);unfold JN;refine aF2 (fun _=>?_) fun _=>?_
 ·refine⟨hbs,hk,.inr ?_⟩;unfold zJ;split
  ·exact hj.sub _
  ·split
   ·exact(hj.pc 1).sub _
   ·split
    ·exact(hj.pc 21).sub _
    ·exact(hj.pc 19).sub _
 refine aF2 (fun _=>?_) fun _=>?_
 ·exact⟨hb,hk,.inr hj.jnx⟩
 refine aF2 (fun _=>?_) fun _=>?_
 ·refine⟨hb, hk, .inr ?_⟩;unfold J1;have hbk:=bkv hj.bkt;split
  ·split
   ·exact hj.ab _
   ·have h1:JB {j with fX:=(iP k j.bY).fX}:=⟨hj.busy,hj.ZX,hj.h,hj.prev,hj.bkt,hj.at_,hj.k,hj.new,hj.old,hj.reads,hj.wr,hj.held,hj.res,hj.node⟩;have h2:JB {j with fX:=(iP k j.bY).fX,Found:=false}:=⟨hj.busy,hj.ZX,hj.h,hj.prev,hj.bkt,hj.at_,hj.k,hj.new,hj.old,hj.reads,hj.wr,hj.held,hj.res,hj.node⟩;exact((h2.hh hbk.1).nd (n:=aQO) (by show(0:Int)<=0/\(0:Int)<=4294967295;omega)).pc _
  ·split
   ·exact(hj.nd (aQU hb.1.1 _)).pc _
   ·split
    ·split
     ·exact hj.ab _
     ·split
      ·have h1:JB {j with Found:=j.Node.Key == (fK j).Key}:=⟨hj.busy,hj.ZX,hj.h,hj.prev,hj.bkt,hj.at_,hj.k,hj.new,hj.old,hj.reads,hj.wr,hj.held,hj.res,hj.node⟩;exact(h1.hh (aDK _)).pc _
      ·exact hj.ab _
    ·split
     ·exact hj.ab _
     ·have hs:=hj.spt j.bY j.fX hj.bkt;split
      ·exact hs.ab _
      ·split
       ·rename_i h;exact hs.ans h (hj.cmd h) hj.node _
       ·exact hs.ab _
 refine aF2 (fun _=>?_) fun _=>?_
 ·unfold IM;split
  ·exact⟨hb,hk,.inr ((hj.pc 7).kk (k:=0) (by omega))⟩
  ·rename_i hp;have:=RC j.aB j.aB.length;have:=hwr.1;refine⟨hbs,hk,.inr ?_⟩;simp only;split
   ·exact hj.sub _
   ·split
    ·exact(hj.sub _).ab _
    ·rename_i hq;have q1:lW (i4 b w j.Sub).2.Out:=Classical.byContradiction fun q=>hq (.inr (.inl q));have q2:j.dF.length<6:=by omega
     refine⟨hj.busy,hj.ZX,hj.h,hj.prev,hj.bkt,hj.at_,⟨by grind,by grind⟩,⟨by grind,fun x hx=>?_⟩,hj.old,hj.reads,hj.wr,hj.held,hj.res,hj.node⟩;rcases fB.1 hx with hx | hx
     ·exact hj.new.2 x hx
     grind
 refine aF2 (fun _=>?_) fun _=>?_
 ·have ht:=aN4 j.aB;unfold PJ;split
  ·rename_i hp;have hi:j.K.toNat<(qI j.aB).length:=by omega
   have er:gR j=(qI j.aB)[j.K.toNat]:=by grind[gR]
   have hbk:0<=gR j/\gR j<=1:=by grind[WA,dC]
   have hbv:=bkv hbk;have hset:=aGS hk (gR j).toNat (y:={iP k (gR j) with gP:=w+1}) ⟨hbv.1,hbv.2.1,by grind⟩;have hlh:JB (PI j):=by
    refine⟨hj.busy,hj.ZX,hj.h,hj.prev,hj.bkt,hj.at_,⟨by show 0<=j.K+1;omega,by show j.K+1<=6;omega⟩,hj.new,hj.old,hj.reads,hj.wr,?_,hj.res,hj.node⟩;show(∀x∈(if gR j∈j.aQ then j.aQ else j.aQ ++ [gR j]),0<=x/\x<=1)/\(if gR j∈j.aQ then j.aQ else j.aQ ++ [gR j]).Nodup;split
    ·exact hj.held
    ·rename_i hm;refine⟨fun x hx=>?_,?_⟩
     ·rcases fB.1 hx with hx | hx
      ·exact hj.held.1 x hx
      grind
     ·rw[List.nodup_append];exact⟨hj.held.2,by simp,fun a ha c hc e=>by grind⟩
   split
   ·exact⟨hb,hk,.inr (hj.ab _)⟩
   ·split
    ·exact⟨hb,hk,.inr (hj.ab _)⟩
    ·split
     ·exact⟨hb,hset,.inr ((hlh.pc 8).kk (k:=0) (by omega))⟩
     ·exact⟨hb,hset,.inr hlh⟩
  ·exact⟨hb,hk,.inr ((hj.pc 8).kk (k:=0) (by omega))⟩
 refine aF2 (fun _=>?_) fun _=>?_
 ·refine⟨hb,hk,.inr ?_⟩;unfold X5;split
  ·exact(hj.pc 9).kk (k:=0) (by omega)
  ·split
   ·exact hj.ab _
   ·exact hj.kk (k:=j.K+1) (by omega)
 refine aF2 (fun _=>?_) fun _=>?_
 ·have hwl:=hwr.1;unfold E9;split
  ·exact⟨hb,hk,.inr (hj.pc 14)⟩
  ·rename_i hp;have hi:j.K.toNat<j.aB.length:=by omega
   have er:rX j=j.aB[j.K.toNat]:=by grind[rX]
   have hx:=hwr.2.1 j.aB[j.K.toNat] (dC hi);rw[<-er] at hx;have hbk:0<=oJ (rX j).Key/\oJ (rX j).Key<=1:=by unfold oJ;omega
   have hbv:=bkv hbk;have l0:oS 0:=.inl rfl;split
   ·have h1:=((hj.pc 10).hh hbv.1).pv l0;refine⟨hb,hk,.inr ?_⟩;simp only;split
    ·exact h1.pl (by grind) _
    ·exact h1
   ·split
    ·have h1:=hj.nd (aQU hb.1.1 j.H);refine⟨hb,hk,.inr ?_⟩;simp only;split
     ·exact h1.pc 11
     ·split
      ·exact h1.pl (by grind) _
      ·exact(h1.hh (aDK _)).pv hj.h
    ·split
     ·have h1:=hj.bEW;have hkl:(SN j).K<(SN j).aB.length:=by grind[SN]
      split
      ·exact⟨hb,aGS hk _ ⟨aDK _,hbv.2⟩,.inr (h1.pl hkl _)⟩
      ·exact⟨hb.mem (a2L hb.1.1 _ _),hk,.inr (h1.pl hkl _)⟩
     ·split
      ·exact⟨hb,hk,.inr (hj.ab _)⟩
      ·rename_i hn;have hpn:0<=fS j.aB j.K:=by grind[fS]
       have hi2:(fS j.aB j.K).toNat<j.dF.length:=by omega
       have en:FJ j=j.dF[(fS j.aB j.K).toNat]:=by grind[FJ]
       have hnew:lW (FJ j):=by rw[en];exact hj.new.2 _ (dC hi2)
       split
       ·exact⟨hb.mem (a2K hb.1.1 _ _),hk,.inr (hj.pc 13)⟩
       ·exact⟨hb,aGS hk _ ⟨.inr hnew,hbv.2⟩,.inr ((hj.pc 9).kk (k:=j.K+1) (by omega))⟩
 refine aF2 (fun _=>?_) fun _=>?_
 ·unfold PK;split
  ·rename_i hp;have er:AM j=j.aQ[0]:=by grind[AM]
   have hbk:=hj.held.1 j.aQ[0] (dC hp);rw[<-er] at hbk;have hbv:=bkv hbk;have hver:=hbv.2.1;refine⟨hb,aGS hk _ ?_,.inr ⟨hj.busy,hj.ZX,hj.h,hj.prev,hj.bkt,hj.at_,hj.k,hj.new,hj.old,hj.reads,hj.wr,⟨fun x hx=>hj.held.1 x (Z6 hx),hj.held.2.sublist (List.drop_sublist _ _)⟩,hj.res,hj.node⟩⟩;split
   ·refine⟨hbv.1,?_,by simp⟩;grind
   ·exact⟨hbv.1,hbv.2.1,by simp⟩
  ·split
   ·exact⟨hb,hk,.inr (hj.pc 17)⟩
   ·exact⟨hb,hk,.inr (((hj.pc 15).kk (k:=0) (by omega)).rtn)⟩
 refine aF2 (fun _=>?_) fun _=>?_
 ·have hol:=hj.old.1;unfold MN;split
  ·exact⟨hb,hk,.inr (hj.pc 18)⟩
  ·refine⟨hbs,hk,.inr ?_⟩;simp only;split
   ·exact((hj.kk (k:=j.K+1) (by omega)).sub _).rtn
   ·exact hj.sub _
 refine aF2 (fun _=>?_) fun _=>?_
 ·unfold KX;split
  ·exact⟨hb,hk,.inr (hj.pc 18)⟩
  ·rename_i hp;have hp0:0<j.dF.length:=by omega
   have er:j.dF.getD 0 0=j.dF[0]:=by grind
   have hh:=hj.new.2 j.dF[0] (dC hp0);rw[<-er] at hh;refine⟨?_,hk,.inr ⟨hj.busy,hj.ZX,hj.h,hj.prev,hj.bkt,hj.at_,hj.k,⟨by show(j.dF.drop 1).length<=6;have:=hj.new.1;simp;omega,fun x hx=>hj.new.2 x (Z6 hx)⟩,hj.old,hj.reads,hj.wr,hj.held,hj.res,hj.node⟩⟩;grind[bAR]
 refine aF2 (fun _=>?_) fun _=>?_
 ·obtain⟨r,e1,e2,h1,h2⟩:=aQN hb.1.2.1 hw;rw[aL7 hb.1.2.1 hw] at e1;injection e1 with e1
  refine⟨hb.clock (by grind) (by grind),hk,.inr (hj.pc 19)⟩
 refine aF2 (fun _=>?_) fun _=>?_
 ·exact⟨hb,hk,.inl rfl⟩
 ·exact⟨hb,hk,.inr (hj.ab 1)⟩
theorem a2W{b:Batch}(hb:X7 b)(s:Int):JB (mE b s):=
 ⟨rfl,hb,.inl rfl,.inl rfl,by simp[mE],by simp[mE],by simp[mE],by simp[mE],by simp[mE],by simp[mE],⟨by simp[mE],by simp[mE],by simp[mE]⟩,by simp[mE],by simp[mE],by show(0:Int)<=0/\(0:Int)<=4294967295;omega⟩
theorem TV.step{t:Table}(hv:TV t){w:Int}(hw:0<=w/\w<=2):TV (kP t w):=by
 have hjv:=hv.K0.2 _ (KZ hv.K0.1 hw);have setj:∀{x:aE},(x=dP\/JB x)->(t.aO.set w.toNat x).length=3/\∀j∈t.aO.set w.toNat x,j=dP\/JB j:=fun hx=>
  ⟨by simpa using hv.K0.1,fun j hj=>(uY hj).elim (hv.K0.2 j) fun e=>e ▸ hx⟩
 unfold kP;split
 ·rename_i hbusy;have hj:JB (bK t w):=hjv.resolve_left fun e=>by rw[e] at hbusy;cases hbusy
  have h:=bAS hv.base hv.bk hw hj;exact⟨h.b,h.k,setj h.j,hv.todo,hv.ser⟩
 ·split
  ·exact hv
  ·rename_i hq;have hqi:w.toNat<t.dU.length:=by have:=hv.todo.1;omega
   have hqm:(⟨vU t w⟩:aL)∈t.dU:=by unfold vU;rw[PR,kG hqi];exact dC _
   have hqq:(vU t w).length<=12/\∀b∈vU t w,X7 b:=hv.todo.2 _ hqm;have hp0:0<(vU t w).length:=by omega
   have er:(vU t w).getD 0 ⟨false,[]⟩=(vU t w)[0]:=by grind
   have hbv:=hqq.2 (vU t w)[0] (dC hp0);rw[<-er] at hbv;have hs:=hv.ser;have hsn:t.aI≠1000000:=fun e=>hq (.inr e);unfold M5;refine⟨hv.base,hv.bk,setj (.inr (a2W hbv _)),⟨by simpa using hv.todo.1,fun q hq'=>?_⟩,⟨by grind,by grind⟩⟩;rcases uY hq' with h | h
   ·exact hv.todo.2 q h
   ·subst h;exact⟨by grind,fun b hb=>hqq.2 b (Z6 hb)⟩
end Go.Gv
end
noncomputable section
namespace Go.Gv
theorem aTO(c:iT):RS c=some (decide (X6 c)):=by
 unfold RS GV GU;simp only[fQ,aK];by_cases h1:1<=c.Kind/\c.Kind<=4
 ·by_cases h2:0<=c.Key/\c.Key<=99
  ·simp only[cZ h1,cZ h2,kV,bT,if_false];have dv:(c.Kind=2\/c.Kind=4)->decide (0<=c.dO/\c.dO<=65535)=decide (X6 c):=fun k=>by rw[IS,decide_eq_true_eq,decide_eq_true_eq];exact⟨fun h=>⟨h1,h2,h,by omega⟩,fun h=>h.2.2.1⟩
   by_cases k2:c.Kind=2
   ·grind
   ·have e:(c.Kind == 2)=false:=by grind
    by_cases k4:c.Kind=4
    ·grind
    ·have e4:(c.Kind == 4)=false:=by grind
     simp only[e,e4,bT,if_false];congr 1;rw[IS,beq_iff_eq,decide_eq_true_eq];constructor
     ·intro h;exact⟨h1,h2,by omega,.inr (.inr h)⟩
     ·rintro⟨_,_,_,h | h | h⟩<;>omega
  simp_all[gZ,X6]
 ·simp only[gZ h1,PQ,if_true];grind[X6]
theorem aTP(c:iT):RW c=some (decide (X6 c)):=by
 have key:∀B:Bool,uM c B=some (decide ((1<=c.Kind/\c.Kind<=4)/\(0<=c.Key/\c.Key<=99)/\((B=true/\(0<=c.dO/\c.dO<=65535))\/c.dO=0))):=fun B=>by unfold uM pZ;simp only[dL,aK];grind
 unfold RW;have fin:∀B:Bool,(B=true↔c.Kind=2\/c.Kind=4)->uM c B=some (decide (X6 c)):=fun B hB=>by rw[key];congr 1;rw[IS,decide_eq_true_eq,decide_eq_true_eq];grind[X6]
 grind
theorem aTQ{b:Batch}(hl:b.aY.length<=1000):J4 b=some (decide (X7 b)):=by
 unfold J4;cases hc:b.Collect
 ·rw[if_neg (by simp)];have hs:∀k (hk:k<b.aY.length),oT b (k:Int)=if X6 b.aY[k] then some (.next ((k+1:Nat):Int)) else some (.stop (Out.ret false)):=fun k hk=>by simp only[oT];rw[if_pos (by simp;omega),aV hk,aK,aTO,aK,aP (by omega) (by omega)];simp
  have key:loop (oT b) 0=_:=K3 (f:=oT b) b.aY (fun k=>(k:Int)) X6 (Out.brk ()) (Out.ret false) (fun k hk hp=>by grind) (fun k hk hp=>by grind) (by simp[oT]);rw[key];by_cases q:∀x∈b.aY,X6 x
  ·rw[if_pos q];simp only[aK,S4,S3,fQ];congr 1;rw[IS,decide_eq_true_eq,decide_eq_true_eq];exact⟨fun a=>⟨fun h=>(by grind),by omega,q,fun _=>by omega⟩,fun a=>by have:=a.2.2.2 hc;have:=a.2.1;omega⟩
  ·rw[if_neg q,gZ (show ¬X7 b from fun a=>q a.2.2.1)];rfl
 ·rw[if_pos rfl];congr 1;rw[IS,beq_iff_eq,decide_eq_true_eq];constructor
  ·intro h;have h0:b.aY=[]:=rY (by omega);exact⟨fun _=>h0,by omega,by grind,fun h=>by grind⟩
  ·intro h;rw[h.1 hc];rfl
def BsV(l:List Batch):Prop:=∀b∈l,X7 b
instance (l:List Batch):Decidable (BsV l):=by unfold BsV;infer_instance
theorem aTR{l:List aL}(hl:l.length<=1000)(hb:∀q∈l,∀b∈q.List,b.aY.length<=1000):J5 l=some (decide (WK l)):=by
 unfold J5;have inner:∀k (hk:k<l.length),l[k].List.length<=12->loop (oV l (k:Int)) 0=some (if BsV l[k].List then Out.brk () else Out.ret false):=by
  intro k hk h12;have hs:∀j (hj:j<l[k].List.length),oV l (k:Int) (j:Int)=if X7 l[k].List[j] then some (.next ((j+1:Nat):Int)) else some (.stop (Out.ret false)):=by intro j hj;simp only[oV];rw[aV hk,aK,if_pos (by simp;omega),aK,aV hj,aK,aTQ (hb _ (dC hk) _ (dC hj)),aK,aP (by omega) (by omega)];simp
  have:=K3 (f:=oV l (k:Int)) l[k].List (fun j=>(j:Int)) X7 (Out.brk ()) (Out.ret false) (fun j hj hp=>by grind) (fun j hj hp=>by grind) (by
   simp_all[oV,aV])
  refine Eq.trans this ?_;congr 1
 have hs:∀k (hk:k<l.length),oW l (k:Int)=if QuV l[k] then some (.next ((k+1:Nat):Int)) else some (.stop (Out.ret false)):=by
  intro k hk;simp only[oW];rw[if_pos (by simp;omega),aV hk,aK];by_cases h12:l[k].List.length<=12
  ·rw[if_neg (by simp;omega),inner k hk h12];by_cases q:BsV l[k].List
   ·rw[if_pos q,if_pos (show QuV l[k] from⟨h12,q⟩)];simp only[aK,S7,S6];grind[aP]
   ·rw[if_neg q,if_neg (show ¬QuV l[k] from fun a=>q a.2)];rfl
  ·rw[if_pos (by simp;omega),if_neg (show ¬QuV l[k] from fun a=>h12 a.1)]
 have key:loop (oW l) 0=_:=K3 (f:=oW l) l (fun k=>(k:Int)) QuV (Out.brk ()) (Out.ret false) (fun k hk hp=>by grind) (fun k hk hp=>by grind) (by simp[oW]);rw[key];by_cases q:∀x∈l,QuV x
 ·rw[if_pos q];simp only[aK,S8,S5];congr 1;rw[IS];simp only[beq_iff_eq,decide_eq_true_eq];exact⟨fun a=>⟨by omega,q⟩,fun a=>by have:=a.1;omega⟩
 ·rw[if_neg q,gZ (show ¬WK l from fun a=>q a.2)];rfl
theorem K5{α:Type}{l:List α}{f:Int->Option (Step Int (Out Unit Int))}{p:α->Bool}{m:(Out Unit Int)->Option Int}(hl:l.length<=4611686018427387904)
  (hf:∀k:Nat,f (k:Int)=if h:k<l.length then(if p l[k] then some (.stop (Out.ret (k:Int))) else some (.next ((k+1:Nat):Int))) else some (.stop (Out.brk ()))) (m1:∀r,m (.ret r)=some r) (m2:m (.brk ())=some (-1)) :
  ((loop f 0).bind m).bind (fun x1=>some (decide (0<=x1)))=some (l.any p):=by
 rcases VY (f:=f) (p:=p) hl hf l.length 0 (by omega) with ⟨j,h,_,h2,h3,h4⟩ | ⟨h1,h2⟩
 ·rw[show(0:Int)=((0:Nat):Int) from rfl,h4,aK,m1,aK,cZ (by omega)];grind
 ·rw[show(0:Int)=((0:Nat):Int) from rfl,h2,aK,m2,aK,gZ (by omega)];congr 1;refine(aGX.2 fun x hx=>?_).symm;obtain⟨i,hi,rfl⟩:=Z4 hx;grind
theorem aOD{l:List iT}(hl:l.length<=1000){f:iT->Bool}{g:iT->Option Bool}(hg:∀x∈l,g x=some (f x)):rH l g=some (l.any f):=
 K5 (f:=rG l g) (m:=CS) (by omega) (fun k=>by
  simp only[rG];by_cases h:k<l.length
  ·rw[dif_pos h,if_pos (by simp;omega),aV h,aK,hg _ (dC h),aK,aP (by omega) (by omega)];rfl
  grind) (fun _=>rfl) rfl
theorem aJK{l:List Batch}(hl:l.length<=1000){f:Batch->Bool}{g:Batch->Option Bool}(hg:∀x∈l,g x=some (f x)):oP l g=some (l.any f):=
 K5 (f:=oN l g) (m:=yO) (by omega) (fun k=>by
  simp only[oN];by_cases h:k<l.length
  ·rw[dif_pos h,if_pos (by simp;omega),aV h,aK,hg _ (dC h),aK,aP (by omega) (by omega)];rfl
  grind) (fun _=>rfl) rfl
theorem T2{l:List aL}(hl:l.length<=1000){f:aL->Bool}{g:aL->Option Bool}(hg:∀x∈l,g x=some (f x)):j4 l g=some (l.any f):=
 K5 (f:=nU l g) (m:=wJ) (by omega) (fun k=>by
  simp only[nU];by_cases h:k<l.length
  ·rw[dif_pos h,if_pos (by simp;omega),aV h,aK,hg _ (dC h),aK,aP (by omega) (by omega)];rfl
  grind) (fun _=>rfl) rfl
theorem aOE{α:Type}{l:List α}{P:α->Prop}[DecidablePred P]:(!(l.any fun x=>!decide (P x)))=decide (∀x∈l,P x):=by grind
theorem aJL{b:Batch}(hl:b.aY.length<=1000):DX b=some (decide (X7 b)):=by
 unfold DX;cases hc:b.Collect
 ·rw[if_neg (by simp),dL,aK];by_cases h:1<=(b.aY.length:Int)/\(b.aY.length:Int)<=6
  ·rw[cZ h,if_pos rfl,aOD hl (f:=fun x=>!decide (X6 x)) (fun x _=>by grind[LJ,aTP]),aK,aOE];unfold tT;congr 1;rw[IS,decide_eq_true_eq,decide_eq_true_eq];exact⟨fun a=>⟨fun h=>(by grind),by omega,a,fun _=>by omega⟩,fun a=>a.2.2.1⟩
  ·rw[gZ h,if_neg (by simp)];grind[tT,X7]
 ·rw[if_pos rfl];congr 1;rw[IS,beq_iff_eq,decide_eq_true_eq];constructor
  ·intro h;have h0:b.aY=[]:=rY (by omega);exact⟨fun _=>h0,by omega,by grind,fun h=>by grind⟩
  ·intro h;rw[h.1 hc];rfl
theorem aJM{l:List aL}(hl:l.length<=1000)(hq:∀q∈l,q.List.length<=1000)(hb:∀q∈l,∀b∈q.List,b.aY.length<=1000):D1 l=some (decide (WK l)):=by
 have e1:∀q∈l,D0 q=some (!decide (QuV q)):=fun q hm=>by
  unfold D0 vH;by_cases h:q.List.length<=12
  ·rw[if_neg (by simp;omega),aJK (hq q hm) (f:=fun x=>!decide (X7 x)) (fun x hx=>by grind[GA,aJL]),aK];congr 1;rw[<-Bool.not_not ((q.List.any fun x=>!decide (X7 x))),aOE];congr 1;rw[IS,decide_eq_true_eq,decide_eq_true_eq];exact⟨fun a=>⟨h,a⟩,fun a=>a.2⟩
  ·rw[if_pos (by simp;omega),gZ (show ¬QuV q from fun a=>h a.1)];rfl
 unfold D1 AV;by_cases h:l.length=3
 ·rw[if_pos (by simp;omega),T2 hl e1,aK,aOE];congr 1;rw[IS,decide_eq_true_eq,decide_eq_true_eq];exact⟨fun a=>⟨h,a⟩,fun a=>a.2⟩
 ·rw[if_neg (by simp;omega),gZ (show ¬WK l from fun a=>h a.1)]
theorem aOF{b:Batch}(h:b.aY.length<=1000):GW b=some b/\vZ b=some b:=by unfold GW vZ RT kX;rw[aM (by simp;omega)];simp
theorem aJN{l:List aL}(hl:l.length<=1000)(hq:∀q∈l,q.List.length<=1000)(hb:∀q∈l,∀b∈q.List,b.aY.length<=1000):DC l=some l/\v7 l=some l:=by
 constructor
 ·unfold DC;rw[aI0 l]
  ·rfl
  ·intro k hk;have h1:=hq _ (dC hk);simp only[DB];rw[if_pos (by simp;omega),XB l[k].List]
   ·simp only[aK,NO,NN];rw[aM (by simp;omega),aP (by omega) (by omega)];rfl
   ·intro i hi;simp only[DA,C9];rw[aV hk,aK,if_pos (by simp;omega),aK,aV hi,aK,(aOF (hb _ (dC hk) _ (dC hi))).1,aK,aM (by simp;omega),aP (by omega) (by omega)];rfl
   simp_all[DA,aV]
  grind[DB]
 ·unfold v7;rw[aI0 l]
  ·rfl
  ·intro k hk;have h1:=hq _ (dC hk);simp only[DL];rw[if_pos (by simp;omega),aV hk,aK,XB l[k].List]
   ·simp only[aK,NT,NS];rw[aM (by simp;omega),aP (by omega) (by omega)];rfl
   ·intro i hi;simp only[DK,DJ];rw[if_pos (by simp;omega),aV hi,aK,(aOF (hb _ (dC hk) _ (dC hi))).2,aK,aM (by simp;omega),aP (by omega) (by omega)];rfl
   grind[DK]
  grind[DL]
def BM:Table:=⟨⟨⟨⟨[],[]⟩,⟨[],[]⟩⟩,⟨0,[]⟩,[],[]⟩,[],[],[],[],0⟩
def eO(t:List aL):Table:=⟨aVX,List.replicate 2 ⟨0,0,0⟩,List.replicate 3 dP,t,[],0⟩
theorem WN{t:List aL}(hl:t.length<=1000)(hq:∀q∈t,q.List.length<=1000)(hb:∀q∈t,∀b∈q.List,b.aY.length<=1000):GX t=some (if WK t then eO t else BM)/\HF t=some (if WK t then eO t else BM):=by
 unfold GX HF;rw[aTR hl hb,aJM hl hq hb];simp only[aK];by_cases h:WK t
 ·simp only[cZ h,kV,bT,if_false,if_pos h,aJD.1,aJD.2,aK,(aJN hl hq hb).1,(aJN hl hq hb).2];rw[aM (by omega),aM (by omega)];exact⟨rfl,rfl⟩
 ·simp only[gZ h,PQ,if_true,if_neg h];exact⟨rfl,rfl⟩
theorem aMG{t:List aL}(h:WK t):TV (eO t):=
 ⟨a2M,⟨rfl,fun x hx=>by simp[eO] at hx;subst hx;exact⟨.inl rfl,by simp,by simp⟩⟩,⟨rfl,fun j hj=>by grind[eO]⟩,h,by show(0:Int)<=0/\(0:Int)<=1000000;omega⟩
def WO(t:Table)(p:Int):Table:=if 0<=p/\p<=2 then kP t p else t
def OF(t:Table)(l:List Int):Table:=l.foldl WO t
theorem dX{P:TR->Prop}{c:Prop}[Decidable c]{a b:TR}(h1:c->P a)(h2:¬c->P b):P (if c then a else b):=by grind
theorem a6T(b:aC)(k:List bY)(w:Int)(j:aE):(JN b k w j).l.length<=1:=by unfold JN;refine dX (P:=fun r=>r.l.length<=1) (fun _=>jT _) fun _=>dX (P:=fun r=>r.l.length<=1) (fun _=>jT _) fun _=>dX (P:=fun r=>r.l.length<=1) (fun _=>jT _) fun _=>dX (P:=fun r=>r.l.length<=1) (fun _=>jT _) fun _=>dX (P:=fun r=>r.l.length<=1) (fun _=>?_) fun _=>dX (P:=fun r=>r.l.length<=1) (fun _=>jT _) fun _=>dX (P:=fun r=>r.l.length<=1) (fun _=>jT _) fun _=>dX (P:=fun r=>r.l.length<=1) (fun _=>jT _) fun _=>dX (P:=fun r=>r.l.length<=1) (fun _=>jT _) fun _=>dX (P:=fun r=>r.l.length<=1) (fun _=>jT _) fun _=>dX (P:=fun r=>r.l.length<=1) (fun _=>jT _) fun _=>dX (P:=fun r=>r.l.length<=1) (fun _=>lB _) fun _=>jT _;grind
theorem XC(t:Table)(p:Int):(WO t p).Log.length<=t.Log.length+1:=by
 unfold WO kP;split
 ·split
  ·have:=a6T t.aC t.b8 p (bK t p);show(t.Log++_).length<=_;grind
  ·split
   ·omega
   ·show(t.Log++_).length<=_;simp
 ·omega
theorem aQV{t:Table}(h:TV t)(p:Int):TV (WO t p):=by
 unfold WO;split
 ·exact h.step (by assumption)
 ·exact h
theorem aJO{P:Table->Prop}(hs:∀t w,TV t->(0<=w/\w<=2)->P t->P (kP t w)):∀(l:List Int) {t:Table},TV t->P t->TV (OF t l)/\P (OF t l)
 | [],t,h,hp=>⟨h,hp⟩
 | p :: l,t,h,hp=>aJO hs l (aQV h p) (by grind[WO])
theorem aMH{x:vC}{n:Nat}(hn:((x.j7.take ((if 400<(x.j7.length:Int) then 400 else(x.j7.length:Int)).toNat)).drop 0)=x.j7.take n)(h400:(x.j7.take n).length<=400):∀(d k:Nat) (t:Table),k+d=(x.j7.take n).length->TV t->t.Log.length<=k->loop (pO x) ((k:Int),t)=some (OF t ((x.j7.take n).drop k))
 | 0, k, t, hk, hv, hl => by rw[List.drop_of_length_le (by omega)];refine bM ?_;simp only[pO,hn];rw[if_neg (by grind)];rfl
 | d + 1, k, t, hk, hv, hl => by
  have hkl:k<(x.j7.take n).length:=by omega
  have st:pO x ((k:Int),t)=some (.next (((k+1:Nat):Int),WO t (x.j7.take n)[k])):=by
   simp only[pO,hn];rw[if_pos (by grind),aV hkl,aK,nI,aK];unfold vM WO;rw[aP (by omega) (by omega)];by_cases hp:0<=(x.j7.take n)[k]/\(x.j7.take n)[k]<=2
   ·rw[cZ hp,if_pos rfl,aQS hv (by omega) hp,if_pos hp];rfl
   grind
  rw[bU st,aMH hn h400 d (k+1) _ (by omega) (aQV hv _) (by grind[XC]),zK hkl];rfl
theorem aOG{x:vC}(hl:x.dU.length<=1000)(hq:∀q∈x.dU,q.List.length<=1000)(hb:∀q∈x.dU,∀b∈q.List,b.aY.length<=1000)(ht:WK x.dU):nZ x=some (OF (eO x.dU) (x.j7.take 400)):=by
 unfold nZ;rw[(WN hl hq hb).2,if_pos ht,aK,if_neg (by simp[eO])];have hn:((x.j7.take ((if 400<(x.j7.length:Int) then 400 else(x.j7.length:Int)).toNat)).drop 0)=x.j7.take 400:=by
  (simp_all;omega)
 rw[aM (by omega),show(0:Int)=((0:Nat):Int) from rfl,aMH hn (by grind) (x.j7.take 400).length 0 _ (by omega) (aMG ht) (by simp[eO]),aK];rfl
end Go.Gv
end
noncomputable section
namespace Go.Gv
def QuS(m:Int)(q:aL):Prop:=(q.List.length:Int)<=m/\∀x∈q.List,x.aY.length<=1000
noncomputable section
variable {b:List UInt8} {i h:Int} (hc:Cu b i)
include hc
def a6U(l:List aL):Prop:=l.length<=3/\∀q∈l,QuS 100 q
theorem a6V{m:Int}(hm:m<=100):CH (GS ⟨b,i,h⟩ m) (fun x=>x.1.length<=4000/\Cu b x.2.1):=by
 unfold GS;refine .bind (below hc (by omega)) fun x1 ⟨hx1,h1⟩=>?_;refine .bind (P:=fun x=>x.1.length<=4000/\Cu b x.2.1) (.loop (fun s=>s.2.1.toNat) (fun s=>(0<=s.2.1/\s.1.length+8*s.2.1<=4000)/\Cu b s.2.2.1) ⟨⟨hx1.1,by simp;omega⟩,h1⟩ ?_) fun x hx=>.ret hx;rintro⟨l,n,i1,h1⟩ ⟨⟨n0,n1⟩,hi1⟩;simp only at n0 n1 hi1;simp only[QH];refine .ite (fun q=>?_) (fun q=>?_)
 ·have q':=of_decide_eq_true q;refine .bind (below hi1 (by omega)) fun x13 ⟨_,h13⟩=>.bind (below h13 (by omega)) fun x14 ⟨hx14,h14⟩=>?_;rw[aP (by omega) (by omega)];refine .bind (P:=fun x=>(x.length:Int)<=l.length+8) (.loop (fun s=>s.2.toNat) (fun s=>0<=s.2/\(s.1.length:Int)+s.2<=l.length+8) ⟨by omega,by grind⟩ ?_) ?_
  ·rintro⟨r,k⟩ ⟨k0,k1⟩;simp only at k0 k1;simp only[QF];refine .ite (fun q=>?_) (fun q=>?_)
   ·have q2:=of_decide_eq_true q;refine .need (by simp;omega) (.ret ?_);grind[aP]
   ·exact .ret (by omega)
  ·intro r hr;simp only[QG,QE];refine .ret ?_;grind[aP]
 ·exact .ret ⟨by grind,hi1⟩
end
theorem a6U.fit{l:List aL}(h:a6U l):l.length<=1000/\(∀q∈l,q.List.length<=1000)/\∀q∈l,∀b∈q.List,b.aY.length<=1000:=
 ⟨by have:=h.1;omega,fun q hq=>by have:=(h.2 q hq).1;omega,fun q hq=>(h.2 q hq).2⟩
theorem aX7{x:vC}(hx:a6U x.dU):NP x=some (decide (WK x.dU)):=by
 obtain⟨h1,h2,h3⟩:=hx.fit;unfold NP;rw[(WN h1 h2 h3).1,aK];by_cases h:WK x.dU
 ·rw[if_pos h,cZ h];rfl
 ·rw[if_neg h,gZ h];rfl
end Go.Gv
end
noncomputable section
namespace Go.Gv
def tL(p:Int):Prop:=(7<=p/\p<=14)\/p=16
structure YT (k:List bY) (w:Int) (j:aE):Prop where
 iff:∀b,0<=b/\b<=1->(b∈j.aQ↔(iP k b).gP=w+1)
 pc:j.aQ≠[]->tL j.Pc
def aTS(k k':List bY)(w:Int):Prop:=∀b,0<=b/\b<=1->(iP k' b).gP=(iP k b).gP\/((iP k b).gP=0/\(iP k' b).gP=w+1)\/((iP k b).gP=w+1/\(iP k' b).gP=0)
theorem OG{k:List bY}{i b:Int}{y:bY}(h2:k.length=2)(hi:0<=i/\i<=1)(hb:0<=b/\b<=1):iP (k.set i.toNat y) b=if b=i then y else iP k b:=by unfold iP;grind
def LkR(k:List bY)(w:Int)(r:TR):Prop:=YT r.k w r.j/\aTS k r.k w
noncomputable section
variable {k:List bY} {w:Int} {j:aE} (h:YT k w j)
include h
theorem YT.same{j':aE}(e:j'.aQ=j.aQ)(hp:j.aQ≠[]->tL j'.Pc):YT k w j':=⟨fun b hb=>by rw[e];exact h.iff b hb,fun q=>hp (by grind)⟩
theorem YT.none(hp:¬tL j.Pc):j.aQ=[]:=Classical.byContradiction fun q=>hp (h.pc q)
end
theorem hU(k:List bY)(w:Int):aTS k k w:=fun _ _=>.inl rfl
theorem aQW(j:aE)(x:aS):(zI j x).2.aQ=j.aQ:=by grind[zI,FD]
theorem aQX(j:aE)(c:iT)(v:Int)(is:Bool):(JM j c v is).aQ=j.aQ:=by
 unfold JM;split
 ·generalize (if is then v else 0)=u;unfold aJF;have h:=aQW j ⟨c.Key,false,UB u c.dO⟩;split
  ·exact h
  ·exact h
 ·rfl
theorem a2X(j:aE):(WJ j).aQ=j.aQ:=by grind[WJ,aQW,aQX]
theorem aX9(b:aC)(k:List bY)(w:Int)(j:aE):(J1 b k w j).aQ=j.aQ:=by
 unfold J1;split
 ·split<;>rfl
 ·split
  ·rfl
  ·split
   ·split
    ·rfl
    ·split<;>rfl
   ·split
    ·rfl
    ·split
     ·rfl
     ·split
      ·grind[aQX]
      ·rfl
theorem a2Y(b:aC)(w:Int)(j:aE):(IM b w j).2.aQ=j.aQ:=by
 unfold IM;split
 ·rfl
 ·simp only;split
  ·rfl
  ·split<;>rfl
theorem a6W(j:aE)(x:aS):(PO j x).aQ=j.aQ/\((PO j x).Pc=9\/(PO j x).Pc=12):=by grind[PO]
theorem a2Z(j:aE):(SN j).aQ=j.aQ:=by grind[SN]
theorem aQY(j:aE):(SO j).aQ=j.aQ:=by grind[SO]
theorem a21(b:aC)(w:Int)(j:aE):(MN b w j).2.aQ=j.aQ:=by grind[MN,aQY]
theorem a23(b:aC)(w:Int)(j:aE):(KX b w j).2.aQ=j.aQ:=by grind[KX]
theorem a25(b:aC)(w:Int)(j:aE):(zJ b w j).2.aQ=j.aQ:=by grind[zJ]
theorem a6X(b:aC){k:List bY}(h2:k.length=2){w:Int}{j:aE}(hj:JB j)(h:YT k w j)(hpc:9<=j.Pc/\j.Pc<=13):YT (E9 b k j).2.1 w (E9 b k j).2.2/\aTS k (E9 b k j).2.1 w:=by
 have p14:tL 14:=.inl (by omega);have pl:∀(j':aE) (x:aS),j'.aQ=j.aQ->YT k w (PO j' x):=fun j' x e=>by obtain⟨e1,e2⟩:=a6W j' x;exact h.same (e1.trans e) fun _=>by rcases e2 with e2 | e2<;>rw[e2]<;>exact .inl (by omega)
 have head:∀{i:Int} {x:Int} {j':aE},0<=i/\i<=1->YT k w j'->YT (k.set i.toNat {iP k i with Head:=x}) w j'/\aTS k (k.set i.toNat {iP k i with Head:=x}) w:=fun{i x j'} hi hj'=>by
  have e:∀b,0<=b/\b<=1->(iP (k.set i.toNat {iP k i with Head:=x}) b).gP=(iP k b).gP:=fun b hb=>by grind[OG]
  exact⟨⟨fun b hb=>by rw[e b hb];exact hj'.iff b hb,hj'.pc⟩,fun b hb=>.inl (e b hb)⟩
 unfold E9;by_cases c1:(j.aB.length:Int)<=j.K
 ·rw[if_pos c1];exact⟨h.same rfl fun _=>p14,hU _ _⟩
 rw[if_neg c1];have hk:=hj.k;have hi:j.K.toNat<j.aB.length:=by omega
 have er:rX j=j.aB[j.K.toNat]:=by grind[rX]
 have hx:=hj.wr.2.1 j.aB[j.K.toNat] (dC hi);rw[<-er] at hx;have hbk:0<=oJ (rX j).Key/\oJ (rX j).Key<=1:=by unfold oJ;omega
 by_cases c2:j.Pc=9
 ·rw[if_pos c2];refine⟨?_,hU _ _⟩;simp only;split
  ·grind
  ·exact h.same rfl fun _=>.inl (by simp)
 rw[if_neg c2];by_cases c3:j.Pc=10
 ·rw[if_pos c3];refine⟨?_,hU _ _⟩;simp only;split
  ·exact h.same rfl fun _=>.inl (by simp)
  ·split
   ·grind
   ·exact h.same rfl fun q=>h.pc q
 rw[if_neg c3];by_cases c4:j.Pc=11
 ·rw[if_pos c4];grind[a2Z,hU]
 rw[if_neg c4];split
 ·exact⟨h.same rfl fun _=>.inr rfl,hU _ _⟩
 ·split
  ·exact⟨h.same rfl fun _=>.inl (by simp),hU _ _⟩
  ·exact head hbk (h.same rfl fun _=>.inl (by simp))
theorem a6Y{k:List bY}(h2:k.length=2){w:Int}(hw:0<=w){j:aE}(hj:JB j)(h:YT k w j)(hpc:j.Pc=7):YT (PJ k w j).1 w (PJ k w j).2.1/\aTS k (PJ k w j).1 w:=by
 have p8:tL 8:=.inl (by omega);unfold PJ;by_cases c1:j.K<(qI j.aB).length
 ·rw[if_pos c1];have hk:=hj.k;have hi:j.K.toNat<(qI j.aB).length:=by omega
  have er:gR j=(qI j.aB)[j.K.toNat]:=by grind[gR]
  have hbk:0<=gR j/\gR j<=1:=by grind[WA,dC]
  by_cases c2:(iP k (gR j)).gP≠0\/(j.Reads.any fun s=>s.bY == gR j && s.fX != (iP k (gR j)).fX)=true
  ·rw[if_pos c2];exact⟨h.same rfl fun _=>.inr rfl,hU _ _⟩
  rw[if_neg c2];have c0:(iP k (gR j)).gP=0:=Classical.byContradiction fun q=>c2 (.inl q);split
  ·exact⟨h.same rfl fun _=>.inr rfl,hU _ _⟩
  have hnm:gR j∉j.aQ:=fun q=>by have:=(h.iff _ hbk).1 q;omega
  have hto:aTS k (k.set (gR j).toNat {iP k (gR j) with gP:=w+1}) w:=fun b hb=>by grind[OG]
  have hkeep:∀j':aE,j'.aQ=j.aQ ++ [gR j]->tL j'.Pc->YT (k.set (gR j).toNat {iP k (gR j) with gP:=w+1}) w j':=fun j' e hp=>⟨fun b hb=>by
   rw[e,fB,HQ,OG h2 hbk hb];split
   ·grind
   ·rename_i q;rw[h.iff b hb];omega,fun _=>hp⟩
  have hh:(PI j).aQ=j.aQ ++ [gR j]:=by simp_all[PI]
  split
  ·grind
  ·refine⟨hkeep _ hh ?_,hto⟩;show tL j.Pc;rw[hpc];exact .inl (by omega)
 ·rw[if_neg c1];exact⟨h.same rfl fun _=>p8,hU _ _⟩
theorem a6Z{k:List bY}(h2:k.length=2){w:Int}(hw:0<=w){j:aE}(hj:JB j)(h:YT k w j)(hpc:j.Pc=14\/j.Pc=16):YT (PK k j).1 w (PK k j).2/\aTS k (PK k j).1 w:=by
 have hp:tL j.Pc:=by rcases hpc with e | e<;>rw[e];exact .inl (by omega);exact .inr rfl
 unfold PK;by_cases c1:0<j.aQ.length
 ·rw[if_pos c1];have er:AM j=j.aQ[0]:=by grind[AM]
  have hm:AM j∈j.aQ:=by grind
  have hbk:=hj.held.1 _ hm;have hl:=(h.iff _ hbk).1 hm;obtain⟨y,hy,hy0⟩:∃y:bY,(if j.Pc=14 then(⟨(iP k (AM j)).Head,if 1000000<(iP k (AM j)).fX+1 then 1000000 else(iP k (AM j)).fX+1,0⟩:bY) else {iP k (AM j) with gP:=0})=y/\y.gP=0:=by grind
  simp only;rw[hy];have hd:j.aQ=AM j :: j.aQ.drop 1:=by rw[er];exact(zK (i:=0) c1)
  have hn:=hj.held.2;rw[hd,aDX] at hn;refine⟨⟨fun b hb=>?_,fun _=>hp⟩,fun b hb=>?_⟩
  ·show b∈j.aQ.drop 1↔_;rw[OG h2 hbk hb];split
   ·grind
   ·rename_i e;have:=h.iff b hb;grind
  grind[OG]
 ·rw[if_neg c1];have hnil:j.aQ=[]:=rY (by omega);split
  ·exact⟨h.same rfl fun q=>absurd hnil q,hU _ _⟩
  ·exact⟨h.same (aQY {j with Pc:=15,K:=0}) fun q=>absurd hnil q,hU _ _⟩
theorem bAT{b:aC}{k:List bY}{w:Int}{j:aE}(h2:k.length=2)(hw:0<=w/\w<=2)(hj:JB j)(h:YT k w j):LkR k w (JN b k w j):=by
 have nh:∀{p:Int},¬tL p->j.Pc=p->j.aQ=[]:=fun hp e=>h.none (by grind);have no:∀{j':aE},j'.aQ=j.aQ->j.aQ=[]->YT k w j':=fun e e0=>h.same e fun q=>absurd e0 q;have out:∀{p:Int},j.Pc=p->¬tL p->j.aQ=[]:=fun e hp=>nh hp e;unfold JN;refine dX (P:=LkR k w) (fun p=>⟨no (a25 b w j) (h.none (by grind[tL])),hU _ _⟩) fun _=>dX (P:=LkR k w) (fun p=>⟨no (a2X j) (h.none (by grind[tL])),hU _ _⟩) fun _=>
  dX (P:=LkR k w) (fun p=>⟨no (aX9 b k w j) (h.none (by grind[tL])),hU _ _⟩) fun _=>dX (P:=LkR k w) (fun p=>⟨no (a2Y b w j) (h.none (by grind[tL])),hU _ _⟩) fun _=>
  dX (P:=LkR k w) (fun p=>a6Y h2 hw.1 hj h p) fun _=>dX (P:=LkR k w) (fun p=>⟨?_,hU _ _⟩) fun _=>
  dX (P:=LkR k w) (fun p=>a6X b h2 hj h p) fun _=>dX (P:=LkR k w) (fun p=>a6Z h2 hw.1 hj h p) fun _=>
  dX (P:=LkR k w) (fun p=>⟨no (a21 b w j) (h.none (by grind[tL])),hU _ _⟩) fun _=>dX (P:=LkR k w) (fun p=>⟨no (a23 b w j) (h.none (by grind[tL])),hU _ _⟩) fun _=>
  dX (P:=LkR k w) (fun p=>⟨no rfl (h.none (by grind[tL])),hU _ _⟩) fun _=>dX (P:=LkR k w) (fun p=>⟨no (j':=dP) (h.none (by grind[tL])).symm (h.none (by grind[tL])),hU _ _⟩) fun _=>⟨h.same rfl fun _=>.inr rfl,hU _ _⟩
 show YT k w (X5 k w j);unfold X5;split
 ·exact h.same rfl fun _=>.inl (by simp)
 ·split
  ·exact h.same rfl fun _=>.inr rfl
  ·exact h.same rfl fun q=>h.pc q
def aJP(t:Table):Prop:=∀w,0<=w/\w<=2->YT t.b8 w (bK t w)
theorem aJQ{t:Table}{l:List aE}{w v:Int}{x:aE}(h3:t.aO.length=3)(hl:l=t.aO.set w.toNat x)(hw:0<=w/\w<=2)(hv:0<=v/\v<=2):l.getD v.toNat dP=if v=w then x else bK t v:=by subst hl;unfold bK;grind
theorem aJP.step{t:Table}(hv:TV t){w:Int}(hw:0<=w/\w<=2)(h:aJP t):aJP (kP t w):=by
 have h3:=hv.K0.1;have hjv:=hv.K0.2 _ (KZ h3 hw);unfold kP;split
 ·rename_i hbusy;have hj:JB (bK t w):=hjv.resolve_left fun e=>by rw[e] at hbusy;cases hbusy
  obtain⟨g1,g2⟩:=bAT (b:=t.aC) hv.bk.1 hw hj (h w hw);intro v hv';have ej:bK (KY t w (JN t.aC t.b8 w (bK t w))) v=if v=w then(JN t.aC t.b8 w (bK t w)).j else bK t v:=aJQ h3 rfl hw hv';rw[ej];show YT (JN t.aC t.b8 w (bK t w)).k v _;split
  ·rename_i e;rw[e];exact g1
  ·rename_i e;refine⟨fun b hb=>?_,(h v hv').pc⟩;rw[(h v hv').iff b hb];rcases g2 b hb with q | ⟨q1,q2⟩ | ⟨q1,q2⟩
   ·rw[q]
   ·rw[q1,q2];omega
   ·rw[q1,q2];omega
 ·rename_i hbusy;split
  ·exact h
  ·intro v hv';generalize (vU t w).getD 0 ⟨false,[]⟩=b;have ej:bK (M5 t w b) v=if v=w then mE b (t.aI+1) else bK t v:=aJQ h3 rfl hw hv';rw[ej];show YT t.b8 v _;split
   ·rename_i e;subst e;have hn:(bK t v).aQ=[]:=by
     rcases hjv with e | hj
     ·rw[e];rfl
     ·exact absurd hj.busy hbusy
    exact(h v hv').same hn.symm fun q=>absurd hn q
   ·exact h v hv'
theorem aJP.zero(l:List aL):aJP (eO l):=fun w hw=>by
 have e:bK (eO l) w=dP:=by
  have:w=0\/w=1\/w=2:=by omega
  rcases this with rfl | rfl | rfl<;>rfl
 rw[e];refine⟨fun b hb=>?_,fun q=>absurd rfl q⟩;have eb:(iP (eO l).b8 b).gP=0:=by
  have:b=0\/b=1:=by omega
  rcases this with rfl | rfl<;>rfl
 rw[eb];exact⟨fun q=>(by cases q),fun q=>(by omega)⟩
end Go.Gv
end
noncomputable section
namespace Go.Gv
theorem aV1(j:aE)(x:aS):(zI j x).2.aI=j.aI/\(zI j x).2.bX=j.bX:=by grind[zI,FD]
theorem aV2(j:aE)(c:iT)(v:Int)(is:Bool):(JM j c v is).aI=j.aI/\(JM j c v is).bX=j.bX:=by
 unfold JM;split
 ·generalize (if is then v else 0)=u;unfold aJF;have h:=aV1 j ⟨c.Key,false,UB u c.dO⟩;split
  ·exact h
  ·exact h
 ·exact⟨rfl,rfl⟩
theorem aV3(j:aE):(WJ j).aI=j.aI/\(WJ j).bX=j.bX:=by grind[WJ,aV1,aV2]
theorem aQZ(b:aC)(k:List bY)(w:Int)(j:aE):(J1 b k w j).aI=j.aI/\(J1 b k w j).bX=j.bX:=by
 unfold J1;split
 ·split<;>exact⟨rfl,rfl⟩
 ·split
  ·simp
  ·split
   ·split
    ·exact⟨rfl,rfl⟩
    ·split<;>exact⟨rfl,rfl⟩
   ·split
    ·exact⟨rfl,rfl⟩
    ·split
     ·exact⟨rfl,rfl⟩
     ·split
      ·grind[aV2]
      ·exact⟨rfl,rfl⟩
theorem aV4(b:aC)(w:Int)(j:aE):(IM b w j).2.aI=j.aI/\(IM b w j).2.bX=j.bX:=by
 unfold IM;split
 ·simp
 ·simp only;split
  ·simp
  ·split<;>exact⟨rfl,rfl⟩
theorem aV5(k:List bY)(w:Int)(j:aE):(PJ k w j).2.1.aI=j.aI/\(PJ k w j).2.1.bX=j.bX:=by
 unfold PJ;split
 ·split
  ·exact⟨rfl,rfl⟩
  ·split
   ·exact⟨rfl,rfl⟩
   ·split<;>exact⟨rfl,rfl⟩
 simp
theorem aV6(k:List bY)(w:Int)(j:aE):(X5 k w j).aI=j.aI/\(X5 k w j).bX=j.bX:=by
 unfold X5;split
 ·simp
 ·split<;>exact⟨rfl,rfl⟩
theorem aTT(j:aE)(x:aS):(PO j x).aI=j.aI/\(PO j x).bX=j.bX:=by grind[PO]
theorem a60(j:aE):(SN j).aI=j.aI/\(SN j).bX=j.bX:=by grind[SN]
theorem aV7(b:aC)(k:List bY)(j:aE):(E9 b k j).2.2.aI=j.aI/\(E9 b k j).2.2.bX=j.bX:=by
 unfold E9;split
 ·simp
 ·split
  ·grind[aTT]
  ·split
   ·grind[aTT]
   ·split
    ·grind[aTT,a60]
    ·split
     ·exact⟨rfl,rfl⟩
     grind
theorem aV8(j:aE):(SO j).aI=j.aI/\(SO j).bX=j.bX:=by grind[SO]
theorem aV9(k:List bY)(j:aE):(PK k j).2.aI=j.aI/\(PK k j).2.bX=j.bX:=by grind[PK,aV8]
theorem aWA(b:aC)(w:Int)(j:aE):(MN b w j).2.aI=j.aI/\(MN b w j).2.bX=j.bX:=by grind[MN,aV8]
theorem aWB(b:aC)(w:Int)(j:aE):(KX b w j).2.aI=j.aI/\(KX b w j).2.bX=j.bX:=by grind[KX]
theorem aWC(b:aC)(w:Int)(j:aE):(zJ b w j).2.aI=j.aI/\(zJ b w j).2.bX=j.bX:=by grind[zJ]
theorem aWD{t:Table}{l:List aE}{w v:Int}{x:aE}(h3:t.aO.length=3)(hl:l=t.aO.set w.toNat x)(hw:0<=w/\w<=2)(hv:0<=v/\v<=2):l.getD v.toNat dP=if v=w then x else bK t v:=by subst hl;unfold bK;grind
theorem aMI:∀(l:List Int) (t:Table),(OF t l).Log.length<=t.Log.length+l.length
 | [],t=>lB _
 | p :: l, t => by have h1:=aMI l (WO t p);grind[XC,OF]
end Go.Gv
end
noncomputable section
namespace Go.Gv
def isE(kind s:Int)(e:lV):Bool:=e.Kind == kind && e.aI == s
def aJR(l:List lV)(kind s:Int):Int:=if l.findIdx (isE kind s)<l.length then(l.findIdx (isE kind s):Int) else -1
theorem a26{l:List lV}{p:lV->Bool}{f:Int->Option (Step Int (Out Unit Int))}{m:(Out Unit Int)->Option Int}(hl:l.length<=1000000)
  (hf:∀k:Nat,f (k:Int)=if h:k<l.length then(if p l[k] then some (.stop (Out.ret (k:Int))) else some (.next ((k+1:Nat):Int))) else some (.stop (Out.brk ()))) (m1:∀r,m (.ret r)=some r) (m2:m (.brk ())=some (-1)) :
  (loop f 0).bind m=some (if l.findIdx p<l.length then(l.findIdx p:Int) else -1):=by
 rcases VY (f:=f) (p:=p) (by omega) hf l.length 0 (by omega) with ⟨j,h,_,h2,h3,h4⟩ | ⟨h1,h2⟩
 ·have e:l.findIdx p=j:=by rw[List.findIdx_eq h];exact⟨h3,fun i hi=>h2 i (by omega) (jT _) hi⟩
  rw[show(0:Int)=((0:Nat):Int) from rfl,h4,aK,m1,e,if_pos h]
 ·have e:¬l.findIdx p<l.length:=fun q=>by have:=List.findIdx_getElem (w:=q);rw[h1 _ q (jT _)] at this;cases this
  rw[show(0:Int)=((0:Nat):Int) from rfl,h2,aK,m2,if_neg e]
theorem aOH{l:List lV}(hl:l.length<=1000000)(kind s:Int):KO l kind s=some (aJR l kind s):=by
 unfold KO aJR;refine a26 hl (fun k=>?_) (fun _=>rfl) rfl;simp only[TH,BA];by_cases h:k<l.length
 ·rw[dif_pos h,if_pos (by simp;omega),aV h];grind[aP,isE]
 grind
theorem a27{l:List lV}{k s:Int}(h:0<=aJR l k s):(aJR l k s).toNat<l.length:=by unfold aJR at h ⊢;omega
theorem a61{l:List lV}{k s:Int}(h:0<=aJR l k s):idx l (aJR l k s)=some (l.getD (aJR l k s).toNat ⟨0,0,0,0,[],[]⟩):=by grind[a27,iC]
end Go.Gv
end
noncomputable section
namespace Go.Gv
noncomputable section
variable {b:aC} (hb:nC b)
include hb
theorem nC.fits:b.Mem.Heap.Bytes.length<=maxLen/\(iE b.Mem.aD).length<=1073741824/\b.aA.cH.length<=maxLen/\b.aN.length<=maxLen/\(dQ b.aN).length<=1073741824/\b.qH.length<=maxLen:=by obtain⟨h1,h2,h3,h4,_⟩:=mO.facts hb.1.1;have a:=hb.1.2.1.2.1;have c:=hb.1.2.2.1.1;have d:=hb.1.2.2.1.2.1;have e:=hb.1.2.2.2.1;grind[maxLen]
end
end Go.Gv
end
noncomputable section
namespace Go.Gv
theorem MO:∀{l m:List Int},l.Nodup->(∀x∈l,x∈m)->l.length<=m.length
 | [],_,_,_=>jT _
 | a :: t, m, hn, h => by rw[aDX] at hn;have ha:a∈m:=h a (aLH ..);have ih:=MO (l:=t) (m:=m.erase a) hn.2 (fun x hx=>(List.mem_erase_of_ne (fun e:x=a=>hn.1 (by rw[<-e];exact hx))).2 (h x (o7 _ hx)));have:=List.length_erase_of_mem ha;have hp:=List.length_pos_of_mem ha;simp only[JO];omega
end Go.Gv
end
noncomputable section
namespace Go.Gv
theorem ZW{m:Mem}(hm:mO m){w h:Int}(hw:0<=w/\w<=2)(hv:m5 m h):(∀t,bN (rW m w h).Heap t=bN m.Heap t)/\(∀t,0<=bN m.Heap t->kU (rW m w h).Heap t=if t=h % 32 then h / 32+1 else kU m.Heap t) /\
  (∀t,t≠h % 32->(t∈iE (rW m w h).aD↔t∈iE m.aD))/\eM (rW m w h) (h % 32)≠3:=by
 obtain⟨hcnt,h3,h9,h1,h2,hsm,hcp,hlo,hsG,hsO⟩:=mO.facts hm;have hcl:=eB hv.2.1;have hc2:0<=bN m.Heap (h % 32)/\bN m.Heap (h % 32)<=2:=by obtain⟨_,q,e⟩:=tK hcl;rw[e];exact jR.1 (by omega)
 have hg6:1<=h / 32/\h / 32<=6:=by have:=hv.1;grind[lW]
 obtain⟨_,hg⟩:=YP.a2B hm.1.1 hcl (g:=h / 32+1) (by omega);have hh:(rW m w h).Heap=⟨st4 m.Heap.Bytes (iY (h % 32) (bN m.Heap (h % 32))).toNat (h / 32+1),m.Heap.Class⟩:=by simp[rW,apply_ite]
 have kx:(w*3+bN m.Heap (h % 32)).toNat<m.aD.Own.length:=by omega
 have ky:(bN m.Heap (h % 32)).toNat<m.aD.Global.length:=by omega
 have hl:∀t,t∈iE (rW m w h).aD↔t∈iE m.aD\/(h / 32+1<=6/\t=h % 32):=fun t=>by
  unfold rW iE;by_cases q:h / 32+1<=6
  ·rw[if_pos q];split
   ·rw[<-dZ kx];simp only[fB,E5 kx,HQ,q,true_and];grind
   ·rw[<-dZ ky];simp only[fB,E5 ky,HQ,q,true_and];grind
  grind
 refine⟨fun t=>by rw[hh];rfl,fun t ht=>by grind,fun t ht=>by grind,fun hu=>?_⟩;have hu':=iN.1 hu;grind
theorem aJS{m:Mem}(hm:mO m){w h:Int}(hw:0<=w/\w<=2)(hv:m5 m h){t:Int}(ht:t≠h % 32):eM (rW m w h) t=eM m t:=by
 obtain⟨a,b,c,_⟩:=ZW hm hw hv;by_cases q:0<=bN m.Heap t
 ·exact aBW (a t) (by grind) (c t ht)
 ·have e:bN (rW m w h).Heap t=bN m.Heap t:=a t;simp_all[eM]
theorem aQ0{l:List eE}{j:Nat}(h:j<l.length):KV l (j:Int)=l[j]:=by have:=WG (l:=l) (k:=(j:Int)) (by omega);grind[aV]
end Go.Gv
end
noncomputable section
namespace Go.Gv
def bAV(h:Heap)(s:Int):Int:=ld h.Bytes ((iY s (bN h s)).toNat+4) 4
theorem aQ1{h:Heap}{s:Int}(hc:0<=bN h s):(iY s (bN h s)).toNat+8<=384:=(bCU hc).1
theorem a62{h:Heap}(hh:YP h){s:Int}(hc:0<=bN h s):1<=kU h s/\kU h s<=7:=by obtain⟨p,i,p6,hi,es,ec,eo,ep⟩:=pS hc;have hold:=(E4 hh.1 p6).1 (hh.2 p p6);simp_all[ZT,if_neg,kU]
structure aOI (m m':Mem) (x:Int):Prop where
 was:eM m x≠3
 now:eM m' x=3
 gen:1<=kU m'.Heap x/\kU m'.Heap x<=6
 rest:∀t,t≠x->(eM m' t=3↔eM m t=3)
 same:∀t,eM m t=3->kU m'.Heap t=kU m.Heap t/\bAV m'.Heap t=bAV m.Heap t
theorem aMJ{m:Mem}(hm:mO m){ls:aD}{x:Int}(h1:∀t,t∈iE m.aD↔t∈iE ls\/t=x)(h2:x∉iE ls):aOI m ⟨m.Heap,ls⟩ x:=by have hx:x∈iE m.aD:=(h1 x).2 (.inr rfl);obtain⟨a,b⟩:=mO.PG hm hx;refine⟨fun q=>(iN.1 q).2.1 hx,iN.2 ⟨a,h2,b⟩,⟨(a62 hm.1.1 a).1,b⟩,fun t ht=>?_,fun t _=>⟨rfl,rfl⟩⟩;grind[iN]
theorem aYA{l:List Int}(h:l≠[]):l=(MJ l).1 ++ [(MJ l).2]:=by
 unfold MJ;rcases Z2 l with rfl | ⟨L,b,rfl⟩
 ·exact absurd rfl h
 ·simp
theorem aQ2{l:List aW}{k:Nat}(hk:k<l.length)(h:fJ l k≠[]):∃A B,eY l=A++((MJ (fJ l k)).2 :: B)/\eY (l.set k ⟨(MJ (fJ l k)).1⟩)=A++B:=by grind[aYA,MJ,CY,dZ,GM]
theorem aQ3{l:List aW}{k:Nat}(hk:k<l.length)(h:fJ l k=[]):l.set k ⟨(MJ (fJ l k)).1⟩=l/\(MJ (fJ l k)).2 = -1:=by
 rw[h];refine⟨?_,rfl⟩;have e:(⟨(MJ []).1⟩:aW)=l[k]:=by
  have:=dZ hk;rw[h] at this;cases hl:l[k] with
  | mk s=>rw[hl] at this;simp only at this;subst this;rfl
 simp_all
theorem aOJ{m:Mem}(hm:mO m){w c:Int}(hw:0<=w/\w<=2)(hc:0<=c/\c<=2):(E6 m w c=(m,-1))\/0<=(E6 m w c).2/\aOI m (E6 m w c).1 (E6 m w c).2:=by
 obtain⟨hcnt,h3,h9,_⟩:=mO.facts hm;have hk:(w*3+c).toNat<m.aD.Own.length:=by omega
 unfold E6;by_cases q:fJ m.aD.Own (w*3+c).toNat=[]
 ·left;obtain⟨a,b⟩:=aQ3 hk q;rw[a,b]
 ·right;obtain⟨A,B,e1,e2⟩:=aQ2 hk q;have nd:=hm.1.2.2.2.2.2;have rg:=hm.1.2.2.2.2.1;unfold iE at nd rg;rw[e1] at nd rg;refine⟨(rg _ (by simp)).1,aMJ hm (fun t=>?_) ?_⟩
  ·grind[iE]
  grind[iE]
theorem aLF{m:Mem}(hm:mO m){c:Int}(hc:0<=c/\c<=2):(yF m c=(m,-1))\/0<=(yF m c).2/\aOI m (yF m c).1 (yF m c).2:=by
 obtain⟨hcnt,h3,h9,_⟩:=mO.facts hm;have hk:c.toNat<m.aD.Global.length:=by omega
 unfold yF;by_cases q:fJ m.aD.Global c.toNat=[]
 ·left;obtain⟨a,b⟩:=aQ3 hk q;rw[a,b]
 ·right;obtain⟨A,B,e1,e2⟩:=aQ2 hk q;have nd:=hm.1.2.2.2.2.2;have rg:=hm.1.2.2.2.2.1;unfold iE at nd rg;rw[e1] at nd rg;refine⟨(rg _ (by simp)).1,aMJ hm (fun t=>?_) ?_⟩
  ·grind[iE]
  grind[iE]
theorem aTU{m:Mem}(hm:mO m){c:Int}(hc:0<=c/\c<=2):(xE m c=(m,-1))\/0<=(xE m c).2/\aOI m (xE m c).1 (xE m c).2:=by
 obtain⟨hcnt,h3,h9,h1,_⟩:=mO.facts hm;have hs:=hm.1.1.1;unfold xE;by_cases q:Z0 m.Heap=6
 ·grind
 right;rw[if_neg q];obtain⟨hp,hun⟩:=aTD hs q;generalize Z0 m.Heap=p at hp hun;obtain⟨a,b,d,e⟩:=YP.a2D hm.1.1 hp (by omega) hc;have hpp:0<cM c:=jR.2 hc;have hp4:=pQ c;have hk:c.toNat<m.aD.Global.length:=by omega
 have hcons:gS p (cM c).toNat=(p:Int)*4 :: (gS p (cM c).toNat).drop 1:=by
  have:0<(gS p (cM c).toNat).length:=by grind[aDJ]
  have h0:=zK this;rw[UH] at h0;have e0:(gS p (cM c).toNat)[0]=(p:Int)*4:=by simp[gS]
  grind
 have hnd:=aQJ p (cM c).toNat;rw[hcons,aDX] at hnd;have hxs:∀t,t∈(gS p (cM c).toNat).drop 1↔∃i,i<(cM c).toNat/\t=(p:Int)*4+(i:Nat)/\i≠0:=fun t=>by
  constructor
  ·intro h;obtain⟨i,hi,rfl⟩:=a2E (Z6 h);grind
  ·rintro⟨i,hi,rfl,i0⟩;have hmem:(p:Int)*4+(i:Nat)∈gS p (cM c).toNat:=by grind[gS]
   grind
 generalize (gS p (cM c).toNat).drop 1=xs at hnd hxs;have hmem:∀t,t∈iE ⟨m.aD.Global.set c.toNat ⟨fJ m.aD.Global c.toNat++xs⟩,m.aD.Own⟩↔t∈iE m.aD\/t∈xs:=fun t=>by unfold iE;rw[<-dZ hk];simp[E5,or_right_comm]
 have hno:∀i,i<(cM c).toNat->¬0<=bN m.Heap ((p:Int)*4+(i:Nat)):=fun i hi z=>(d _ z).1 (by omega);have e0:=e 0 (by omega);rw[show(p:Int)*4+((0:Nat):Int)=(p:Int)*4 by omega] at e0;have hno0:=hno 0 (by omega);rw[show(p:Int)*4+((0:Nat):Int)=(p:Int)*4 by omega] at hno0;have bts:=fun j=>(aVS hm.1.1.1.1 hp hc (cM c).toNat (by omega) j).1;have hbl:=JJ m.Heap.Bytes p c (cM c).toNat;refine⟨by omega,fun z=>hno0 (iN.1 z).1,iN.2 ⟨by grind,fun z=>?_,by grind⟩,by grind,fun t ht=>?_,fun t ht=>?_⟩
 ·grind[mO.PG]
 ·rw[iN,iN];simp only at ht;by_cases z:0<=bN m.Heap t
  ·obtain⟨z1,z2⟩:=d t z;have zx:t∉xs:=fun y=>by obtain⟨i,hi,rfl,_⟩:=(hxs t).1 y;omega
   have:t∈iE (⟨m.aD.Global.set c.toNat ⟨fJ m.aD.Global c.toNat++xs⟩,m.aD.Own⟩:aD)↔t∈iE m.aD:=by grind
   simp only[this,b t z1,z2]
  ·refine⟨fun y=>?_,fun y=>absurd y.1 z⟩;exfalso;obtain⟨y1,y2,y3⟩:=y;by_cases zp:(t / 4).toNat=p
   ·obtain⟨r1,r2,r3⟩:=tK y1;rw[zp,WC hs hp,if_pos rfl] at r2;exact y2 ((hmem t).2 (.inr ((hxs t).2 ⟨(t % 4).toNat,by omega,by omega,by omega⟩)))
   grind
 ·have ht':=iN.1 ht;obtain⟨z1,z2⟩:=d t ht'.1;refine⟨z2,?_⟩;obtain⟨p',i',p6',hi',es',ec',eo',ep'⟩:=pS ht'.1;have hend:=aQ1 ht'.1;have hz':=yE hs p6' rfl hi';have room:8+i'*(bD (cV m.Heap p')).toNat+8<=64:=by
   have hcl:0<=cV m.Heap p'/\cV m.Heap p'<=2:=jR.1 (by omega);generalize cV m.Heap p'=c' at hi' hcl;rcases nQ hcl with rfl | rfl | rfl
   ·grind[cM,bD]
   ·grind[cM,bD]
   grind[cM,bD]
  unfold bAV;simp only;rw[b t z1];exact HO (by omega) hbl fun j j1 j2=>bts j (by omega)
end Go.Gv
end
