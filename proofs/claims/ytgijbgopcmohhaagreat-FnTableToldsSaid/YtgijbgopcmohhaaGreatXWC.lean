import Derived.Test.YtgijbgopcmohhaaGreatXWB
import Derived.Shelf.Slices.CompactI
import Derived.Shelf.Spec.SlicesInsertGrow
set_option linter.unusedVariables false
set_option linter.unusedSimpArgs false
set_option linter.unusedSectionVars false
set_option linter.constructorNameAsVariable false
set_option linter.unnecessarySimpa false
noncomputable section
namespace Go.Gv
theorem aVD(l:List Int):Lib.compact l=CZ l:=by
 have h:∀m,m<=l.length->Lib.compactUpTo l.toArray m=CZ (l.take m):=by
  intro m;induction m with
  | zero=>intro _;rfl
  | succ m ih =>
   intro hm;have hm':m<l.length:=hm;rw[Lib.compactUpTo_succ,ih (by omega),K9 hm',aCR,aXA];have e1:l.toArray[m]! = l[m]:=by simp[hm']
   have key:(Lib.keeps l.toArray m=true)↔¬(l.take m).getLast?=some l[m]:=by
    cases m with
    | zero=>simp[Lib.keeps]
    | succ k =>
     have e2:l.toArray[k]! = l[k]:=by grind
     rw[K9 (by omega:k<l.length),List.getLast?_concat];simp only[Lib.keeps,decide_eq_true_eq,e1,Nat.add_sub_cancel,e2];grind
   grind
 have:=h l.length (lB _);rw[List.take_length] at this;exact this
open Go.Sort in
theorem aPQ{w:World}{b off q:Nat}{d0 d:Array Int}(h0:Holds (Value.int .i64) w b off d0)(hs:d.size=d0.size):eI (eG b off d.size) w (putRow (Value.int .i64) (Sort.ahead w q) b off d):=by
 have hc:∀b' o,b'<w.heap.size->¬eG b off d.size b' o->(putRow (Value.int .i64) (Sort.ahead w q) b off d).cell? ⟨b',o,none⟩=w.cell? ⟨b',o,none⟩:=fun b' o _ hn=>by
  rw[cell?_putRow_other _ _ _ _ _ _ (by
   by_cases e:b'=b
   ·right;by_cases h1:o<off
    ·grind
    ·right;by_cases h2:o<off+d.size
     ·exact absurd ⟨e,by omega,h2⟩ hn
     grind
   grind)]
  rfl
 refine⟨rfl,rfl,rfl,by simp,fun b' hb hn=>?_,hc,fun b' o _=>by simp,fun b' o h=>?_⟩
 ·show(w.heap.modify b _)[b']? = _;rw[Array.getElem?_modify];split
  ·rename_i e;subst e;have hz:d.size=0:=by
    rcases Nat.eq_zero_or_pos d.size with h | h
    ·exact h
    ·exact absurd ⟨rfl,lB _,by omega⟩ (hn off)
   cases hh:w.heap[b]? with
   | none=>rfl
   | some o =>
    cases o with
    | cells c e fr =>
     simp only[Option.map_some,onCells];have:putCells (Value.int .i64) off d c=c:=by apply Array.ext_getElem?;intro k;simp only[putCells,Array.getElem?_mapIdx,hz];grind
     rw[this]
    | _=>rfl
  ·rfl
 ·by_cases hn:eG b off d.size b' o
  ·obtain⟨rfl,h1,h2⟩:=hn;have:=cell?_putRow (Value.int .i64) (Sort.ahead w q) b' off d0 d h0 hs (o - off) (by omega);grind
  grind[jU]
open Go.Proofs in
theorem bEK{P:Program}{ρ:_}{κ:Ctx}(Ly:Lays2.n20 P ρ)(hcall:∀args w,(callFunc (ρ.f 20) args).run P w=.ok (.enter (ρ.f 20) args) w){s:List Int}{s1:AC}:VS P κ (ρ.f 20) (slices_Compact_int s) [.h s1 s.length] [] [ow s1 s] (fun r (y:AC)=>.h y r.length) (fun r y=>[ow y r]):=fun r hr=>by
 cases hr;refine⟨hcall,fun vs hv hS=>?_⟩;simp[aU,fF,gV,bR] at hv;subst hv;obtain⟨⟨R,h1,h2⟩,h0⟩:=hS;have h1:St κ κ.w0 [bH [s1.v s.length] s] R:=by grind[lD]
 obtain⟨F,hF⟩:=h1.chunk 0 rfl;have hF:aJ.own κ.w0 [s1.v s.length] s F:=hF;obtain⟨a,cp,he,hl1,hl2,hrest⟩:=(show HR κ.w0 _ s F from hF);obtain⟨sa,sc⟩:=s1;simp only[AC.v,List.cons.injEq,Value.slice.injEq,and_true,true_and] at he;obtain⟨rfl,rfl⟩:=he;rcases hrest with ⟨rfl,rfl,hno⟩ | ⟨b,off,Fs,rfl,hrow,hel,hdj,hdr,hFF⟩
 ·have hs:s=[]:=rY (by omega);subst hs;refine(Any.slices_Compact_int_empty Ly none 0 κ.w0).mono ?_;rintro e w' ⟨rfl,rfl⟩;exact⟨_,rfl,⟨none,0⟩,by grind[fF,gV,bR,CZ],⟨R,by grind[CZ],fun x hx=>by simp at hx;subst hx;trivial⟩,h0⟩
 ·have hn:aJ.n Int=1:=rfl;have hH:Sort.Holds (Value.int .i64) κ.w0 b off s.toArray:=fun j hj=>by
   have hj':j<s.length:=by omega
   obtain⟨ec,c1,c2⟩:=hel j hj';have c3:ec=[Value.int .i64 s[j]]:=(show _=_/\_ from c2).1;have:=c1 0 (.int .i64 s[j]) (by rw[c3];rfl);rw[hn,Nat.mul_one,SY] at this;refine⟨by grind,(hrow (off+j) ⟨rfl,by omega,by grind⟩).2⟩
  have hlen:(Lib.compact s).length<=s.length:=by grind[aVD,a51]
  refine(Any.slices_Compact_int Ly b off sc s κ.w0 hH (tN hl1 (tN hl2 (by decide))) hl1).mono ?_;rintro e w' ⟨rfl,q,rfl⟩;rw[aVD] at hlen ⊢;have hsz:(CZ s++List.replicate (s.length - (CZ s).length) 0).toArray.size=s.toArray.size:=by simp;omega
  have hsa:s.toArray.size=s.length:=by simp
  have hK:=aPQ (q:=q) hH hsz;refine⟨_,rfl,⟨some ⟨b,off,none⟩,sc⟩,by grind[fF,gV,bR],⟨R,?_,by simp[roF]⟩,h0⟩;have := h1.Z7 (w' := Sort.putRow (Value.int .i64) (Sort.ahead κ.w0 q) b off (CZ s ++ List.replicate (s.length - (CZ s).length) 0).toArray) (ch' := bH [(⟨some ⟨b, off, none⟩, sc⟩ : AC).v (CZ s).length] (CZ s)) 0 rfl fun F2 hF2 => by
   have hF2:aJ.own κ.w0 [_] s F2:=hF2;obtain⟨a',cp',he',_,_,hrest'⟩:=(show HR κ.w0 _ s F2 from hF2);simp only[AC.v,List.cons.injEq,Value.slice.injEq,and_true,true_and] at he';obtain⟨rfl,rfl⟩:=he';rcases hrest' with ⟨h,_⟩ | ⟨b',off',Fs',h,hrow',hel',hdj',hdr',hFF'⟩
   ·cases h
   ·cases h;have hemp:∀i (hi:i<s.length) b' o,¬Fs' i b' o:=fun i hi b' o h=>by obtain⟨ec,_,c2⟩:=hel' i hi;exact(show _/\∀b o,¬Fs' i b o from c2).2 b' o h
    refine⟨eG b off (sc*1),eG b off (CZ s++List.replicate (s.length - (CZ s).length) 0).toArray.size,hK,fun b' o h=>(hFF' b' o).2 (.inl ?_),?_,fun b' o h=>.inl ((hFF' b' o).2 (.inl h))⟩
    ·obtain⟨h3,h4,h5⟩:=h;exact⟨h3,h4,by grind⟩
    ·refine⟨_,sc,rfl,by omega,hl2,.inr ⟨b,off,fun _=>F0,rfl,fun o ho=>?_,fun i hi=>?_,fun _ _ _ _ _ _ _ h _=>h,fun _ _ _ _ h _=>h,fun b' o=>by simp[F0,hn]⟩⟩
     ·have:=hrow' o ho;exact⟨hK.stay b o this.1,(hK.yT b o (jU this.1)).trans this.2⟩
     ·refine⟨[.int .i64 (CZ s)[i]],fun j v hj=>?_,rfl,fun _ _ h=>h⟩;have hj0:j=0:=by grind
      subst hj0;simp at hj;subst hj;rw[hn,Nat.mul_one,SY];have:=Sort.cell?_putRow (Value.int .i64) (Sort.ahead κ.w0 q) b off s.toArray (CZ s++List.replicate (s.length - (CZ s).length) 0).toArray hH hsz i (by omega);grind
  grind[lD]
end Go.Gv
end
noncomputable section
namespace Go.Gv
theorem fkP{P:Program}{α β:Type}{iR:aJ α}{C:FH α}{sr:β->SV}{g:FuncId}{w:World}{Bs:Bl}{L0:List Ch}{xs:List SV}{cap:List Value}{p:α->Option β}(hc:∀args w,(callFunc g args).run P w=.ok (.enter g args) w)(hB:∀w1,eI F0 w w1->mN (b9 w1) w1 Bs L0)(hl:aU (fF Bs) xs=some cap)
  (hn:∀{w1 x y},eI F0 w w1->C.sub (PW w1) w1 x y->VS P (b9 w1) g (p x) (C.sv x y :: xs) Bs L0 (fun r (_:Unit)=>sr r) (fun _ _=>[])) (hz:∀q,xI 0 (sr q)=true:=by exact fun _=>rfl):XL P (b9 w) C sr g cap p:=
 ⟨hc,fun w1 hk x y hy q hq v hv=>by
  have hv':fF Bs (C.sv x y)=some v:=by simpa using vB (B:=[]) Bs hv
  refine Calls.mono ((hn hk hy q hq).run (v :: cap) (by grind[aU]) (hB w1 hk)) fun en w' ⟨v',h1,y',h2,h3⟩=>⟨v',h1,?_,?_⟩
  ·grind[aLV]
  ·simpa using aAE (m:=0) h3 rfl⟩
theorem a52{c:Ctx}{w:World}{B:Bl}{L:List Ch}{n1 n2 n3:Nat}{c1 c3:List SV}{b1 b2:Nat×Nat}(hS:mN c w B L)(h1:Ch.ro n1 c1∈L)(h2:Ch.ro n2 [.p n3 0]∈L)(h3:Ch.ro n3 c3∈L)(o1:xI.okC 0 c1=true)(o3:xI.okC 0 c3=true)(g1:B[n1]?=some b1)(g2:B[n2]?=some b2) :
  ∃b3:Nat×Nat,∀w1,eI F0 w w1->mN (b9 w1) w1 [b1,b2,b3] [.ro 0 c1,.ro 1 [.p 2 0],.ro 2 c3]:=by
 obtain⟨⟨R,s1,s2⟩,s0⟩:=hS;obtain⟨p1,z1,v1,e1,m1,f1⟩:=s2 _ h1;obtain⟨p2,z2,v2,e2,m2,f2⟩:=s2 _ h2;obtain⟨p3,z3,v3,e3,m3,f3⟩:=s2 _ h3;rw[g1] at e1;cases e1;rw[g2] at e2;cases e2;simp only[aU,bR,e3] at m2;cases m2;have q1:=AN o1 m1;have q3:=AN o3 m3;rw[List.take_zero] at q1 q3;refine⟨(p3,z3),fun w1 hkp=>?_⟩;have fct:∀f∈R,f.P (PW w1) w1:=fun f hf=>by obtain⟨i,hi⟩:=aG0 hf;exact a72 (s1.fact i hi) hkp
 refine⟨⟨[fAt p1 z1 v1,fAt p2 z2 [.pointer (some ⟨p3,z3+0,none⟩)],fAt p3 z3 v3],?_,?_⟩,fun _ _ h=>h⟩
 ·have h4:St (b9 w1) w1 [] [fAt p1 z1 v1,fAt p2 z2 [.pointer (some ⟨p3,z3+0,none⟩)],fAt p3 z3 v3]:=St.enter (by
   grind)
  have more:∀{M:List Chunk} {R:List Fact},St (b9 w1) w1 M R->St (b9 w1) w1 (M ++ [JQ]) R:=fun h=>St.more (ch:=JQ) h (eI.refl _ _) ⟨F0,fun _ _ h=>h,fun _ _ h=>h.elim⟩;exact more (more (more h4))
 ·intro x hx;simp only[jA,PT,or_false] at hx;rcases hx with rfl | rfl | rfl
  ·exact⟨p1,z1,v1,rfl,eS (fun x v h=>by simpa using gC (B:=[]) [(p1,z1),(p2,z2),(p3,z3)] h) q1,by simp⟩
  ·exact⟨p2,z2,_,rfl,rfl,by simp⟩
  ·exact⟨p3,z3,v3,rfl,eS (fun x v h=>by simpa using gC (B:=[]) [(p1,z1),(p2,z2),(p3,z3)] h) q3,by simp⟩
noncomputable section
variable {P:Program} {T:TT} {hT:GP P T} {n:Nat} {c:Ctx} {B0:Bl} {N:Act->World->Prop} {X:Nat->Act->World->Prop} {Q:Act->World->Prop} {K K':List Fr} {m m':Nat} {e e':SE} {L L':List Ch} {cf cf1 cf2:vT} {o:Oper} {Lv:List Ch} {d:Nat}
theorem bEL{α β:Type}{fo:Option α}{kf:α->Option β}{q:β}{f g:FuncId}{xs:List SV}{sv:α->SV}{n1 n2 n3:Nat}{c1 c3:List SV}(is:List Nat)(hs:kO T n K cf m e L=.callp o (some d) f xs cf1 cf2 K' m' e' L')(hk:kl (shr [n3] L') is=[.ro n1 c1,.ro n2 [.p n3 0],.ro n3 c3])(ho:((xI.okC 0 c1 && xI.okC 0 c3) && okA xs.dropLast)=true)(hx:xs=xs.dropLast ++ [.f g [n1,n2]])
  (hc:∀{w},HS c w L'->∀{b1 b2 b3:Nat×Nat},(∀w1,eI F0 w w1->mN (b9 w1) w1 [b1,b2,b3] [.ro 0 c1,.ro 1 [.p 2 0],.ro 2 c3])->∀{x},fo=some x->Fn0 P f (b9 w) (xs.dropLast ++ [.k (.func (.func g) #[] (QA [b1,b2]).toArray)]) sv x) (hF:fo.bind kf=some q)
  (k:∀x,fo=some x->kf x=some q->G (.mk P T hT n c B0 N X Q) K' m' ((d,sv x) :: e') L' cf2):G (.mk P T hT n c B0 N X Q) K m e L cf:=by
 refine iJ (g:=.mk P T hT n c B0 N X Q) ?_;rw[hs];intro fo' args ats ho' hd hf ⟨ys,hys,hxs⟩ hdn hE;rw[BN] at ho;cases hfo:fo with
 | none=>grind
 | some x =>
  rw[hfo] at hF;refine hE Unit (fun _=>m') (fun _=>(d,sv x) :: e') (fun _=>L') (fun _=>by simpa using xJ (L:=L') []) (fun B a w next Q' hm hA hS hnext=>?_) (fun _=>k x hfo hF);obtain⟨vs,h1,h2⟩:=YB hA hys;obtain⟨v,h3,h4⟩:=fL hA hf;simp[fF,aU] at h3;subst h3;rw[<-NB,hxs] at h1;rw[hx] at h1;have split:∀{qs:List SV} {b:SV} {vs:List Value} {B:Bl},aU (fF B) (qs ++ [b])=some vs->∃us v,aU (fF B) qs=some us/\fF B b=some v/\vs=us ++ [v]:=by
   intro qs;induction qs with
   | nil =>
    grind[aU]
   | cons a qs ih =>
    intro b vs B h;simp only[UG,aU] at h;grind[aU]
  obtain⟨us,fv,g1,g2,rfl⟩:=split h1;simp only[fF] at g2;split at g2
  ·rename_i cap hcap;cases g2;obtain⟨Bs,b1,b2,b3⟩:=a0W (cs:=[(n1,c1),(n2,[.p n3 0])]) hcap;subst b1;obtain⟨d1,d2,rfl⟩:∃d1 d2,Bs=[d1,d2]:=by
    match Bs,b2 with
    | [d1,d2],_=>simp
   have hmem:∀x∈[Ch.ro n1 c1,.ro n2 [.p n3 0],.ro n3 c3],x∈shr [n3] L':=fun x hx=>aHM (is:=is) (by grind);rw[BN] at ho;obtain⟨q1,y1,y2⟩:=b3 0 n1 c1 rfl;obtain⟨q2,y3,y4⟩:=b3 1 n2 _ rfl;simp at y1 y3;subst y1 y3;obtain⟨d3,hst⟩:=a52 (n3:=n3) (c1:=c1) (c3:=c3) (aNB [n3] [] L' hS) (hmem (.ro n1 c1) (by simp)) (hmem (.ro n2 [.p n3 0]) (by simp)) (hmem (.ro n3 c3) (by simp)) ho.1.1 ho.1.2 y2 y4;obtain⟨hcall,hrun⟩:=hc ⟨_,hS⟩ hst hfo;have join:∀{qs:List SV} {us:List Value} {b:SV} {v:Value},aU (fF []) qs=some us->fF [] b=some v->aU (fF []) (qs ++ [b])=some (us ++ [v]):=by
    intro qs;induction qs with
    | nil=>grind[aU]
    | cons a qs ih =>
     intro us b v h hb;simp only[aU] at h;split at h
     ·cases h
     ·rename_i u hu;split at h
      ·cases h
      ·rename_i us' hus;cases h;simp[aU,hu,ih hus hb]
   have h5:=hrun (us ++ [.func (.func g) #[] (QA [d1,d2]).toArray]) (join (aAI ho.2 g1) (by simp[fF,gV,bR,Value.oneCell'])) (aW3 w);have h6:=P9 (w:=w) hcall ho' h4 h2;unfold Oper.wp;rw[h6 _ a hA.env,Oper.upon_enter];refine Calls.mono h5 fun en w' ⟨v,hv,y,e1,e2⟩=>?_;subst hv;rw[hd];have g3:=vB (Y2 (.mk P T hT n c B0 N X Q) cf1++B) e1;exact hnext () _ _ ⟨[],by grind,by simpa using hA.of (by grind) (hA.env.put (by grind[qT,vV]) v),by simpa using hS.after (L2:=[]) rfl e2⟩
  ·cases g2
theorem clP{α β:Type}{fo:Option α}{kf:α->Option β}{q:β}{f g:FuncId}{xs:List SV}{sv:α->SV}{n1 n2 n3:Nat}{c1 c3:List SV}(is:List Nat)(hs:kO T n K cf m e L=.callp o (some d) f xs cf1 cf2 K' m' e' L')(hk:kl (shr [n3] L') is=[.ro n1 c1,.ro n2 [.p n3 0],.ro n3 c3])(ho:((xI.okC 0 c1 && xI.okC 0 c3) && okA xs.dropLast)=true)(hx:xs=xs.dropLast ++ [.f g [n1,n2]])
  (hc:∀{w},HS c w L'->∀{b1 b2 b3:Nat×Nat},(∀w1,eI F0 w w1->mN (b9 w1) w1 [b1,b2,b3] [.ro 0 c1,.ro 1 [.p 2 0],.ro 2 c3])->V0 P (b9 w) f fo (xs.dropLast ++ [.k (.func (.func g) #[] (QA [b1,b2]).toArray)]) sv)
  (k:∀x,W (G (.mk P T hT n c B0 N X Q) K' m' ((d,sv x) :: e') L' cf2) q (kf x)):W (G (.mk P T hT n c B0 N X Q) K m e L cf) q (fo.bind kf):=fun hF=>
 bEL is hs hk ho hx (fun h _ _ _ h2 _ hx=>hc h h2 _ hx) hF fun x _ h=>k x h
def noD:vT->Bool
 | .d _ _ _ _ _ _=>false
 | .o _ _ _ _ _ _ _=>false
 | _=>true
theorem shS(ns:List Nat){cf':vT}(hs:XJ (kO T n K cf m e L)=some (K',cf',m',e',L'))(hf:noD cf'=true)(k:G (.mk P T hT n c B0 N X Q) K' m' e' (shr ns L') cf'):G (.mk P T hT n c B0 N X Q) K m e L cf:=by
 refine go hs (chg (fun _:Unit=>m') (fun _=>e') (fun _=>shr ns L') (fun B a w hm hA hS=>⟨(),[],by grind,by grind,by simpa using aNB ns [] L' hS⟩) (fun _=>?_) (fun _=>k));cases cf' with
 | d _ _ _ _ _ _=>cases hf
 | o _ _ _ _ _ _ _=>cases hf
 | _=>trivial
end
end Go.Gv
end
noncomputable section
namespace Go.Gv
abbrev R2:=Raw×Raw
def prs:List Value->List R2
 | a :: b :: r=>(⟨a⟩,⟨b⟩) :: prs r
 | _=>[]
theorem RP:∀{n:Nat} {cs:List Value},cs.length=n*2->(prs cs).length=n
 | 0, cs, h => by have:cs=[]:=rY (by omega);rw[this];rfl
 | n + 1, cs, h => by
  match cs,h with
  | a :: b :: r,h=>simp only[prs,JO] at *;rw[RP (n:=n) (by omega)]
  | [_],h=>grind
  | [],h=>simp at h
theorem aGL:∀{n:Nat} {cs ds:List Value},cs.length=n*2->prs (cs++ds)=prs cs++prs ds
 | 0, cs, ds, h => by have:cs=[]:=rY (by omega);rw[this];rfl
 | n + 1, cs, ds, h => by
  match cs,h with
  | a :: b :: r,h=>simp only[prs,UG,JO] at *;rw[aGL (n:=n) (by omega)]
  | [_],h=>grind
  | [],h=>simp at h
theorem aVE{w:World}{a b:Value}(ha:a.oneCell'=true)(hb:b.oneCell'=true):aJ.own w [a,b] ((⟨a⟩,⟨b⟩):R2) F0:=
 ⟨[a],[b],F0,F0,rfl,⟨⟨rfl,ha⟩,fun _ _ h=>h⟩,⟨⟨rfl,hb⟩,fun _ _ h=>h⟩,fun _ _ h=>h.elim,fun _ _=>by simp[F0]⟩
theorem a53{w:World}{cs:List Value}{u:R2}{F:cD}(h:aJ.own w cs u F):cs=[u.1.v,u.2.v]/\∀b o,¬F b o:=by obtain⟨c1,c2,F1,F2,e,h1,h2,_,hF⟩:=h;refine⟨by rw[e,h1.1.1,h2.1.1];rfl,fun b o p=>((hF b o).1 p).elim (h1.2 b o) (h2.2 b o)⟩
noncomputable section
variable {α:Type} [aJ α] (hn:aJ.n α=2) {w:World}
include hn
theorem aVF:∀{l:List α} {cs:List Value} {F:cD},cL w cs l F->cL w cs (prs cs) F0
 | [],cs,F,h=>by rw[h.1];exact⟨rfl,fun _ _ h=>h⟩
 | x :: r, cs, F, ⟨c1, c2, F1, F2, e, h1, h2, hd, hF⟩ => by
  have a:=aJ.lJ (aJ.own_rd h1);have o:=aJ.rd_one (aJ.own_rd h1);rw[hn] at a
  match c1,a,o with
  | [u, v], _, o =>
   subst e;exact⟨[u,v],c2,F0,F0,rfl,aVE (o u (by simp)) (o v (by simp)),aVF h2,fun _ _ h=>h.elim,fun _ _=>by simp[F0]⟩
theorem aNK{l:List α}{cs:List Value}{F:cD}(h:cL w cs l F):cs.length=l.length*2:=by rw[h.length,hn]
omit hn in
theorem aLW:∀{us:List R2} {cs:List Value} {F:cD},cL w cs us F->us=prs cs/\∀b o,¬F b o
 | [],cs,F,h=>by rw[h.1];exact⟨rfl,h.2⟩
 | u :: r, cs, F, ⟨c1, c2, F1, F2, e, h1, h2, hd, hF⟩ => by obtain⟨e1,f1⟩:=a53 h1;obtain⟨e2,f2⟩:=aLW h2;simp_all[prs]
theorem a1M{s:Value}{us:List R2}{l:List α}{cs:List Value}{G Fe:cD}(h:aJ.own w [s] us G)(ho:cL w cs l Fe)(hu:us=prs cs)(hd:G.FE Fe):aJ.own w [s] l (fun b o=>G b o\/Fe b o):=by
 have hcl:=aNK hn ho;have hp:=RP hcl;rw[<-hu] at hp;obtain⟨a,c,e,h1,h2,h3⟩:=m6.1 h;refine m6.2 ⟨a,c,by rw[e,hp],by omega,h2,?_⟩;rcases h3 with ⟨rfl,rfl,k⟩ | ⟨b,off,cc,Ge,rfl,hr,hc,ho',hdj,hFF⟩
 ·have hl:l=[]:=rY (by omega);subst hl;exact .inl ⟨rfl,rfl,fun b o p=>p.elim (k b o) (ho.2 b o)⟩
 ·obtain⟨q1, q2⟩ := aLW ho';have hcc:cc.length=us.length*2:=ho'.length;have e2:cc=cs:=by
   have hj:∀{n:Nat} {x y:List Value},x.length=n*2->y.length=n*2->prs x=prs y->x=y:=by
    intro n;induction n with
    | zero=>simp
    | succ n ih =>
     intro x y hx hy hxy
     match x,y,hx,hy,hxy with
     | a :: b :: r, a' :: b' :: r', hx, hy, hxy =>
      grind[prs]
     | [],_,hx,_,_=>simp at hx
     | [_],_,hx,_,_=>grind
     | _ :: _ :: _,[],_,hy,_=>simp at hy
     | _ :: _ :: _,[_],_,hy,_=>grind
   grind
  subst e2;have hG:∀b' o,G b' o↔eG b off (c*2) b' o:=fun b' o=>by rw[hFF];exact⟨fun q=>q.elim id fun q=>(q2 b' o q).elim,.inl⟩
  refine .inr ⟨b,off,cc,Fe,rfl,by rw[hn];exact hr,hc,ho,fun b' o p q=>hd b' o ((hG b' o).2 (by grind)) p,fun b' o=>by rw[hG,hn]⟩
def cIn(cs:List Value)(l:List α):Chunk:=⟨fun w F=>cL w cs l F,fun h hk hd=>cL.keep hk h hd,fun h hf=>cL.lt h hf⟩
end
def bCJ{α:Type}(l:List α)(i j:Int):Option (List α):=need (0<=i/\i<=j/\j<=(l.length:Int)) (some (l.take i.toNat++l.drop j.toNat))
def zR2:R2:=(⟨.bool false⟩,⟨.slice none 0 0⟩)
theorem a92{w:World}:aJ.rd F0 w [.bool false,.slice none 0 0] zR2:=⟨[_],[_],rfl,⟨rfl,rfl⟩,⟨rfl,rfl⟩⟩
theorem a54{α:Type}{l:List α}{a b:Nat}(hab:a<=b)(hb:b<=l.length):((cT l a (l.drop b)).take (a+(l.length - b))).drop 0=l.take a++l.drop b:=by
 have h1:(l.take a).length=a:=by grind
 have h2:(l.drop b).length=l.length - b:=by simp
 unfold cT;rw[UH,aDZ (l:=l.drop b) (by omega),<-qE,show a+(l.length - b)=(l.take a++l.drop b).length by grind];grind
theorem aPR{α:Type}{p:Prop}[Decidable p]{k:Option α}(h:p):need p k=k:=if_pos h
def a1N(s:List R2)(i j:Int):Option (List R2):=
 need (0<=(i:Int)/\(i:Int)<=(j:Int)/\(j:Int)<=((s.length:Int):Int)/\((s.length:Int):Int)<=(s.length:Int)) ((if i == j then some s else need (0<=(i:Int)/\(i:Int)<=(s.length:Int)) (need (0<=(j:Int)/\(j:Int)<=(s.length:Int)) (need (i.toNat<=j.toNat) (need (0<=(((((cT s i.toNat (s.drop j.toNat)).take (i.toNat+(s.length - j.toNat))).drop 0).length:Int):Int)/\(((((cT s i.toNat (s.drop j.toNat)).take (i.toNat+(s.length - j.toNat))).drop 0).length:Int):Int)<=((s.length:Int):Int)/\((s.length:Int):Int)<=((cT s i.toNat (s.drop j.toNat)).length:Int)) (some (((cT s i.toNat (s.drop j.toNat)).take (i.toNat+(s.length - j.toNat))).drop 0)))))))
theorem a55{us:List R2}{i j:Int}(h:0<=i/\i<=j/\j<=(us.length:Int)):a1N us i j=some (us.take i.toNat++us.drop j.toNat):=by
 unfold a1N;rw[aPR (by omega)];by_cases e:i=j
 ·simp_all
 ·rw[if_neg (by grind),aPR (by omega),aPR (by omega),aPR (by omega),a54 (by omega) (by omega),aPR];grind[fP]
end Go.Gv
end
noncomputable section
namespace Go.Gv
theorem a1O{α:Type}[aJ α](hn:aJ.n α=2){w:World}{s:Value}{l:List α}{ec:List Value}{F:cD}(hl:ec.length=2)(ho:∀v∈ec,v.oneCell'=true)(h:Sep w [rZ s l 0,UC (PZ s) (PN (aJ.n α) 0 s) ec] F) :
  ∃c2,c2.length=(l.drop 1).length*2/\l.length=(l.drop 1).length+1/\∀F,Sep w [rZ s l 0,UC (PZ s) (PN (aJ.n α) 0 s) ec] F->∃G Fe,aJ.own w [s] (prs (ec++c2)) G/\cL w c2 (l.drop 1) Fe/\G.FE Fe/\∀b o,F b o↔G b o\/Fe b o:=by
 obtain⟨G1,G2,⟨a,c,b,off,c1,c2,F1,F3,e,h1,h2,hk,rfl,hr,k1,k3,o1,o3,d1,d2,d3,hG1⟩,_,_,_⟩:=h;have hc2:=aNK hn o3;have hdl:(l.drop 1).length=l.length - 1:=by simp
 have hdl':(l.drop (0+1)).length=l.length - 1:=by simp
 refine⟨c2,hc2,by omega,fun F h=>?_⟩;obtain⟨G1',G2',⟨a',c',b',off',c1',c2',F1',F3',e',h1',h2',hk',e3,hr',k1',k3',o1',o3',d1',d2',d3',hG1'⟩,hAt,dG,hF⟩:=h;rw[e] at e';cases e';cases e3;have hcc:c2'=c2:=YW k3' k3 (by grind[aNK]);subst hcc;have hAt:(UC (PZ s) (PN (aJ.n α) 0 s) ec).P w G2':=Sep.one.1 hAt;obtain⟨k2,hz,hH⟩:=hAt;subst e;simp only[PZ,PN,Nat.zero_mul,SY,hl] at k2 hz hH;have hF1:∀b o,¬F1' b o:=by have:l.take 0=[]:=rfl;rw[this] at o1';exact o1'.2
 rw[hn] at hr' k3' d3' hG1';have hp:(prs (ec++c2')).length=l.length:=by rw[aGL (n:=1) (by omega),C1,RP (n:=1) (by omega),RP hc2];omega
 have hraw:cL w (ec++c2') (prs (ec++c2')) F0:=by
  match ec,hl,ho with
  | [u,v],_,ho=>exact⟨[u,v],c2',F0,F0,rfl,aVE (ho u (by simp)) (ho v (by simp)),aVF hn o3',fun _ _ h=>h.elim,fun _ _=>by simp[F0]⟩
 refine⟨eG b off (c*2),F3',m6.2 ⟨_,c,by rw[hp],by omega,h2',.inr ⟨b,off,ec++c2',F0,rfl,fun o p=>?_,?_,hraw,fun _ _ h=>h.elim,fun _ _=>?_⟩⟩,o3',fun b o p q=>d3' b o q p,fun b' o=>?_⟩
 ·by_cases q:eG b off 2 b o
  ·refine⟨?_,hz o q⟩;obtain⟨_,q1,q2⟩:=q;have:=k2 (o - off) _ (kG (by omega));simp_all
  ·exact hr' o p (by omega)
 ·grind[RH]
 ·exact⟨.inl,fun q=>q.elim id fun q=>q.elim⟩
 grind[eG]
theorem aLX{B:Bl}:∀{cs:List SV} {vs:List Value},aU (bR B) cs=some vs->∀v∈vs,v.oneCell'=true
 | [],vs,h,v,hv=>by cases h;simp at hv
 | x :: r, vs, h, v, hv => by
  simp only[aU] at h;split at h
  ·cases h
  ·rename_i y hy;split at h
   ·cases h
   ·rename_i ys hys;cases h;rcases jA.1 hv with rfl | hv
    ·exact aHJ hy
    ·exact aLX hys v hv
noncomputable section
variable {P:Program} {T:TT} {hT:GP P T} {n:Nat} {c:Ctx} {B0:Bl} {N:Act->World->Prop} {X:Nat->Act->World->Prop} {Q:Act->World->Prop} {K K':List Fr} {m m':Nat} {e e':SE} {L L':List Ch} {cf cf' cf1 cf2:vT} {o:Oper} {Lv:List Ch} {d:Nat}
theorem hzR{α:Type}[aJ α](hn:aJ.n α=2){s:AC}{l:List α}{nb n0:Nat}{cs:List SV}(h h2 hv:Nat)(hs:XJ (kO T n K cf m e L)=some (K',cf',m',e',L'))(hh:L'[h]?=some (.o (rZ (s.v l.length) l 0)))(hb:L'[h2]?=some (.box nb cs))(hw:L'[hv]?=some (wOf α nb s n0 0))(hl:cs.length=2)(ha:dI [h,h2]=true)(hz:([h,h2].all fun j=>gL j cf'.yT)=true)
  (k:∀(us:List R2) (c2:List Value),us.length=l.length->us.drop 1=prs c2->l.length=(l.drop 1).length+1->G (.mk P T hT n c B0 N X Q) K' m' e' (IX L' [h,h2] ++ [ow s us,.o (cIn c2 (l.drop 1))]) cf'):G (.mk P T hT n c B0 N X Q) K m e L cf:=by
 refine go hs (chg (ι:={p:List R2×List Value // p.1.length=l.length/\p.1.drop 1=prs p.2/\l.length=(l.drop 1).length+1}) (fun _=>m') (fun _=>e') (fun p=>IX L' [h,h2] ++ [ow s p.1.1,.o (cIn p.1.2 (l.drop 1))]) (fun B a w hm hA hS=>?_) (fun _=>RM _ hz) (fun p=>k p.1.1 p.1.2 p.2.1 p.2.2.1 p.2.2.2));obtain⟨⟨R,s1,s2⟩,s0⟩:=hS;have f1:=s1.front [h,h2] ha;rw[NF (M:=[.o (rZ (s.v l.length) l 0),.box nb cs]) (by grind[aU])] at f1;obtain⟨F,S,hsep,_⟩:=f1.sep;obtain⟨Fa,Fb,hab,_⟩:=Sep.append.1 hsep;have hB:=s2 _ (yI hw);simp only[roF] at hB;obtain⟨G1,G2,g1,g2,g3,g4⟩:=hab;have g2:(RI B nb cs).P w G2:=Sep.one.1 g2;obtain⟨b,z,vs,q1,q2,q3⟩:=g2;rw[hB] at q1;cases q1;have hlv:vs.length=2:=by grind[lL]
 have e1:PZ (s.v n0)=PZ (s.v l.length):=a8G s _ _;have e2:PN (aJ.n α) 0 (s.v n0)=PN (aJ.n α) 0 (s.v l.length):=a8H s _ _ _ _;rw[e1,e2] at q3;obtain⟨c2,z1,z2,z3⟩:=a1O hn hlv (aLX q2) (F:=Fa) ⟨G1,G2,g1,Sep.one.2 q3,g3,g4⟩;have hpl:(prs (vs++c2)).length=l.length:=by rw[aGL (n:=1) (by omega),C1,RP (n:=1) (by omega),RP z1];omega
 have hpd:(prs (vs++c2)).drop 1=prs c2:=by rw[aGL (n:=1) (by omega)];exact List.drop_left' (RP (n:=1) (by omega))
 refine⟨⟨(prs (vs++c2),c2),hpl,hpd,z2⟩,[],by grind,by grind,⟨⟨R,?_,fun x hx=>?_⟩,s0⟩⟩
 ·rw[FK,uX,GQ];have:=s1.shift [h,h2] ha (A':=[bH [s.v (prs (vs++c2)).length] (prs (vs++c2)),cIn c2 (l.drop 1)]) (fun F hF=>by
   rw[NF (M:=[.o (rZ (s.v l.length) l 0),.box nb cs]) (by grind[aU])] at hF;obtain⟨G1,G2,g1,g2,g3,g4⟩:=hF;have g2:(RI B nb cs).P w G2:=Sep.one.1 g2;obtain⟨b',z',vs',q1',q2',q3'⟩:=g2;rw[hB] at q1';cases q1';rw[q2] at q2';cases q2';rw[e1,e2] at q3';obtain⟨G,Fe,a1,a2,a3,a4⟩:=z3 F ⟨G1,G2,g1,Sep.one.2 q3',g3,g4⟩;rw[hpl];exact⟨G,Fe,a1,Sep.one.2 a2,a3,a4⟩)
  exact this
 ·rw[FK];rcases fB.1 hx with hx | hx
  ·rcases ND _ _ hx with hx | hx
   ·grind
   ·subst hx;trivial
  ·simp only[jA,PT,or_false] at hx;rcases hx with rfl | rfl<;>trivial
theorem joR{α:Type}[aJ α](hn:aJ.n α=2){s:AC}{us:List R2}{l:List α}{cs:List Value}(i j:Nat)(hi:L[i]?=some (ow s us))(hj:L[j]?=some (.o (cIn cs l)))(hu:us=prs cs)(ha:dI [i,j]=true)(hz:([i,j].all fun j=>gL j cf.yT)=true)(hl:us.length=l.length)
  (k:G (.mk P T hT n c B0 N X Q) K m e (IX L [i,j] ++ [ow s l]) cf):G (.mk P T hT n c B0 N X Q) K m e L cf:=by
 refine chg (fun _:Unit=>m) (fun _=>e) (fun _=>IX L [i,j] ++ [ow s l]) (fun B a w hm hA hS=>?_) (fun _=>RM _ hz) (fun _=>k);obtain⟨⟨R,s1,s2⟩,s0⟩:=hS;refine⟨(),[],by grind,by grind,⟨⟨R,?_,fun x hx=>?_⟩,s0⟩⟩
 ·rw[FK,uX,GQ];exact s1.shift [i,j] ha (A':=[bH [s.v l.length] l]) (fun F hF=>by
   rw[NF (M:=[ow s us,.o (cIn cs l)]) (by grind[aU])] at hF;obtain⟨G1,G2,g1,g2,g3,g4⟩:=hF;have g2:cL w cs l G2:=Sep.one.1 g2;have g1:aJ.own w [s.v us.length] us G1:=g1;rw[hl] at g1;have:=a1M hn g1 g2 hu g3;exact Sep.one.2 (by
    have e:F=fun b o=>G1 b o\/G2 b o:=by grind
    rw[e];exact this))
 ·rw[FK];rcases fB.1 hx with hx | hx
  ·rcases ND _ _ hx with hx | hx
   ·grind
   ·subst hx;trivial
  ·simp only[jA,PT,or_false] at hx;subst hx;trivial
theorem dlW{α β:Type}[aJ α](hn:aJ.n α=2){f:FuncId}{kf:List α->Option β}{q:β}{s:AC}{l:List α}{us:List R2}{c2:List Value}(i j:Nat)
  (hs:cpS (kO T n K cf m e L)=some (o,some d,f,[.h s l.length,.i .i64 0,.i .i64 1],cf1,cf2,K',m',e',L')) (hi:L'[i]?=some (ow s us)) (hj:(IX L' [i] ++ [ow s us])[j]?=some (.o (cIn c2 (l.drop 1)))) (hz:gL i cf1.yT=true) (ha:dI [L'.length,j]=true) (hz2:([L'.length,j].all fun j=>gL j cf2.yT)=true)
  (hu:us.length=l.length) (hd:us.drop 1=prs c2) (hl:l.length=(l.drop 1).length+1)
  (H:∀{κ:Ctx} {us:List R2},VS P κ f (a1N us 0 1) [.h s us.length,.i .i64 0,.i .i64 1] [] [ow s us] (fun(r:List R2) (y:AC)=>.h y r.length) (fun r y=>[ow y r]))
  (k:∀y:AC,W (G (.mk P T hT n c B0 N X Q) K' m' ((d,.h y (l.drop 1).length) :: e') (IX (IX L' [i] ++ [ow y (us.drop 1)]) [L'.length,j] ++ [ow y (l.drop 1)]) cf2) q (kf (l.drop 1))):W (G (.mk P T hT n c B0 N X Q) K m e L cf) q ((bCJ l 0 1).bind kf):=fun hF=>by
 have hlen:(IX L' [i]).length=L'.length:=by simp[IX]
 have hdl:∀{x},bCJ l 0 1=some x->x=l.drop 1:=fun h=>by obtain⟨_,h⟩:=jW h;grind
 refine cw0 (sv:=fun(r:List α) (y:AC)=>.h y r.length) (Lr:=fun _ y=>[ow y (us.drop 1)]) (M:=[ow s us]) (xs0:=[.h s l.length,.i .i64 0,.i .i64 1]) [i] hs (by simp[aU,hi]) rfl (by grind[HT,dI]) (fun _ _=>rfl) (fun{κ} _ {x} hx=>?_) hF (fun x h1 h2 y=>?_)
 ·have hr:a1N us 0 1=some (us.drop 1):=by grind[a55]
  have h:=H (κ:=κ) (us:=us) _ hr;rw[hu] at h;refine⟨h.call,fun vs hvs hst=>Calls.mono (h.run vs hvs hst) fun en w' hE=>?_⟩;grind
 ·obtain rfl:=hdl h1;refine joR hn L'.length j (by grind) ?_ hd ha hz2 (by simp[hu]) (k y h2);have hjl:j<L'.length:=by
   have h3:j<(IX L' [i] ++ [ow s us]).length:=(CI.1 hj).1;have h4:j≠L'.length:=by intro e;subst e;simp[dI,gL] at ha
   grind
  grind
end
end Go.Gv
end
noncomputable section
namespace Go.Gv
open Go.Lib Go.Proofs
theorem RQ{P:Program}(w:World)(dT sT ty elem:TypeId)(k b o dLen dCap:Nat)(a:Addr)(sLen sCap m:Nat)(cs:List Value)
  (hu:P.underlying dT=some (.slice elem)) (hs:(P.info? elem).map (·.size)=some k) (hm:Nat.min sLen dLen=m) (hn:cs.length=m*k)
  (hsrc:∀j v,cs[j]?=some v->w.cell? (a.add j)=some v) (hc:∀j,j<cs.length->(w.cell? ⟨b,o+j,none⟩).isSome=true) (hf:∀j,j<cs.length->w.frozen? ⟨b,o+j,none⟩=false) (h1:∀v∈cs,v.oneCell'=true) :
  (Builtin.copy_ #[dT,sT] ty #[.slice (some ⟨b,o,none⟩) dLen dCap,.slice (some a) sLen sCap]).run P w=.ok (goInt m) (w.setCells b o cs):=by
 have hl:=run_loadCells_list (P:=P) w a cs hsrc;have hst:=run_storeCells_cells (P:=P) b o cs 0 w (by omega) (by omega) h1;subst hm;cases hq:P.info? elem with
 | none=>grind
 | some i =>
  simp_all[Builtin.copy_,run_underlying,Builtin.lenOf,Builtin.firstCells,sizeOf,typeInfo]
theorem zN(b o0 m:Nat):∀(vs:List Value) (o:Nat) (w:World),o0<=o->o+vs.length<=o0+m->eI (eG b o0 m) w (w.setCells b o vs)
 | [],_,w,_,_=>eI.refl _ _
 | v :: r, o, w, h1, h2 => by simp only[JO] at h2;rw[World.setCells];exact(eI.setCell _ w ⟨b,o,none⟩ v ⟨rfl,h1,by grind⟩ rfl).trans (zN b o0 m r (o+1) _ (by omega) (by omega)) fun _ _ _ h=>h
theorem aD4{w w1:World}(b:Nat)(hb:w.heap.size<=b){vs:List Value}{o:Nat}(h:eI F0 w w1):eI F0 w (w1.setCells b o vs):=
 h.trans ((zN b o vs.length vs o w1 (lB _) (lB _)).mono (G:=eG b o vs.length) fun _ _ _ h=>h) (F:=F0) fun b' o' hlt hr=>by obtain⟨rfl,_⟩:=hr;omega
theorem C3{w:World}{b o:Nat}{vs:List Value}(h:∀j,j<vs.length->(w.cell? ⟨b,o+j,none⟩).isSome=true):bB (w.setCells b o vs) b o vs:=fun j v hj=>by grind[World.cell?_setCells_in]
theorem uH{w:World}{b o o':Nat}{vs cs:List Value}(h:bB w b o' cs)(hd:o'+cs.length<=o\/o+vs.length<=o'):bB (w.setCells b o vs) b o' cs:=fun j v hj=>by have hl:=(CI.1 hj).1;rw[World.cell?_setCells_out b vs o w ⟨b,o'+j,none⟩ (fun _ _=>by grind)];exact h j v hj
theorem QD{w:World}{b o:Nat}{cs ds:List Value}(h:bB w b o cs)(k:bB w b (o+cs.length) ds):bB w b o (cs++ds):=fun j v hj=>by
 by_cases hl:j<cs.length
 ·rw[aOV hl] at hj;exact h j v hj
 ·rw[aLG (by omega)] at hj;have:=k _ v hj;grind
theorem aSL{w:World}{b o n:Nat}{cs:List Value}(h:bB w b o cs):bB w b o (cs.take n):=fun j v hj=>by
 rw[aDU] at hj;split at hj
 ·exact h j v hj
 ·cases hj
theorem aAL{w:World}{b o n o':Nat}{vs:List Value}(h:Row w b o n)(ho:o<=o'/\o'+vs.length<=o+n):Row (w.setCells b o' vs) b o n:=fun q hq=>by obtain⟨_,h2,h3⟩:=hq;refine⟨Go.Proofs.isSome_setCells b vs o' w (fun j hj=>(h (o'+j) ⟨rfl,by omega,by omega⟩).1) q (h q ⟨rfl,h2,h3⟩).1,?_⟩;rw[World.frozen?_setCells];exact(h q ⟨rfl,h2,h3⟩).2
def bEM(w:World)(k n:Nat)(ad:Option Addr)(c:Nat)(ccs:List Value)(e:Ending)(w':World):Prop:=
 ∃b o c',e=.returned (.slice (some ⟨b,o,none⟩) (n+1) c')/\n+1<=c'/\c'<=maxLen/\bB w' b o ccs/\Row w' b o (c'*k) /\
  ((ad=some ⟨b,o,none⟩/\c'=c/\eI (eG b o (c*k)) w w')\/(w.heap.size<=b/\eI F0 w w'))
def bEN(P:Program)(f k:Nat):Prop:=∀(b off n c i vb:Nat) (cs vs:List Value) (w:World),i<n->n+1<=c->c<=9223372036854775807->vb≠b->cs.length=n*k->vs.length=k ->
  bB w b off cs->(∀j,j<c*k->(w.cell? ⟨b,off+j,none⟩).isSome=true)->(∀j,j<c*k->w.frozen? ⟨b,off+j,none⟩=false) ->
  bB w vb 0 vs->(∀v∈cs,v.oneCell'=true)->(∀v∈vs,v.oneCell'=true) ->
  ∀(tA tB:TypeId) (kA kB:Nat),w.shape? vb=some (tA,kA)->w.shape? b=some (tB,kB)->kB≠0->w.frozen? ⟨vb,0,none⟩=false->w.frozen? ⟨vb,kA,none⟩=false ->
  Calls P f #[.slice (some ⟨b,off,none⟩) n c,.int .i64 i,.slice (some ⟨vb,0,none⟩) 1 1] w fun e w'=>
   e=.returned (.slice (some ⟨b,off,none⟩) (n+1) c)/\w'=(w.drew.setCells b (off+(i+1)*k) (cs.drop (i*k))).setCells b (off+i*k) vs
def bEO(P:Program)(f k:Nat):Prop:=∀(b off n c vb:Nat) (vs:List Value) (w:World),n+1<=c->c<=9223372036854775807->vs.length=k ->
  (∀j,j<c*k->(w.cell? ⟨b,off+j,none⟩).isSome=true)->(∀j,j<c*k->w.frozen? ⟨b,off+j,none⟩=false)->bB w vb 0 vs->(∀v∈vs,v.oneCell'=true) ->
  Calls P f #[.slice (some ⟨b,off,none⟩) n c,.int .i64 n,.slice (some ⟨vb,0,none⟩) 1 1] w fun e w'=>
   e=.returned (.slice (some ⟨b,off,none⟩) (n+1) c)/\w'=w.setCells b (off+n*k) vs
def bEP(P:Program)(f k el:Nat)(z:Value):Prop:=∀(base:Option Addr) (n c vb:Nat) (cs vs:List Value) (w:World),n<=c->c<n+1->n+1<=1073741824->cs.length=n*k->vs.length=k->(base=none->n=0) ->
  (∀a,base=some a->∀j v,cs[j]?=some v->w.cell? (a.add j)=some v)->bB w vb 0 vs->(∀v∈vs,v.oneCell'=true) ->
  Calls P f #[.slice base n c,.int .i64 n,.slice (some ⟨vb,0,none⟩) 1 1] w fun e w'=>
   e=.returned (.slice (some ⟨w.heap.size,0,none⟩) (n+1) (grownCap w (n+1) c el)) /\
   w'=w.drew.alloc (.cells ((cs++vs).toArray++Builtin.zeroCells z.cells (grownCap w (n+1) c el - (n+1))) el)
def bEQ(P:Program)(f k el:Nat)(z:Value):Prop:=∀(b off n c i vb:Nat) (cs vs:List Value) (w:World),i<n->n<=c->c<n+1->n+1<=1073741824->cs.length=n*k->vs.length=k ->
  bB w b off cs->bB w vb 0 vs->(∀v∈cs,v.oneCell'=true)->(∀v∈vs,v.oneCell'=true) ->
  Calls P f #[.slice (some ⟨b,off,none⟩) n c,.int .i64 i,.slice (some ⟨vb,0,none⟩) 1 1] w fun e w'=>
   e=.returned (.slice (some ⟨w.heap.size,0,none⟩) (n+1) (grownCap w (n+1) c el)) /\
   w'=(((w.alloc (.cells ((cs.take (i*k)).toArray++Builtin.zeroCells z.cells (n+1 - i)++Builtin.zeroCells z.cells (grownCap w (n+1) c el - (n+1))) el)).drew.setCells w.heap.size (i*k) vs).drew).setCells w.heap.size ((i+1)*k) (cs.drop (i*k))
def bCK(P:Program)(f k:Nat):Prop:=∀(ad:Option Addr) (n c i vb:Nat) (cs vs:List Value) (w:World),i<=n->n<=c->c<=maxLen->n+1<=1073741824->cs.length=n*k->vs.length=k ->
  bB w vb 0 vs->(∀v∈cs,v.oneCell'=true)->(∀v∈vs,v.oneCell'=true)->(∀o,w.frozen? ⟨vb,o,none⟩=false) ->
  ((ad=none/\c=0)\/∃b off,ad=some ⟨b,off,none⟩/\Row w b off (c*k)/\bB w b off cs/\(0<c->vb≠b)) ->
  Calls P f #[.slice ad n c,.int .i64 i,.slice (some ⟨vb,0,none⟩) 1 1] w (bEM w k n ad c (cs.take (i*k)++vs++cs.drop (i*k)))
theorem aPS{w:World}{b o:Nat}(h:(w.cell? ⟨b,o,none⟩).isSome=true):∃t k,w.shape? b=some (t,k)/\k≠0:=by grind[World.cell?,World.shape?]
theorem a56{P:Program}{f k el:Nat}{z:Value}(hk:0<k)(hz:z.cells.size=k)(hS:bEN P f k)(hR:bEO P f k)(hE:bEP P f k el z)(hG:bEQ P f k el z):bCK P f k:=by
 intro ad n c i vb cs vs w hi hnc hcm hb hcl hvl hvs h1c h1v hfz hrow;have hgc:n+1<=grownCap w (n+1) c el:=grownCap_ge _ _ _ _;have hgm:grownCap w (n+1) c el<=maxLen:=grownCap_le_maxLen w (n+1) c el (by grind[maxLen]);have hnk:(n+1)*k=n*k+k:=by grind
 by_cases hin:i=n
 ·subst hin;have e1:cs.take (i*k)=cs:=by grind
  have e2:cs.drop (i*k)=[]:=by grind
  rw[e1,e2,FK];by_cases hroom:i+1<=c
  ·rcases hrow with ⟨_,h0⟩ | ⟨b,off,rfl,hr,hc,_⟩
   ·omega
   have hck:(i+1)*k<=c*k:=tO _ hroom;refine(hR b off i c vb vs w hroom hcm hvl (fun j hj=>(hr _ ⟨rfl,by omega,by omega⟩).1) (fun j hj=>(hr _ ⟨rfl,by omega,by omega⟩).2) hvs h1v).mono ?_;rintro e w' ⟨rfl,rfl⟩;refine⟨b,off,c,rfl,hroom,hcm,QD (uH hc (.inl (by omega))) (by rw[hcl];exact C3 fun j hj=>(hr _ ⟨rfl,by omega,by omega⟩).1),aAL hr ⟨by omega,by omega⟩,.inl ⟨rfl,rfl,zN b off _ vs _ w (by omega) (by omega)⟩⟩
  ·refine(hE ad i c vb cs vs w hnc (by omega) hb hcl hvl (fun h=>?_) (fun a ha=>?_) hvs h1v).mono ?_
   ·grind
   ·rcases hrow with ⟨h0,_⟩ | ⟨b,off,h1,hr,hc,_⟩
    ·grind
    ·rw[ha] at h1;cases h1;intro j v hj;rw[Addr.add_lit];exact hc j v hj
   rintro e w' ⟨rfl,rfl⟩;have hsz:((cs++vs).toArray++Builtin.zeroCells z.cells (grownCap w (i+1) c el - (i+1))).size=grownCap w (i+1) c el*k:=by rw[Array.size_append,size_zeroCells,hz,List.size_toArray,C1,hcl,hvl,Nat.sub_mul,hnk];have:(i+1)*k<=grownCap w (i+1) c el*k:=tO _ hgc;omega
   refine⟨w.heap.size,0,_,rfl,hgc,hgm,fun j v hj=>?_,fun o ho=>⟨?_,World.frozen?_alloc_at (w:=w.drew) _ _ w.heap.size o rfl⟩,.inr ⟨lB _,(eI.drew F0 w).trans (eI.alloc _ _ _) fun _ _ _ h=>h⟩⟩
   ·rw[YA,World.cell?_alloc_at (w:=w.drew) _ _ w.heap.size j rfl];grind
   ·obtain⟨_,_,h3⟩:=ho;rw[World.cell?_alloc_at (w:=w.drew) _ _ w.heap.size o rfl,Array.getElem?_eq_getElem (by omega)];rfl
 ·have hlt:i<n:=by omega
  have hik:(i+1)*k=i*k+k:=by grind
  have hink:(i+1)*k<=n*k:=tO _ hlt;have htl:(cs.take (i*k)).length=i*k:=by grind
  have hdl:(cs.drop (i*k)).length=n*k - i*k:=by grind
  rcases hrow with ⟨_,h0⟩ | ⟨b,off,rfl,hr,hc,hne⟩
  ·omega
  have hsv:=aPS (w:=w) (b:=vb) (o:=0) (by rw[show(0:Nat)=0+0 from rfl,hvs 0 _ (kG (by omega))];rfl);obtain⟨tA,kA,hsa,_⟩:=hsv;by_cases hroom:n+1<=c
  ·have hck:(n+1)*k<=c*k:=tO _ hroom;obtain⟨tB,kB,hsb,hkB⟩:=aPS (w:=w) (b:=b) (o:=off) (hr off ⟨rfl,by omega,by omega⟩).1;refine(hS b off n c i vb cs vs w hlt hroom hcm (hne (by omega)) hcl hvl hc (fun j hj=>(hr _ ⟨rfl,by omega,by omega⟩).1) (fun j hj=>(hr _ ⟨rfl,by omega,by omega⟩).2) hvs h1c h1v tA tB kA kB hsa hsb hkB (hfz _) (hfz _)).mono ?_;rintro e w' ⟨rfl,rfl⟩;have hc':bB w.drew b off cs:=hc;have hr':Row w.drew b off (c*k):=hr;have hr1:=aAL (o':=off+(i+1)*k) (vs:=cs.drop (i*k)) hr' ⟨by omega,by omega⟩;refine⟨b,off,c,rfl,hroom,hcm,?_,aAL hr1 ⟨by omega,by omega⟩,.inl ⟨rfl,rfl,((eI.drew _ w).trans (zN b off _ _ _ _ (by omega) (by omega)) fun _ _ _ h=>h).trans (zN b off _ vs _ _ (by omega) (by omega)) fun _ _ _ h=>h⟩⟩;refine QD (QD ?_ ?_) ?_
   ·grind[uH,aSL]
   ·rw[htl];exact C3 fun j hj=>(hr1 _ ⟨rfl,by omega,by omega⟩).1
   ·rw[C1,htl,hvl,<-hik];exact uH (C3 fun j hj=>(hr' _ ⟨rfl,by omega,by omega⟩).1) (.inr (by omega))
  ·refine(hG b off n c i vb cs vs w hlt hnc (by omega) hb hcl hvl hc hvs h1c h1v).mono ?_;rintro e w' ⟨rfl,rfl⟩;obtain⟨ROW,hROW⟩:∃ROW:Array Value,ROW=(cs.take (i*k)).toArray++Builtin.zeroCells z.cells (n+1 - i)++Builtin.zeroCells z.cells (grownCap w (n+1) c el - (n+1)):=⟨_,rfl⟩;rw[<-hROW];have hsz:ROW.size=grownCap w (n+1) c el*k:=by rw[hROW,Array.size_append,Array.size_append,size_zeroCells,size_zeroCells,hz,List.size_toArray,htl,<-mP,<-mP];grind
   have hgk:(n+1)*k<=grownCap w (n+1) c el*k:=tO _ hgc;have hcN:∀j,(w.alloc (.cells ROW el)).cell? ⟨w.heap.size,j,none⟩=ROW[j]?:=fun j=>World.cell?_alloc_at (w:=w) ROW _ w.heap.size j rfl;have hr0:Row (w.alloc (.cells ROW el)).drew w.heap.size 0 (grownCap w (n+1) c el*k):=fun o ho=>by obtain⟨_,_,h3⟩:=ho;simp_all
   have hc0:bB (w.alloc (.cells ROW el)).drew w.heap.size 0 (cs.take (i*k)):=fun j v hj=>by show(w.alloc (.cells ROW el)).cell? _=_;grind
   have hr1:=aAL (o':=i*k) (vs:=vs) hr0 ⟨by omega,by omega⟩;have hr1':Row ((w.alloc (.cells ROW el)).drew.setCells w.heap.size (i*k) vs).drew w.heap.size 0 (grownCap w (n+1) c el*k):=hr1;refine⟨w.heap.size,0,_,rfl,hgc,hgm,?_,aAL hr1' ⟨by omega,by omega⟩,.inr ⟨lB _,aD4 _ (lB _) ((aD4 _ (lB _) ((eI.alloc _ _ _).trans (eI.drew _ _) fun _ _ _ h=>h)).trans (eI.drew _ _) fun _ _ _ h=>h)⟩⟩;refine QD (QD ?_ ?_) ?_
   ·exact uH (show bB _ _ _ _ from uH hc0 (.inl (by omega))) (.inl (by omega))
   ·rw[htl,YA];refine uH (show bB _ _ _ _ from C3 fun j hj=>?_) (.inl (by omega))
    (simp_all;omega)
   ·rw[C1,htl,hvl,<-hik,YA];exact C3 fun j hj=>(hr1' _ ⟨rfl,by omega,by omega⟩).1
def a93{α:Type}[aJ α](s:AC)(x:α):Chunk where
 P w F:=∃b cs,s=⟨some ⟨b,0,none⟩,1⟩/\b<w.heap.size/\(∀o,w.frozen? ⟨b,o,none⟩=false)/\bB w b 0 cs/\(∀w,aJ.own w cs x F0)/\∀b' o,F b' o↔b'=b
 keep:=fun⟨b,cs,h1,h2,h3,h4,h5,h6⟩ hk hd=>⟨b,cs,h1,PU h2 hk.size,fun o=>(hk.yT b o h2).trans (h3 o),fun j v hj=>(hk.cell b _ h2 fun hg=>hd b _ ((h6 b _).2 rfl) hg).trans (h4 j v hj),h5,h6⟩
 lt:=fun⟨b,cs,h1,h2,h3,h4,h5,h6⟩ hF=>by grind
def cLs{α:Type}[aJ α](s:AC)(v:List α):Chunk where
 P w F:=∃x,v=[x]/\(a93 s x).P w F
 keep:=fun⟨x,h1,h2⟩ hk hd=>⟨x,h1,(a93 s x).keep h2 hk hd⟩
 lt:=fun⟨x,_,h2⟩ hF=>(a93 s x).lt h2 hF
def bCL{α:Type}(l:List α)(i:Int)(v:List α):Option (List α):=need (0<=i/\i<=(l.length:Int)/\l.length+v.length<=1073741824) (some (l.take i.toNat++v++l.drop i.toNat))
theorem a1P{α:Type}[aJ α]{w:World}{cs:List Value}{x:α}(h:aJ.own w cs x F0):cL w cs [x] F0:=⟨cs,[],F0,F0,(FK _).symm,h,⟨rfl,fun _ _ h=>h⟩,fun _ _ h=>h.elim,fun _ _=>by simp[F0]⟩
theorem aAM{α:Type}[aJ α][Flat α]{w w':World}:∀{l:List α} {cs:List Value} {F:cD},cL w cs l F->cL w' cs l F0
 | [],cs,F,h=>⟨h.1,fun _ _ h=>h⟩
 | x :: r,cs,F,⟨c1,c2,F1,F2,e,h1,h2,hd,hF⟩=>⟨c1,c2,F0,F0,e,aY8 h1,aAM h2,fun _ _ h=>h.elim,fun _ _=>by simp[F0]⟩
theorem aVG{α:Type}[aJ α]{w:World}:∀{l:List α} {cs:List Value} {F:cD},cL w cs l F->∀v∈cs,v.oneCell'=true
 | [],cs,F,h,v,hv=>by rw[h.1] at hv;cases hv
 | x :: r, cs, F, ⟨c1, c2, F1, F2, e, h1, h2, hd, hF⟩, v, hv => by rw[e] at hv;exact(fB.1 hv).elim (aJ.rd_one (aJ.own_rd h1) v) (aVG h2 v)
theorem bER{P:Program}{κ:Ctx}{f:FuncId}{α:Type}[aJ α][Flat α]{k:Nat}(hn:aJ.n α=k)(hk:0<k)(hC:bCK P f k)(hcall:∀args w,(callFunc f args).run P w=.ok (.enter f args) w){s v:List α}{i:Int}{s1 s2:AC} :
  VS P κ f (bCL s i v) [.h s1 s.length,.i .i64 i,.h s2 v.length] [] [ow s1 s,.o (cLs s2 v)] (fun r (y:AC)=>.h y r.length) (fun r y=>[ow y r]):=fun r hr=>by
 unfold bCL at hr;obtain⟨⟨hi0,hi1,hb⟩,hr⟩:=jW hr;obtain⟨j,rfl⟩:∃j:Nat,i=j:=⟨i.toNat,by omega⟩;rw[K7] at hr;cases hr;refine⟨hcall,fun vs hv hS=>?_⟩;simp[aU,fF,gV,bR] at hv;subst hv;obtain⟨⟨R,h1,h2⟩,h0⟩:=hS;have h1:St κ κ.w0 [bH [s1.v s.length] s,cLs s2 v] R:=by grind[lD]
 obtain⟨F,S,⟨F1,F2,hs1,⟨F3,F4,hs2,_,_,hF34⟩,hdj,_⟩,_⟩:=h1.sep;obtain⟨x,rfl,vb,cv,rfl,hvb,hvf,hvc,hvo,hvF⟩:=hs2;have hs1:aJ.own κ.w0 [s1.v s.length] s F1:=hs1;obtain⟨a,c,he,hl1,hl2,hrest⟩:=m6.1 hs1;obtain⟨sa,sc⟩:=s1;simp only[AC.v,Value.slice.injEq,true_and] at he;obtain⟨rfl,rfl⟩:=he;have hvl:cv.length=k:=by rw[<-hn];exact aJ.lJ (aJ.own_rd (hvo κ.w0))
 have hv1:∀v∈cv,v.oneCell'=true:=aJ.rd_one (aJ.own_rd (hvo κ.w0));obtain⟨cs,hcl,hc1,hrow,hall⟩:∃cs,cs.length=s.length*k/\(∀v∈cs,v.oneCell'=true)/\((sa=none/\sc=0)\/∃b off,sa=some ⟨b,off,none⟩/\Row κ.w0 b off (sc*k)/\bB κ.w0 b off cs/\(0<sc->vb≠b))/\∀w,cL w cs s F0:=by
  rcases hrest with ⟨rfl,rfl,_⟩ | ⟨b,off,cc,Fe,rfl,hr,hc,ho,_,hF⟩
  ·have hsn:s=[]:=rY (by omega);subst hsn;exact⟨[],by simp,by simp,.inl ⟨rfl,rfl⟩,fun _=>⟨rfl,fun _ _ h=>h⟩⟩
  ·rw[hn] at hr hF;refine⟨cc,by rw[<-hn];exact ho.length,aVG ho,.inr ⟨b,off,rfl,hr,hc,fun h0 e=>?_⟩,fun _=>aAM ho⟩;subst e;have hk:0<sc*k:=Nat.mul_pos h0 hk;exact hdj vb off ((hF vb off).2 (.inl ⟨rfl,lB _,by omega⟩)) ((hF34 vb off).2 (.inl ((hvF vb off).2 rfl)))
 refine(hC sa s.length sc j vb cs cv κ.w0 (by omega) hl1 hl2 hb hcl hvl hvc hc1 hv1 hvf hrow).mono ?_;rintro e w' ⟨b,o,c',rfl,hlc,hcm,hcc,hrw,hkk⟩;have hlen:(s.take j ++ [x]++s.drop j).length=s.length+1:=by grind
 refine⟨_,rfl,⟨some ⟨b,o,none⟩,c'⟩,by grind[fF,gV,bR],⟨R,?_,by simp[roF]⟩,h0⟩;have hcs:∀w,cL w (cs.take (j*k)++cv++cs.drop (j*k)) (s.take j ++ [x]++s.drop j) F0:=fun w=>by
  have h:=hall w;rw[<-aDY j s] at h;obtain⟨c1,c2,G1,G2,e,k1,k2,_,_⟩:=cL.split h;have hl:c1.length=j*k:=by rw[k1.length,hn,Z5];grind
  rw[e,List.take_left' hl,List.drop_left' hl,qE,qE];exact cL.app (aAM k1) (show cL w (cv++c2) ([x]++s.drop j) F0 from cL.app (a1P (hvo w)) (aAM k2) (fun _ _ h=>h.elim) fun _ _=>by simp[F0]) (fun _ _ h=>h.elim) fun _ _=>by simp[F0]
 have:=h1.aZC (w':=w') [0,1] rfl (A':=[bH [(⟨some ⟨b,o,none⟩,c'⟩:AC).v (s.take j ++ [x]++s.drop j).length] (s.take j ++ [x]++s.drop j)]) (fun F hF=>by
  obtain⟨F1',F2',q1,q2,q3,q4⟩:=hF;have q1:aJ.own κ.w0 [_] s F1':=q1;have hown:aJ.own w' [(⟨some ⟨b,o,none⟩,c'⟩:AC).v (s.take j ++ [x]++s.drop j).length] (s.take j ++ [x]++s.drop j) (eG b o (c'*k)):=
   m6.2 ⟨_,c',rfl,by omega,hcm,.inr ⟨b,o,_,F0,rfl,by grind,hcc,hcs w',fun _ _ h=>h.elim,fun b' o'=>by grind[F0]⟩⟩
  rcases hkk with ⟨rfl,rfl,hK⟩ | ⟨hnew,hK⟩
  ·obtain⟨a',c'',he',_,_,hr'⟩:=m6.1 q1;simp only[AC.v,Value.slice.injEq,true_and] at he';obtain⟨rfl,rfl⟩:=he';rcases hr' with ⟨h,_⟩ | ⟨b2,o2,cc2,Fe2,h,_,_,_,_,hF2⟩
   ·cases h
   ·cases h;rw[hn] at hF2;exact⟨_,_,hK,fun b' o' g=>(q4 b' o').2 (.inl ((hF2 b' o').2 (.inl g))),Sep.one.2 hown,fun b' o' g=>.inl ((q4 b' o').2 (.inl ((hF2 b' o').2 (.inl g))))⟩
  ·exact⟨_,F0,hK,fun _ _ h=>h.elim,Sep.one.2 hown,fun b' o' g=>.inr (by obtain⟨rfl,_⟩:=g;exact hnew)⟩)
 exact this.P2 [2] rfl
noncomputable section
variable {P:Program} {T:TT} {hT:GP P T} {n:Nat} {c:Ctx} {B0:Bl} {N:Act->World->Prop} {X:Nat->Act->World->Prop} {Q:Act->World->Prop} {K K':List Fr} {m m':Nat} {e e':SE} {L L' Lv:List Ch} {cf cf' cf1 cf2:vT} {o:Oper} {d:Nat}
variable {x:Operand} {t t2 el sz:Nat} {b1 b2 b3:Bool} {n1 n2 n3:Nat} {z1 z2 z3:List SV}
theorem ltL{α:Type}[aJ α][Flat α](E:CO α)(y:E.ex)(q:α){zv:Value}(hinf:UD P el sz zv)(hs:kO T n K cf m e L=.op o Lv cf1 cf2 K' m' e' L')(ho:(o.op,o.dst)=(.buildSlice t 1 #[(0,x)],some d))(ht:CM T t=some ⟨.sl el,b1,n1,z1⟩)(hn:aJ.n α=sz)(hm:Nat.ble 1 sz=true)(hsm:Nat.ble (1*sz) 16777216=true)(hev:aU (fun p=>(jC e' p.2).map fun v=>nbL (pW v)) [((0:Nat),x)]=some ([q].map fun q=>E.cs q y))(hec:([q].all fun q=>Nat.beq (E.cs q y).length sz && (aU (bR []) (E.cs q y)).isSome)=true)(hL:∀q,E.Lx q y=[])
  (k:∀s':AC,G (.mk P T hT n c B0 N X Q) K' m' ((d,.h s' [q].length) :: e') (L' ++ [.o (cLs s' [q])]) cf2):G (.mk P T hT n c B0 N X Q) K m e L cf:=by
 refine aSD (l:=[q]) (fun s'=>L' ++ [.o (cLs s' [q])]) hs (congrArg Prod.snd ho) (fun _=>xJ _) (fun B a w hA hS=>?_) k;obtain⟨⟨R,s1,s2⟩,s0⟩:=hS;obtain⟨vs,cells,g1,g2,g3,g4,g5⟩:=lits E y (sz:=sz) hA hL hev hec;obtain⟨v,rfl⟩:∃v,vs=[v]:=by
  match vs,g2 with
  | [v],_=>simp
 obtain⟨ti,hi,hz,hsz,hby⟩:=hinf;obtain⟨h1,h2⟩:=g5.get hn;have hcl:cells.length=sz:=by grind
 have hc:=aHH (len:=1) (m:=sz) (vs:=[v]) (ps:=[(0,x)]) (F:=fun i=>(if 1*sz=0 then #[] else zv.cells)[i % (if 1*sz=0 then #[] else zv.cells).size]!) rfl rfl g3 g4;have hu:=IW ht hT;have hm0:¬1*sz=0:=by(simp_all;omega)
 have hsm':¬1*sz > 2 ^ 24:=by simp_all
 refine⟨⟨some ⟨w.heap.size,0,none⟩,1⟩,w.alloc (.cells cells.toArray el),fun _ a hA'=>?_,⟨R,?_,fun z hz=>?_⟩,s0⟩
 ·have hps:a.eval x=v:=by have:=M9 hA' g1;grind
  have ho':=congrArg Prod.fst ho;simp only at ho';simp only[hm0,if_false] at hc;have hm1:¬sz=0:=by omega
  have hs1:¬sz > 16777216:=by omega
  simp only[Nat.one_mul,hm1,if_false] at hc;simp[execOp,ho',Instr.buildSlice,run_underlying hu,sizeOf,typeInfo,zeroValue,hi,hz,hsz,hps,hm1,hs1,AC.v];simp_all[newRow]
 ·have:=s1.more (eI.alloc F0 w (.cells cells.toArray el)) (ch:=cLs ⟨some ⟨w.heap.size,0,none⟩,1⟩ [q]) ⟨fun b _=>b=w.heap.size,⟨q,rfl,w.heap.size,cells,rfl,by simp,fun o=>World.frozen?_alloc_at (w:=w) _ _ w.heap.size o rfl,fun j v hj=>?_,fun w'=>?_,fun _ _=>Iff.rfl⟩,fun b o hb=>SZ hb.symm⟩
  ·grind[lD]
  ·simp_all
  ·have:=h2 0 q rfl;rw[show IU cells sz 0=cells by unfold IU;grind] at this;grind[Flat.own_of]
 ·rcases fB.1 hz with hz | hz
  ·grind
  ·simp at hz;subst hz;trivial
end
end Go.Gv
end
noncomputable section
namespace Go.Gv
def aPT(k:Nat):List Nat->Bool
 | []=>false
 | a :: r => match Nat.beq k a with
  | true=>true
  | false=>aPT k r
def aCT(is:List Nat):Nat->List Ch->List Ch
 | _,[]=>[]
 | k, x :: r => match aPT k is with
  | true=>.no :: aCT is (k+1) r
  | false=>x :: aCT is (k+1) r
theorem aPU:∀(L:List Ch) (k:Nat),aCT [] k L=L
 | [],_=>rfl
 | x :: L,k=>by simp only[aCT,aPT,aPU L]
theorem aVH{k i:Nat}(r:List Nat)(h:k≠i):aPT k (i :: r)=aPT k r:=by
 have:Nat.beq k i=false:=by
  cases e:Nat.beq k i
  ·rfl
  ·exact absurd (qG e) h
 simp only[aPT,this]
theorem a57(i:Nat)(r:List Nat):aPT i (i :: r)=true:=by simp only[aPT,Nat.beq_refl]
theorem aVI(i:Nat)(r:List Nat):∀(L:List Ch) (k:Nat),i<k->aCT (i :: r) k L=aCT r k L
 | [],_,_=>rfl
 | x :: L, k, h => by simp only[aCT,aVH r (show k≠i by omega),aVI i r L (k+1) (by omega)]
theorem aPV(i:Nat)(r:List Nat):∀(L:List Ch) (k:Nat),k<=i->aCT (i :: r) k L=aCT r k (L.set (i - k) .no)
 | [],_,_=>rfl
 | x :: L, k, h => by
  by_cases e:k=i
  ·subst e;rw[Nat.sub_self];simp only[List.set,aCT,a57,aVI k r L (k+1) (by omega)];split<;>rfl
  ·obtain⟨d,hd⟩:∃d,i - k=d+1:=⟨i - k - 1,by omega⟩;have h2:i - (k+1)=d:=by omega
   rw[hd];simp only[List.set,aCT,aVH r e,aPV i r L (k+1) (by omega),h2]
theorem a1Q:∀(is:List Nat) (L:List Ch),IX L is=aCT is 0 L
 | [],L=>(aPU L 0).symm
 | i :: r, L => by rw[aPV i r L 0 (jT _),Nat.sub_zero];exact a1Q r _
noncomputable section
variable {P:Program} {T:TT} {hT:GP P T} {n:Nat} {c:Ctx} {B0:Bl} {N:Act->World->Prop} {X:Nat->Act->World->Prop} {Q:Act->World->Prop} {K K':List Fr} {m m':Nat} {e e':SE} {L L' Lv:List Ch} {cf cf' cf1 cf2:vT} {o:Oper}
variable {α β ex:Type} {fo:Option α} {kf:α->Option β} {q:β} {d:Option Nat} {f:FuncId} {xs xs0:List SV} {M:List Ch} {sv:α->ex->SV} {Lr:α->ex->List Ch}
theorem bCM{c1 c2 c3:List SV}{a1 a2 a3:α->ex->List SV}(i1 n1 o1 k1:Nat)(i2 n2 o2 k2:Nat)(i3 n3 o3 k3:Nat)(is:List Nat)
  (hs:cpS (kO T n K cf m e L)=some (o,d,f,xs,cf1,cf2,K',m',e',L')) (hb:aHR L' [(i1,n1,o1,k1),(i2,n2,o2,k2),(i3,n3,o3,k3)]=some [c1,c2,c3]) (hi:aU (fun i=>L'[i]?) is=some M) (hx:aU (rnP [(i1,n1,o1,k1),(i2,n2,o2,k2),(i3,n3,o3,k3)] 0) xs=some xs0)
  (hk:(HT M && ([c1,c2,c3].all (xI.okC 0) && (dI (i1 :: i2 :: i3 :: is) && (i1 :: i2 :: i3 :: is).all fun j=>gL j cf1.yT)))=true)
  (hc:∀{κ:Ctx},HG c κ L' (i1 :: i2 :: i3 :: is)->∀{b1 b2 b3:Nat×Nat},VS P κ f fo xs0 [b1,b2,b3] (.box 0 c1 :: .box 1 c2 :: .box 2 c3 :: M) sv (fun x y=>.box 0 (a1 x y) :: .box 1 (a2 x y) :: .box 2 (a3 x y) :: Lr x y))
  (k:∀x,∀y:ex,W (G (.mk P T hT n c B0 N X Q) K' m' (dse d (sv x y) e') (MR L' (aCT (i1 :: i2 :: i3 :: is) 0 L'++Lr x y) [(i1,n1,o1,k1),(i2,n2,o2,k2),(i3,n3,o3,k3)] [a1 x y,a2 x y,a3 x y]) cf2) q (kf x)) (hn:∀x y,(aAJ [(i1,n1,o1,k1),(i2,n2,o2,k2),(i3,n3,o3,k3)] [a1 x y,a2 x y,a3 x y] && ([a1 x y,a2 x y,a3 x y].all (xI.okC 0) && (HT (Lr x y) && xI 0 (sv x y))))=true:=by exact fun _ _=>rfl):W (G (.mk P T hT n c B0 N X Q) K m e L cf) q (fo.bind kf):=
 bEG i1 n1 o1 k1 i2 n2 o2 k2 i3 n3 o3 k3 is hs hb hi hx hk hc (fun x y=>by rw[a1Q];exact k x y) hn
end
end Go.Gv
end
noncomputable section
namespace Go.Gv
noncomputable section
variable {P:Program} {T:TT} {hT:GP P T} {n:Nat} {c:Ctx} {B0:Bl} {N:Act->World->Prop} {X:Nat->Act->World->Prop} {Q:Act->World->Prop} {K K':List Fr} {m m':Nat} {e e':SE} {L L' Lv:List Ch} {cf cf' cf1 cf2:vT} {o:Oper}
variable {α:Type} {fo:Option α} {d:Nat} {f:FuncId} {xs:List SV} {v:α}
theorem FM{sv:α->SV}(hA:fo=some v)(hs:kO T n K cf m e L=.call o (some d) f xs cf1 cf2 K' m' e' L')
  (hc:∀{w},HS c w L'->V0 P (b9 w) f fo xs sv) (k:G (.mk P T hT n c B0 N X Q) K' m' ((d,sv v) :: e') L' cf2):G (.mk P T hT n c B0 N X Q) K m e L cf:=
 c0 (kf:=some) (q:=v) hs hc (fun x hx=>by cases hx;exact k) (rb hA)
theorem iS{ex:Type}{sv:α->ex->SV}{Lf:α->ex->List Ch}(hA:fo=some v)(hs:kO T n K cf m e L=.call o (some d) f xs cf1 cf2 K' m' e' L')
  (hc:∀{w},HS c w L'->VS P (b9 w) f fo xs [] [] sv Lf) (k:∀y:ex,G (.mk P T hT n c B0 N X Q) K' m' ((d,sv v y) :: e') (L'++Lf v y) cf2) (hn:∀x y,noF (Lf x y)=true:=by exact fun _ _=>rfl):G (.mk P T hT n c B0 N X Q) K m e L cf:=
 c1 (kf:=some) (q:=v) hs hc (fun x y hx=>by cases hx;exact k y) hn (rb hA)
end
end Go.Gv
end
noncomputable section
namespace Go.Gv
structure dM where
 b:List UInt8
 i:Int
 h:Int
 deriving DecidableEq,Inhabited
instance:aJ dM:=aJ.via (fun d=>(d.b,d.i,d.h))
instance:Fits dM:=Fits.via (fun d=>(d.b,d.i,d.h))
structure iT where
 Kind:Int
 Key:Int
 dO:Int
 deriving DecidableEq,Inhabited
instance:aJ iT:=aJ.via (fun d=>(d.Kind,d.Key,d.dO))
instance:Fits iT:=Fits.via (fun d=>(d.Kind,d.Key,d.dO))
theorem a94{S:cD}{w:World}{cs:List Value}{d:iT}(h:aJ.rd S w cs d):cs=[.int .i64 (d.Kind),.int .i64 (d.Key),.int .i64 (d.dO)]:=by obtain⟨c0,r0,e0,h0,n0⟩:=h;have q0:c0=[_]:=h0;obtain⟨c1,r1,e1,h1,n1⟩:=n0;have q1:c1=[_]:=h1;have q2:r1=[_]:=n1;exact by rw[e0,e1,q0,q1,q2];rfl
instance:Flat iT:=⟨fun h=>Flat.own_of (α:=Int×Int×Int) h,fun h=>Flat.no (α:=Int×Int×Int) h⟩
theorem a95(d:iT):OP [.int .i64 (d.Kind),.int .i64 (d.Key),.int .i64 (d.dO)] d []:=(show OP (α:=Int×Int×Int) _ (d.Kind,d.Key,d.dO) _ from(eQ (c1:=[.int .i64 (d.Kind)]) (c2:=[.int .i64 (d.Key),.int .i64 (d.dO)]) (A:=[]) (B:=[]) (eK rfl) (eQ (c1:=[.int .i64 (d.Key)]) (c2:=[.int .i64 (d.dO)]) (A:=[]) (B:=[]) (eK rfl) (eK rfl) rfl) rfl))
structure Batch where
 Collect:Bool
 aY:List iT
 deriving DecidableEq,Inhabited
instance:aJ Batch:=aJ.via (fun d=>(d.Collect,d.aY))
instance:Fits Batch:=Fits.via (fun d=>(d.Collect,d.aY))
theorem aPW{S:cD}{w:World}{cs:List Value}{d:Batch}(h:aJ.rd S w cs d):∃v0:Value,cs=[.bool (d.Collect),v0]/\aJ.rd S w [v0] d.aY:=by obtain⟨c0,r0,e0,h0,n0⟩:=h;have q0:c0=[_]:=h0;obtain⟨u1,q1⟩:=jJ n0;rw[q1] at n0;exact⟨u1,by rw[e0,q0,q1];rfl,n0⟩
theorem aPX(d:Batch){v0:Value}:OP [.bool (d.Collect),v0] d [bH [v0] d.aY]:=(show OP (α:=Bool×(List iT)) _ (d.Collect,d.aY) _ from(eQ (c1:=[.bool (d.Collect)]) (c2:=[v0]) (A:=[]) (B:=[bH [v0] d.aY]) (eK rfl) IV rfl))
structure aL where
 List:List Batch
 deriving DecidableEq,Inhabited
instance:aJ aL:=aJ.via (fun d=>(d.List))
instance:Fits aL:=Fits.via (fun d=>(d.List))
theorem aXB{S:cD}{w:World}{cs:List Value}{d:aL}(h:aJ.rd S w cs d):∃v0:Value,cs=[v0]/\aJ.rd S w [v0] d.List:=by obtain⟨u0,q0⟩:=jJ h;rw[q0] at h;exact⟨u0,q0,h⟩
theorem aXC(d:aL){v0:Value}:OP [v0] d [bH [v0] d.List]:=(show OP (α:=(List Batch)) _ (d.List) _ from IV)
structure vC where
 dU:List aL
 j7:List Int
 deriving DecidableEq,Inhabited
instance:aJ vC:=aJ.via (fun d=>(d.dU,d.j7))
instance:Fits vC:=Fits.via (fun d=>(d.dU,d.j7))
structure Heap where
 Bytes:List Int
 Class:List Int
 deriving DecidableEq,Inhabited
instance:aJ Heap:=aJ.via (fun d=>(d.Bytes,d.Class))
instance:Fits Heap:=Fits.via (fun d=>(d.Bytes,d.Class))
structure aW where
 aT:List Int
 deriving DecidableEq,Inhabited
instance:aJ aW:=aJ.via (fun d=>(d.aT))
instance:Fits aW:=Fits.via (fun d=>(d.aT))
theorem aPY{S:cD}{w:World}{cs:List Value}{d:aW}(h:aJ.rd S w cs d):∃v0:Value,cs=[v0]/\aJ.rd S w [v0] d.aT:=by obtain⟨u0,q0⟩:=jJ h;rw[q0] at h;exact⟨u0,q0,h⟩
theorem C4(d:aW){v0:Value}:OP [v0] d [bH [v0] d.aT]:=(show OP (α:=(List Int)) _ (d.aT) _ from IV)
theorem _root_.Go.Gv.St.a1R{c:Ctx}{L:List Chunk}{R:List Fact}{w:World}{s:Value}{l:List aW}{i:Nat}{x:aW}(h:St c w L R)(j:Nat)(hj:R[j]?=some (BO [s] l))(hi:l[i]?=some x):∃v0:Value,bB w (PZ s) (PN 1 i s) [v0]/\St c w L (R ++ [BO [v0] x.aT]):=by obtain⟨S,hS,hk⟩:=h.aY6 hj;obtain⟨ec,h1,h2⟩:=aOY hS hi;obtain⟨v0,q,q0⟩:=aPY h2;rw[q] at h1;exact⟨v0,h1,hk _ (by intro f hf;simp only[jA,PT,or_false] at hf;subst hf;exact q0)⟩
structure aD where
 Global:List aW
 Own:List aW
 deriving DecidableEq,Inhabited
instance:aJ aD:=aJ.via (fun d=>(d.Global,d.Own))
instance:Fits aD:=Fits.via (fun d=>(d.Global,d.Own))
structure Mem where
 Heap:Heap
 aD:aD
 deriving DecidableEq,Inhabited
instance:aJ Mem:=aJ.via (fun d=>(d.Heap,d.aD))
instance:Fits Mem:=Fits.via (fun d=>(d.Heap,d.aD))
structure vR where
 On:Bool
 aG:Int
 fU:Bool
 Seen:Int
 deriving DecidableEq,Inhabited
instance:aJ vR:=aJ.via (fun d=>(d.On,d.aG,d.fU,d.Seen))
instance:Fits vR:=Fits.via (fun d=>(d.On,d.aG,d.fU,d.Seen))
theorem a96{S:cD}{w:World}{cs:List Value}{d:vR}(h:aJ.rd S w cs d):cs=[.bool (d.On),.int .i64 (d.aG),.bool (d.fU),.int .i64 (d.Seen)]:=by obtain⟨c0,r0,e0,h0,n0⟩:=h;have q0:c0=[_]:=h0;obtain⟨c1,r1,e1,h1,n1⟩:=n0;have q1:c1=[_]:=h1;obtain⟨c2,r2,e2,h2,n2⟩:=n1;have q2:c2=[_]:=h2;have q3:r2=[_]:=n2;exact by rw[e0,e1,e2,q0,q1,q2,q3];rfl
theorem a1S{S:cD}{w:World}(d:vR):aJ.rd S w [.bool (d.On),.int .i64 (d.aG),.bool (d.fU),.int .i64 (d.Seen)] d:=⟨[.bool (d.On)],[.int .i64 (d.aG),.bool (d.fU),.int .i64 (d.Seen)],rfl,rfl,⟨[.int .i64 (d.aG)],[.bool (d.fU),.int .i64 (d.Seen)],rfl,rfl,⟨[.bool (d.fU)],[.int .i64 (d.Seen)],rfl,rfl,rfl⟩⟩⟩
instance:Flat vR:=⟨fun h=>Flat.own_of (α:=Bool×Int×Bool×Int) h,fun h=>Flat.no (α:=Bool×Int×Bool×Int) h⟩
theorem a97(d:vR):OP [.bool (d.On),.int .i64 (d.aG),.bool (d.fU),.int .i64 (d.Seen)] d []:=(show OP (α:=Bool×Int×Bool×Int) _ (d.On,d.aG,d.fU,d.Seen) _ from(eQ (c1:=[.bool (d.On)]) (c2:=[.int .i64 (d.aG),.bool (d.fU),.int .i64 (d.Seen)]) (A:=[]) (B:=[]) (eK rfl) (eQ (c1:=[.int .i64 (d.aG)]) (c2:=[.bool (d.fU),.int .i64 (d.Seen)]) (A:=[]) (B:=[]) (eK rfl) (eQ (c1:=[.bool (d.fU)]) (c2:=[.int .i64 (d.Seen)]) (A:=[]) (B:=[]) (eK rfl) (eK rfl) rfl) rfl) rfl))
structure aA where
 aG:Int
 cH:List vR
 deriving DecidableEq,Inhabited
instance:aJ aA:=aJ.via (fun d=>(d.aG,d.cH))
instance:Fits aA:=Fits.via (fun d=>(d.aG,d.cH))
structure eE where
 Handle:Int
 aG:Int
 deriving DecidableEq,Inhabited
instance:aJ eE:=aJ.via (fun d=>(d.Handle,d.aG))
instance:Fits eE:=Fits.via (fun d=>(d.Handle,d.aG))
theorem aVJ{S:cD}{w:World}{cs:List Value}{d:eE}(h:aJ.rd S w cs d):cs=[.int .i64 (d.Handle),.int .i64 (d.aG)]:=by obtain⟨c0,r0,e0,h0,n0⟩:=h;have q0:c0=[_]:=h0;have q1:r0=[_]:=n0;exact by rw[e0,q0,q1];rfl
theorem a58{S:cD}{w:World}(d:eE):aJ.rd S w [.int .i64 (d.Handle),.int .i64 (d.aG)] d:=⟨[.int .i64 (d.Handle)],[.int .i64 (d.aG)],rfl,rfl,rfl⟩
instance:Flat eE:=⟨fun h=>Flat.own_of (α:=Int×Int) h,fun h=>Flat.no (α:=Int×Int) h⟩
theorem a59(d:eE):OP [.int .i64 (d.Handle),.int .i64 (d.aG)] d []:=(show OP (α:=Int×Int) _ (d.Handle,d.aG) _ from(eQ (c1:=[.int .i64 (d.Handle)]) (c2:=[.int .i64 (d.aG)]) (A:=[]) (B:=[]) (eK rfl) (eK rfl) rfl))
theorem a6A{S:cD}{w:World}{s:Value}{l:List eE}{i:Nat}{x:eE}(h:aJ.rd S w [s] l)(hi:l[i]?=some x):bB w (PZ s) (PN 2 i s) [.int .i64 (x.Handle),.int .i64 (x.aG)]:=by obtain⟨ec,h1,h2⟩:=aOY h hi;rw[aVJ h2] at h1;exact h1
structure bI where
 Rows:List eE
 deriving DecidableEq,Inhabited
instance:aJ bI:=aJ.via (fun d=>(d.Rows))
instance:Fits bI:=Fits.via (fun d=>(d.Rows))
theorem aPZ{S:cD}{w:World}{cs:List Value}{d:bI}(h:aJ.rd S w cs d):∃v0:Value,cs=[v0]/\aJ.rd S w [v0] d.Rows:=by obtain⟨u0,q0⟩:=jJ h;rw[q0] at h;exact⟨u0,q0,h⟩
theorem aHU(d:bI){v0:Value}:OP [v0] d [bH [v0] d.Rows]:=(show OP (α:=(List eE)) _ (d.Rows) _ from IV)
theorem _root_.Go.Gv.St.aP0{c:Ctx}{L:List Chunk}{R:List Fact}{w:World}{s:Value}{l:List bI}{i:Nat}{x:bI}(h:St c w L R)(j:Nat)(hj:R[j]?=some (BO [s] l))(hi:l[i]?=some x):∃v0:Value,bB w (PZ s) (PN 1 i s) [v0]/\St c w L (R ++ [BO [v0] x.Rows]):=by obtain⟨S,hS,hk⟩:=h.aY6 hj;obtain⟨ec,h1,h2⟩:=aOY hS hi;obtain⟨v0,q,q0⟩:=aPZ h2;rw[q] at h1;exact⟨v0,h1,hk _ (by intro f hf;simp only[jA,PT,or_false] at hf;subst hf;exact q0)⟩
structure aC where
 Mem:Mem
 aA:aA
 aN:List bI
 qH:List Int
 deriving DecidableEq,Inhabited
instance:aJ aC:=aJ.via (fun d=>(d.Mem,d.aA,d.aN,d.qH))
instance:Fits aC:=Fits.via (fun d=>(d.Mem,d.aA,d.aN,d.qH))
structure bY where
 Head:Int
 fX:Int
 gP:Int
 deriving DecidableEq,Inhabited
instance:aJ bY:=aJ.via (fun d=>(d.Head,d.fX,d.gP))
instance:Fits bY:=Fits.via (fun d=>(d.Head,d.fX,d.gP))
theorem a98{S:cD}{w:World}{cs:List Value}{d:bY}(h:aJ.rd S w cs d):cs=[.int .i64 (d.Head),.int .i64 (d.fX),.int .i64 (d.gP)]:=by obtain⟨c0,r0,e0,h0,n0⟩:=h;have q0:c0=[_]:=h0;obtain⟨c1,r1,e1,h1,n1⟩:=n0;have q1:c1=[_]:=h1;have q2:r1=[_]:=n1;exact by rw[e0,e1,q0,q1,q2];rfl
theorem uU{S:cD}{w:World}(d:bY):aJ.rd S w [.int .i64 (d.Head),.int .i64 (d.fX),.int .i64 (d.gP)] d:=⟨[.int .i64 (d.Head)],[.int .i64 (d.fX),.int .i64 (d.gP)],rfl,rfl,⟨[.int .i64 (d.fX)],[.int .i64 (d.gP)],rfl,rfl,rfl⟩⟩
instance:Flat bY:=⟨fun h=>Flat.own_of (α:=Int×Int×Int) h,fun h=>Flat.no (α:=Int×Int×Int) h⟩
theorem a99(d:bY):OP [.int .i64 (d.Head),.int .i64 (d.fX),.int .i64 (d.gP)] d []:=(show OP (α:=Int×Int×Int) _ (d.Head,d.fX,d.gP) _ from(eQ (c1:=[.int .i64 (d.Head)]) (c2:=[.int .i64 (d.fX),.int .i64 (d.gP)]) (A:=[]) (B:=[]) (eK rfl) (eQ (c1:=[.int .i64 (d.fX)]) (c2:=[.int .i64 (d.gP)]) (A:=[]) (B:=[]) (eK rfl) (eK rfl) rfl) rfl))
structure gW where
 Key:Int
 dO:Int
 Next:Int
 deriving DecidableEq,Inhabited
instance:aJ gW:=aJ.via (fun d=>(d.Key,d.dO,d.Next))
instance:Fits gW:=Fits.via (fun d=>(d.Key,d.dO,d.Next))
theorem a1T{S:cD}{w:World}{cs:List Value}{d:gW}(h:aJ.rd S w cs d):cs=[.int .i64 (d.Key),.int .i64 (d.dO),.int .i64 (d.Next)]:=by obtain⟨c0,r0,e0,h0,n0⟩:=h;have q0:c0=[_]:=h0;obtain⟨c1,r1,e1,h1,n1⟩:=n0;have q1:c1=[_]:=h1;have q2:r1=[_]:=n1;exact by rw[e0,e1,q0,q1,q2];rfl
theorem a1U{S:cD}{w:World}(d:gW):aJ.rd S w [.int .i64 (d.Key),.int .i64 (d.dO),.int .i64 (d.Next)] d:=⟨[.int .i64 (d.Key)],[.int .i64 (d.dO),.int .i64 (d.Next)],rfl,rfl,⟨[.int .i64 (d.dO)],[.int .i64 (d.Next)],rfl,rfl,rfl⟩⟩
instance:Flat gW:=⟨fun h=>Flat.own_of (α:=Int×Int×Int) h,fun h=>Flat.no (α:=Int×Int×Int) h⟩
structure Sub where
 Kind:Int
 A:Int
 Pc:Int
 E:Int
 Row:Int
 B:Int
 H:Int
 Out:Int
 Code:Int
 cJ:Bool
 deriving DecidableEq,Inhabited
instance:aJ Sub:=aJ.via (fun d=>(d.Kind,d.A,d.Pc,d.E,d.Row,d.B,d.H,d.Out,d.Code,d.cJ))
instance:Fits Sub:=Fits.via (fun d=>(d.Kind,d.A,d.Pc,d.E,d.Row,d.B,d.H,d.Out,d.Code,d.cJ))
theorem bAA{S:cD}{w:World}{cs:List Value}{d:Sub}(h:aJ.rd S w cs d):cs=[.int .i64 (d.Kind),.int .i64 (d.A),.int .i64 (d.Pc),.int .i64 (d.E),.int .i64 (d.Row),.int .i64 (d.B),.int .i64 (d.H),.int .i64 (d.Out),.int .i64 (d.Code),.bool (d.cJ)]:=by obtain⟨c0,r0,e0,h0,n0⟩:=h;have q0:c0=[_]:=h0;obtain⟨c1,r1,e1,h1,n1⟩:=n0;have q1:c1=[_]:=h1;obtain⟨c2,r2,e2,h2,n2⟩:=n1;have q2:c2=[_]:=h2;obtain⟨c3,r3,e3,h3,n3⟩:=n2;have q3:c3=[_]:=h3;obtain⟨c4,r4,e4,h4,n4⟩:=n3;have q4:c4=[_]:=h4;obtain⟨c5,r5,e5,h5,n5⟩:=n4;have q5:c5=[_]:=h5;obtain⟨c6,r6,e6,h6,n6⟩:=n5;have q6:c6=[_]:=h6;obtain⟨c7,r7,e7,h7,n7⟩:=n6;have q7:c7=[_]:=h7;obtain⟨c8,r8,e8,h8,n8⟩:=n7;have q8:c8=[_]:=h8;have q9:r8=[_]:=n8;exact by rw[e0,e1,e2,e3,e4,e5,e6,e7,e8,q0,q1,q2,q3,q4,q5,q6,q7,q8,q9];rfl
theorem bAB{S:cD}{w:World}(d:Sub):aJ.rd S w [.int .i64 (d.Kind),.int .i64 (d.A),.int .i64 (d.Pc),.int .i64 (d.E),.int .i64 (d.Row),.int .i64 (d.B),.int .i64 (d.H),.int .i64 (d.Out),.int .i64 (d.Code),.bool (d.cJ)] d:=⟨[.int .i64 (d.Kind)],[.int .i64 (d.A),.int .i64 (d.Pc),.int .i64 (d.E),.int .i64 (d.Row),.int .i64 (d.B),.int .i64 (d.H),.int .i64 (d.Out),.int .i64 (d.Code),.bool (d.cJ)],rfl,rfl,⟨[.int .i64 (d.A)],[.int .i64 (d.Pc),.int .i64 (d.E),.int .i64 (d.Row),.int .i64 (d.B),.int .i64 (d.H),.int .i64 (d.Out),.int .i64 (d.Code),.bool (d.cJ)],rfl,rfl,⟨[.int .i64 (d.Pc)],[.int .i64 (d.E),.int .i64 (d.Row),.int .i64 (d.B),.int .i64 (d.H),.int .i64 (d.Out),.int .i64 (d.Code),.bool (d.cJ)],rfl,rfl,⟨[.int .i64 (d.E)],[.int .i64 (d.Row),.int .i64 (d.B),.int .i64 (d.H),.int .i64 (d.Out),.int .i64 (d.Code),.bool (d.cJ)],rfl,rfl,⟨[.int .i64 (d.Row)],[.int .i64 (d.B),.int .i64 (d.H),.int .i64 (d.Out),.int .i64 (d.Code),.bool (d.cJ)],rfl,rfl,⟨[.int .i64 (d.B)],[.int .i64 (d.H),.int .i64 (d.Out),.int .i64 (d.Code),.bool (d.cJ)],rfl,rfl,⟨[.int .i64 (d.H)],[.int .i64 (d.Out),.int .i64 (d.Code),.bool (d.cJ)],rfl,rfl,⟨[.int .i64 (d.Out)],[.int .i64 (d.Code),.bool (d.cJ)],rfl,rfl,⟨[.int .i64 (d.Code)],[.bool (d.cJ)],rfl,rfl,rfl⟩⟩⟩⟩⟩⟩⟩⟩⟩
instance:Flat Sub:=⟨fun h=>Flat.own_of (α:=Int×Int×Int×Int×Int×Int×Int×Int×Int×Bool) h,fun h=>Flat.no (α:=Int×Int×Int×Int×Int×Int×Int×Int×Int×Bool) h⟩
structure Seen where
 bY:Int
 fX:Int
 deriving DecidableEq,Inhabited
instance:aJ Seen:=aJ.via (fun d=>(d.bY,d.fX))
instance:Fits Seen:=Fits.via (fun d=>(d.bY,d.fX))
theorem a6B{S:cD}{w:World}{cs:List Value}{d:Seen}(h:aJ.rd S w cs d):cs=[.int .i64 (d.bY),.int .i64 (d.fX)]:=by obtain⟨c0,r0,e0,h0,n0⟩:=h;have q0:c0=[_]:=h0;have q1:r0=[_]:=n0;exact by rw[e0,q0,q1];rfl
instance:Flat Seen:=⟨fun h=>Flat.own_of (α:=Int×Int) h,fun h=>Flat.no (α:=Int×Int) h⟩
theorem a6C(d:Seen):OP [.int .i64 (d.bY),.int .i64 (d.fX)] d []:=(show OP (α:=Int×Int) _ (d.bY,d.fX) _ from(eQ (c1:=[.int .i64 (d.bY)]) (c2:=[.int .i64 (d.fX)]) (A:=[]) (B:=[]) (eK rfl) (eK rfl) rfl))
structure aS where
 Key:Int
 FR:Bool
 dO:Int
 deriving DecidableEq,Inhabited
instance:aJ aS:=aJ.via (fun d=>(d.Key,d.FR,d.dO))
instance:Fits aS:=Fits.via (fun d=>(d.Key,d.FR,d.dO))
theorem a1V{S:cD}{w:World}{cs:List Value}{d:aS}(h:aJ.rd S w cs d):cs=[.int .i64 (d.Key),.bool (d.FR),.int .i64 (d.dO)]:=by obtain⟨c0,r0,e0,h0,n0⟩:=h;have q0:c0=[_]:=h0;obtain⟨c1,r1,e1,h1,n1⟩:=n0;have q1:c1=[_]:=h1;have q2:r1=[_]:=n1;exact by rw[e0,e1,q0,q1,q2];rfl
theorem a1W{S:cD}{w:World}(d:aS):aJ.rd S w [.int .i64 (d.Key),.bool (d.FR),.int .i64 (d.dO)] d:=⟨[.int .i64 (d.Key)],[.bool (d.FR),.int .i64 (d.dO)],rfl,rfl,⟨[.bool (d.FR)],[.int .i64 (d.dO)],rfl,rfl,rfl⟩⟩
instance:Flat aS:=⟨fun h=>Flat.own_of (α:=Int×Bool×Int) h,fun h=>Flat.no (α:=Int×Bool×Int) h⟩
theorem a1X(d:aS):OP [.int .i64 (d.Key),.bool (d.FR),.int .i64 (d.dO)] d []:=(show OP (α:=Int×Bool×Int) _ (d.Key,d.FR,d.dO) _ from(eQ (c1:=[.int .i64 (d.Key)]) (c2:=[.bool (d.FR),.int .i64 (d.dO)]) (A:=[]) (B:=[]) (eK rfl) (eQ (c1:=[.bool (d.FR)]) (c2:=[.int .i64 (d.dO)]) (A:=[]) (B:=[]) (eK rfl) (eK rfl) rfl) rfl))
structure dJ where
 Is:Bool
 dO:Int
 deriving DecidableEq,Inhabited
instance:aJ dJ:=aJ.via (fun d=>(d.Is,d.dO))
instance:Fits dJ:=Fits.via (fun d=>(d.Is,d.dO))
theorem bAC{S:cD}{w:World}{cs:List Value}{d:dJ}(h:aJ.rd S w cs d):cs=[.bool (d.Is),.int .i64 (d.dO)]:=by obtain⟨c0,r0,e0,h0,n0⟩:=h;have q0:c0=[_]:=h0;have q1:r0=[_]:=n0;exact by rw[e0,q0,q1];rfl
instance:Flat dJ:=⟨fun h=>Flat.own_of (α:=Bool×Int) h,fun h=>Flat.no (α:=Bool×Int) h⟩
theorem bAD(d:dJ):OP [.bool (d.Is),.int .i64 (d.dO)] d []:=(show OP (α:=Bool×Int) _ (d.Is,d.dO) _ from(eQ (c1:=[.bool (d.Is)]) (c2:=[.int .i64 (d.dO)]) (A:=[]) (B:=[]) (eK rfl) (eK rfl) rfl))
structure aE where
 bX:Bool
 Batch:Batch
 aI:Int
 Pc:Int
 At:Int
 K:Int
 bY:Int
 fX:Int
 H:Int
 dB:Int
 Node:gW
 Found:Bool
 Code:Int
 Sub:Sub
 Reads:List Seen
 aB:List aS
 dJ:List dJ
 dF:List Int
 aQ:List Int
 bA:List Int
 deriving DecidableEq,Inhabited
instance:aJ aE:=aJ.via (fun d=>(d.bX,d.Batch,d.aI,d.Pc,d.At,d.K,d.bY,d.fX,d.H,d.dB,d.Node,d.Found,d.Code,d.Sub,d.Reads,d.aB,d.dJ,d.dF,d.aQ,d.bA))
instance:Fits aE:=Fits.via (fun d=>(d.bX,d.Batch,d.aI,d.Pc,d.At,d.K,d.bY,d.fX,d.H,d.dB,d.Node,d.Found,d.Code,d.Sub,d.Reads,d.aB,d.dJ,d.dF,d.aQ,d.bA))
theorem a6D{S:cD}{w:World}{cs:List Value}{d:aE}(h:aJ.rd S w cs d):∃v0 v1 v2 v3 v4 v5 v6:Value,cs=[.bool (d.bX),.bool (d.Batch.Collect),v0,.int .i64 (d.aI),.int .i64 (d.Pc),.int .i64 (d.At),.int .i64 (d.K),.int .i64 (d.bY),.int .i64 (d.fX),.int .i64 (d.H),.int .i64 (d.dB),.int .i64 (d.Node.Key),.int .i64 (d.Node.dO),.int .i64 (d.Node.Next),.bool (d.Found),.int .i64 (d.Code),.int .i64 (d.Sub.Kind),.int .i64 (d.Sub.A),.int .i64 (d.Sub.Pc),.int .i64 (d.Sub.E),.int .i64 (d.Sub.Row),.int .i64 (d.Sub.B),.int .i64 (d.Sub.H),.int .i64 (d.Sub.Out),.int .i64 (d.Sub.Code),.bool (d.Sub.cJ),v1,v2,v3,v4,v5,v6]/\aJ.rd S w [v0] d.Batch.aY/\aJ.rd S w [v1] d.Reads/\aJ.rd S w [v2] d.aB/\aJ.rd S w [v3] d.dJ/\aJ.rd S w [v4] d.dF/\aJ.rd S w [v5] d.aQ/\aJ.rd S w [v6] d.bA:=by obtain⟨c0,r0,e0,h0,n0⟩:=h;have q0:c0=[_]:=h0;obtain⟨c1,r1,e1,h1,n1⟩:=n0;obtain⟨u1_0,q1,hq1_0⟩:=aPW h1;obtain⟨c2,r2,e2,h2,n2⟩:=n1;have q2:c2=[_]:=h2;obtain⟨c3,r3,e3,h3,n3⟩:=n2;have q3:c3=[_]:=h3;obtain⟨c4,r4,e4,h4,n4⟩:=n3;have q4:c4=[_]:=h4;obtain⟨c5,r5,e5,h5,n5⟩:=n4;have q5:c5=[_]:=h5;obtain⟨c6,r6,e6,h6,n6⟩:=n5;have q6:c6=[_]:=h6;obtain⟨c7,r7,e7,h7,n7⟩:=n6;have q7:c7=[_]:=h7;obtain⟨c8,r8,e8,h8,n8⟩:=n7;have q8:c8=[_]:=h8;obtain⟨c9,r9,e9,h9,n9⟩:=n8;have q9:c9=[_]:=h9;obtain⟨c10,r10,e10,h10,n10⟩:=n9;have q10:=a1T h10;obtain⟨c11,r11,e11,h11,n11⟩:=n10;have q11:c11=[_]:=h11;obtain⟨c12,r12,e12,h12,n12⟩:=n11;have q12:c12=[_]:=h12;obtain⟨c13,r13,e13,h13,n13⟩:=n12;have q13:=bAA h13;obtain⟨c14,r14,e14,h14,n14⟩:=n13;obtain⟨u14,q14⟩:=jJ h14;rw[q14] at h14;obtain⟨c15,r15,e15,h15,n15⟩:=n14;obtain⟨u15,q15⟩:=jJ h15;rw[q15] at h15;obtain⟨c16,r16,e16,h16,n16⟩:=n15;obtain⟨u16,q16⟩:=jJ h16;rw[q16] at h16;obtain⟨c17,r17,e17,h17,n17⟩:=n16;obtain⟨u17,q17⟩:=jJ h17;rw[q17] at h17;obtain⟨c18,r18,e18,h18,n18⟩:=n17;obtain⟨u18,q18⟩:=jJ h18;rw[q18] at h18;obtain⟨u19,q19⟩:=jJ n18;rw[q19] at n18;exact⟨u1_0,u14,u15,u16,u17,u18,u19,by rw[e0,e1,e2,e3,e4,e5,e6,e7,e8,e9,e10,e11,e12,e13,e14,e15,e16,e17,e18,q0,q1,q2,q3,q4,q5,q6,q7,q8,q9,q10,q11,q12,q13,q14,q15,q16,q17,q18,q19];rfl,hq1_0,h14,h15,h16,h17,h18,n18⟩
theorem m7(d:aE){v0:Value}{v1:Value}{v2:Value}{v3:Value}{v4:Value}{v5:Value}{v6:Value}:OP [.bool (d.bX),.bool (d.Batch.Collect),v0,.int .i64 (d.aI),.int .i64 (d.Pc),.int .i64 (d.At),.int .i64 (d.K),.int .i64 (d.bY),.int .i64 (d.fX),.int .i64 (d.H),.int .i64 (d.dB),.int .i64 (d.Node.Key),.int .i64 (d.Node.dO),.int .i64 (d.Node.Next),.bool (d.Found),.int .i64 (d.Code),.int .i64 (d.Sub.Kind),.int .i64 (d.Sub.A),.int .i64 (d.Sub.Pc),.int .i64 (d.Sub.E),.int .i64 (d.Sub.Row),.int .i64 (d.Sub.B),.int .i64 (d.Sub.H),.int .i64 (d.Sub.Out),.int .i64 (d.Sub.Code),.bool (d.Sub.cJ),v1,v2,v3,v4,v5,v6] d [bH [v0] d.Batch.aY,bH [v1] d.Reads,bH [v2] d.aB,bH [v3] d.dJ,bH [v4] d.dF,bH [v5] d.aQ,bH [v6] d.bA]:=(show OP (α:=Bool×Batch×Int×Int×Int×Int×Int×Int×Int×Int×gW×Bool×Int×Sub×(List Seen)×(List aS)×(List dJ)×(List Int)×(List Int)×(List Int)) _ (d.bX,d.Batch,d.aI,d.Pc,d.At,d.K,d.bY,d.fX,d.H,d.dB,d.Node,d.Found,d.Code,d.Sub,d.Reads,d.aB,d.dJ,d.dF,d.aQ,d.bA) _ from(eQ (c1:=[.bool (d.bX)]) (c2:=[.bool (d.Batch.Collect),v0,.int .i64 (d.aI),.int .i64 (d.Pc),.int .i64 (d.At),.int .i64 (d.K),.int .i64 (d.bY),.int .i64 (d.fX),.int .i64 (d.H),.int .i64 (d.dB),.int .i64 (d.Node.Key),.int .i64 (d.Node.dO),.int .i64 (d.Node.Next),.bool (d.Found),.int .i64 (d.Code),.int .i64 (d.Sub.Kind),.int .i64 (d.Sub.A),.int .i64 (d.Sub.Pc),.int .i64 (d.Sub.E),.int .i64 (d.Sub.Row),.int .i64 (d.Sub.B),.int .i64 (d.Sub.H),.int .i64 (d.Sub.Out),.int .i64 (d.Sub.Code),.bool (d.Sub.cJ),v1,v2,v3,v4,v5,v6]) (A:=[]) (B:=[bH [v0] d.Batch.aY,bH [v1] d.Reads,bH [v2] d.aB,bH [v3] d.dJ,bH [v4] d.dF,bH [v5] d.aQ,bH [v6] d.bA]) (eK rfl) (eQ (c1:=[.bool (d.Batch.Collect),v0]) (c2:=[.int .i64 (d.aI),.int .i64 (d.Pc),.int .i64 (d.At),.int .i64 (d.K),.int .i64 (d.bY),.int .i64 (d.fX),.int .i64 (d.H),.int .i64 (d.dB),.int .i64 (d.Node.Key),.int .i64 (d.Node.dO),.int .i64 (d.Node.Next),.bool (d.Found),.int .i64 (d.Code),.int .i64 (d.Sub.Kind),.int .i64 (d.Sub.A),.int .i64 (d.Sub.Pc),.int .i64 (d.Sub.E),.int .i64 (d.Sub.Row),.int .i64 (d.Sub.B),.int .i64 (d.Sub.H),.int .i64 (d.Sub.Out),.int .i64 (d.Sub.Code),.bool (d.Sub.cJ),v1,v2,v3,v4,v5,v6]) (A:=[bH [v0] d.Batch.aY]) (B:=[bH [v1] d.Reads,bH [v2] d.aB,bH [v3] d.dJ,bH [v4] d.dF,bH [v5] d.aQ,bH [v6] d.bA]) (aPX _) (eQ (c1:=[.int .i64 (d.aI)]) (c2:=[.int .i64 (d.Pc),.int .i64 (d.At),.int .i64 (d.K),.int .i64 (d.bY),.int .i64 (d.fX),.int .i64 (d.H),.int .i64 (d.dB),.int .i64 (d.Node.Key),.int .i64 (d.Node.dO),.int .i64 (d.Node.Next),.bool (d.Found),.int .i64 (d.Code),.int .i64 (d.Sub.Kind),.int .i64 (d.Sub.A),.int .i64 (d.Sub.Pc),.int .i64 (d.Sub.E),.int .i64 (d.Sub.Row),.int .i64 (d.Sub.B),.int .i64 (d.Sub.H),.int .i64 (d.Sub.Out),.int .i64 (d.Sub.Code),.bool (d.Sub.cJ),v1,v2,v3,v4,v5,v6]) (A:=[]) (B:=[bH [v1] d.Reads,bH [v2] d.aB,bH [v3] d.dJ,bH [v4] d.dF,bH [v5] d.aQ,bH [v6] d.bA]) (eK rfl) (eQ (c1:=[.int .i64 (d.Pc)]) (c2:=[.int .i64 (d.At),.int .i64 (d.K),.int .i64 (d.bY),.int .i64 (d.fX),.int .i64 (d.H),.int .i64 (d.dB),.int .i64 (d.Node.Key),.int .i64 (d.Node.dO),.int .i64 (d.Node.Next),.bool (d.Found),.int .i64 (d.Code),.int .i64 (d.Sub.Kind),.int .i64 (d.Sub.A),.int .i64 (d.Sub.Pc),.int .i64 (d.Sub.E),.int .i64 (d.Sub.Row),.int .i64 (d.Sub.B),.int .i64 (d.Sub.H),.int .i64 (d.Sub.Out),.int .i64 (d.Sub.Code),.bool (d.Sub.cJ),v1,v2,v3,v4,v5,v6]) (A:=[]) (B:=[bH [v1] d.Reads,bH [v2] d.aB,bH [v3] d.dJ,bH [v4] d.dF,bH [v5] d.aQ,bH [v6] d.bA]) (eK rfl) (eQ (c1:=[.int .i64 (d.At)]) (c2:=[.int .i64 (d.K),.int .i64 (d.bY),.int .i64 (d.fX),.int .i64 (d.H),.int .i64 (d.dB),.int .i64 (d.Node.Key),.int .i64 (d.Node.dO),.int .i64 (d.Node.Next),.bool (d.Found),.int .i64 (d.Code),.int .i64 (d.Sub.Kind),.int .i64 (d.Sub.A),.int .i64 (d.Sub.Pc),.int .i64 (d.Sub.E),.int .i64 (d.Sub.Row),.int .i64 (d.Sub.B),.int .i64 (d.Sub.H),.int .i64 (d.Sub.Out),.int .i64 (d.Sub.Code),.bool (d.Sub.cJ),v1,v2,v3,v4,v5,v6]) (A:=[]) (B:=[bH [v1] d.Reads,bH [v2] d.aB,bH [v3] d.dJ,bH [v4] d.dF,bH [v5] d.aQ,bH [v6] d.bA]) (eK rfl) (eQ (c1:=[.int .i64 (d.K)]) (c2:=[.int .i64 (d.bY),.int .i64 (d.fX),.int .i64 (d.H),.int .i64 (d.dB),.int .i64 (d.Node.Key),.int .i64 (d.Node.dO),.int .i64 (d.Node.Next),.bool (d.Found),.int .i64 (d.Code),.int .i64 (d.Sub.Kind),.int .i64 (d.Sub.A),.int .i64 (d.Sub.Pc),.int .i64 (d.Sub.E),.int .i64 (d.Sub.Row),.int .i64 (d.Sub.B),.int .i64 (d.Sub.H),.int .i64 (d.Sub.Out),.int .i64 (d.Sub.Code),.bool (d.Sub.cJ),v1,v2,v3,v4,v5,v6]) (A:=[]) (B:=[bH [v1] d.Reads,bH [v2] d.aB,bH [v3] d.dJ,bH [v4] d.dF,bH [v5] d.aQ,bH [v6] d.bA]) (eK rfl) (eQ (c1:=[.int .i64 (d.bY)]) (c2:=[.int .i64 (d.fX),.int .i64 (d.H),.int .i64 (d.dB),.int .i64 (d.Node.Key),.int .i64 (d.Node.dO),.int .i64 (d.Node.Next),.bool (d.Found),.int .i64 (d.Code),.int .i64 (d.Sub.Kind),.int .i64 (d.Sub.A),.int .i64 (d.Sub.Pc),.int .i64 (d.Sub.E),.int .i64 (d.Sub.Row),.int .i64 (d.Sub.B),.int .i64 (d.Sub.H),.int .i64 (d.Sub.Out),.int .i64 (d.Sub.Code),.bool (d.Sub.cJ),v1,v2,v3,v4,v5,v6]) (A:=[]) (B:=[bH [v1] d.Reads,bH [v2] d.aB,bH [v3] d.dJ,bH [v4] d.dF,bH [v5] d.aQ,bH [v6] d.bA]) (eK rfl) (eQ (c1:=[.int .i64 (d.fX)]) (c2:=[.int .i64 (d.H),.int .i64 (d.dB),.int .i64 (d.Node.Key),.int .i64 (d.Node.dO),.int .i64 (d.Node.Next),.bool (d.Found),.int .i64 (d.Code),.int .i64 (d.Sub.Kind),.int .i64 (d.Sub.A),.int .i64 (d.Sub.Pc),.int .i64 (d.Sub.E),.int .i64 (d.Sub.Row),.int .i64 (d.Sub.B),.int .i64 (d.Sub.H),.int .i64 (d.Sub.Out),.int .i64 (d.Sub.Code),.bool (d.Sub.cJ),v1,v2,v3,v4,v5,v6]) (A:=[]) (B:=[bH [v1] d.Reads,bH [v2] d.aB,bH [v3] d.dJ,bH [v4] d.dF,bH [v5] d.aQ,bH [v6] d.bA]) (eK rfl) (eQ (c1:=[.int .i64 (d.H)]) (c2:=[.int .i64 (d.dB),.int .i64 (d.Node.Key),.int .i64 (d.Node.dO),.int .i64 (d.Node.Next),.bool (d.Found),.int .i64 (d.Code),.int .i64 (d.Sub.Kind),.int .i64 (d.Sub.A),.int .i64 (d.Sub.Pc),.int .i64 (d.Sub.E),.int .i64 (d.Sub.Row),.int .i64 (d.Sub.B),.int .i64 (d.Sub.H),.int .i64 (d.Sub.Out),.int .i64 (d.Sub.Code),.bool (d.Sub.cJ),v1,v2,v3,v4,v5,v6]) (A:=[]) (B:=[bH [v1] d.Reads,bH [v2] d.aB,bH [v3] d.dJ,bH [v4] d.dF,bH [v5] d.aQ,bH [v6] d.bA]) (eK rfl) (eQ (c1:=[.int .i64 (d.dB)]) (c2:=[.int .i64 (d.Node.Key),.int .i64 (d.Node.dO),.int .i64 (d.Node.Next),.bool (d.Found),.int .i64 (d.Code),.int .i64 (d.Sub.Kind),.int .i64 (d.Sub.A),.int .i64 (d.Sub.Pc),.int .i64 (d.Sub.E),.int .i64 (d.Sub.Row),.int .i64 (d.Sub.B),.int .i64 (d.Sub.H),.int .i64 (d.Sub.Out),.int .i64 (d.Sub.Code),.bool (d.Sub.cJ),v1,v2,v3,v4,v5,v6]) (A:=[]) (B:=[bH [v1] d.Reads,bH [v2] d.aB,bH [v3] d.dJ,bH [v4] d.dF,bH [v5] d.aQ,bH [v6] d.bA]) (eK rfl) (eQ (c1:=[.int .i64 (d.Node.Key),.int .i64 (d.Node.dO),.int .i64 (d.Node.Next)]) (c2:=[.bool (d.Found),.int .i64 (d.Code),.int .i64 (d.Sub.Kind),.int .i64 (d.Sub.A),.int .i64 (d.Sub.Pc),.int .i64 (d.Sub.E),.int .i64 (d.Sub.Row),.int .i64 (d.Sub.B),.int .i64 (d.Sub.H),.int .i64 (d.Sub.Out),.int .i64 (d.Sub.Code),.bool (d.Sub.cJ),v1,v2,v3,v4,v5,v6]) (A:=[]) (B:=[bH [v1] d.Reads,bH [v2] d.aB,bH [v3] d.dJ,bH [v4] d.dF,bH [v5] d.aQ,bH [v6] d.bA]) (eK (a1U _)) (eQ (c1:=[.bool (d.Found)]) (c2:=[.int .i64 (d.Code),.int .i64 (d.Sub.Kind),.int .i64 (d.Sub.A),.int .i64 (d.Sub.Pc),.int .i64 (d.Sub.E),.int .i64 (d.Sub.Row),.int .i64 (d.Sub.B),.int .i64 (d.Sub.H),.int .i64 (d.Sub.Out),.int .i64 (d.Sub.Code),.bool (d.Sub.cJ),v1,v2,v3,v4,v5,v6]) (A:=[]) (B:=[bH [v1] d.Reads,bH [v2] d.aB,bH [v3] d.dJ,bH [v4] d.dF,bH [v5] d.aQ,bH [v6] d.bA]) (eK rfl) (eQ (c1:=[.int .i64 (d.Code)]) (c2:=[.int .i64 (d.Sub.Kind),.int .i64 (d.Sub.A),.int .i64 (d.Sub.Pc),.int .i64 (d.Sub.E),.int .i64 (d.Sub.Row),.int .i64 (d.Sub.B),.int .i64 (d.Sub.H),.int .i64 (d.Sub.Out),.int .i64 (d.Sub.Code),.bool (d.Sub.cJ),v1,v2,v3,v4,v5,v6]) (A:=[]) (B:=[bH [v1] d.Reads,bH [v2] d.aB,bH [v3] d.dJ,bH [v4] d.dF,bH [v5] d.aQ,bH [v6] d.bA]) (eK rfl) (eQ (c1:=[.int .i64 (d.Sub.Kind),.int .i64 (d.Sub.A),.int .i64 (d.Sub.Pc),.int .i64 (d.Sub.E),.int .i64 (d.Sub.Row),.int .i64 (d.Sub.B),.int .i64 (d.Sub.H),.int .i64 (d.Sub.Out),.int .i64 (d.Sub.Code),.bool (d.Sub.cJ)]) (c2:=[v1,v2,v3,v4,v5,v6]) (A:=[]) (B:=[bH [v1] d.Reads,bH [v2] d.aB,bH [v3] d.dJ,bH [v4] d.dF,bH [v5] d.aQ,bH [v6] d.bA]) (eK (bAB _)) (eQ (c1:=[v1]) (c2:=[v2,v3,v4,v5,v6]) (A:=[bH [v1] d.Reads]) (B:=[bH [v2] d.aB,bH [v3] d.dJ,bH [v4] d.dF,bH [v5] d.aQ,bH [v6] d.bA]) IV (eQ (c1:=[v2]) (c2:=[v3,v4,v5,v6]) (A:=[bH [v2] d.aB]) (B:=[bH [v3] d.dJ,bH [v4] d.dF,bH [v5] d.aQ,bH [v6] d.bA]) IV (eQ (c1:=[v3]) (c2:=[v4,v5,v6]) (A:=[bH [v3] d.dJ]) (B:=[bH [v4] d.dF,bH [v5] d.aQ,bH [v6] d.bA]) IV (eQ (c1:=[v4]) (c2:=[v5,v6]) (A:=[bH [v4] d.dF]) (B:=[bH [v5] d.aQ,bH [v6] d.bA]) IV (eQ (c1:=[v5]) (c2:=[v6]) (A:=[bH [v5] d.aQ]) (B:=[bH [v6] d.bA]) IV IV rfl) rfl) rfl) rfl) rfl) rfl) rfl) rfl) rfl) rfl) rfl) rfl) rfl) rfl) rfl) rfl) rfl) rfl) rfl))
structure lV where
 Kind:Int
 Who:Int
 aI:Int
 Code:Int
 aY:List iT
 dJ:List dJ
 deriving DecidableEq,Inhabited
instance:aJ lV:=aJ.via (fun d=>(d.Kind,d.Who,d.aI,d.Code,d.aY,d.dJ))
instance:Fits lV:=Fits.via (fun d=>(d.Kind,d.Who,d.aI,d.Code,d.aY,d.dJ))
theorem bAE{S:cD}{w:World}{cs:List Value}{d:lV}(h:aJ.rd S w cs d):∃v0 v1:Value,cs=[.int .i64 (d.Kind),.int .i64 (d.Who),.int .i64 (d.aI),.int .i64 (d.Code),v0,v1]/\aJ.rd S w [v0] d.aY/\aJ.rd S w [v1] d.dJ:=by obtain⟨c0,r0,e0,h0,n0⟩:=h;have q0:c0=[_]:=h0;obtain⟨c1,r1,e1,h1,n1⟩:=n0;have q1:c1=[_]:=h1;obtain⟨c2,r2,e2,h2,n2⟩:=n1;have q2:c2=[_]:=h2;obtain⟨c3,r3,e3,h3,n3⟩:=n2;have q3:c3=[_]:=h3;obtain⟨c4,r4,e4,h4,n4⟩:=n3;obtain⟨u4,q4⟩:=jJ h4;rw[q4] at h4;obtain⟨u5,q5⟩:=jJ n4;rw[q5] at n4;exact⟨u4,u5,by rw[e0,e1,e2,e3,e4,q0,q1,q2,q3,q4,q5];rfl,h4,n4⟩
theorem bAF(d:lV){v0:Value}{v1:Value}:OP [.int .i64 (d.Kind),.int .i64 (d.Who),.int .i64 (d.aI),.int .i64 (d.Code),v0,v1] d [bH [v0] d.aY,bH [v1] d.dJ]:=(show OP (α:=Int×Int×Int×Int×(List iT)×(List dJ)) _ (d.Kind,d.Who,d.aI,d.Code,d.aY,d.dJ) _ from(eQ (c1:=[.int .i64 (d.Kind)]) (c2:=[.int .i64 (d.Who),.int .i64 (d.aI),.int .i64 (d.Code),v0,v1]) (A:=[]) (B:=[bH [v0] d.aY,bH [v1] d.dJ]) (eK rfl) (eQ (c1:=[.int .i64 (d.Who)]) (c2:=[.int .i64 (d.aI),.int .i64 (d.Code),v0,v1]) (A:=[]) (B:=[bH [v0] d.aY,bH [v1] d.dJ]) (eK rfl) (eQ (c1:=[.int .i64 (d.aI)]) (c2:=[.int .i64 (d.Code),v0,v1]) (A:=[]) (B:=[bH [v0] d.aY,bH [v1] d.dJ]) (eK rfl) (eQ (c1:=[.int .i64 (d.Code)]) (c2:=[v0,v1]) (A:=[]) (B:=[bH [v0] d.aY,bH [v1] d.dJ]) (eK rfl) (eQ (c1:=[v0]) (c2:=[v1]) (A:=[bH [v0] d.aY]) (B:=[bH [v1] d.dJ]) IV IV rfl) rfl) rfl) rfl) rfl))
structure Table where
 aC:aC
 b8:List bY
 aO:List aE
 dU:List aL
 Log:List lV
 aI:Int
 deriving DecidableEq,Inhabited
instance:aJ Table:=aJ.via (fun d=>(d.aC,d.b8,d.aO,d.dU,d.Log,d.aI))
instance:Fits Table:=Fits.via (fun d=>(d.aC,d.b8,d.aO,d.dU,d.Log,d.aI))
end Go.Gv
end
noncomputable section
namespace Go.Gv
noncomputable section
def aHV(code:List UInt8):Option Bool:=
 some (decide (1048576<(code.length:Int)))
def aKF(x5:Int):Option (Int×Int):=
 some (0,x5)
def GR(code:List UInt8)(x3 x4:Int)(x6:Bool):Option (Step (Int×Int) Int):=
 (if x6 then(idx code x4).bind fun x7=>some (.next (iI .and .i64 (bE ((bE ((bE (x3*131))+(x7.toNat:Int)))+7)) 1073741823,bE (x4+1))) else some (.stop (x3)))
def YC(code:List UInt8):(Int×Int)->Option (Step (Int×Int) Int)
 | (x3,x4)=>(if decide (x4<(code.length:Int)) then GR code x3 x4 (decide (x4<4000)) else GR code x3 x4 false)
def aKG:Int->Option (Int×Int)
 | x5=>aKF x5
def RR(code:List UInt8):Option (Int×Int):=
 (loop (YC code) (bE (10101+(code.length:Int)),0)).bind (aKG)
def C5(c:dM)(x1 x2:Int):Option (Int×(Int×Int)):=
 some (x1,(x2,bE ((bE (c.h*6364136223846793005))+1442695040888963407)))
def sA(c:dM):Option (Int×(Int×Int)):=
 (if decide (c.i<(c.b.length:Int)) then(idx c.b c.i).bind fun x3=>C5 c (iI .and .i64 (bE ((iI .and .i64 (iI .xor .i64 (o9 .i64 (bE ((bE (c.h*6364136223846793005))+1442695040888963407)) 33) (o9 .i64 (bE ((bE (c.h*6364136223846793005))+1442695040888963407)) 45)) 255)+(x3.toNat:Int))) 255) (bE (c.i+1)) else C5 c (iI .and .i64 (iI .xor .i64 (o9 .i64 (bE ((bE (c.h*6364136223846793005))+1442695040888963407)) 33) (o9 .i64 (bE ((bE (c.h*6364136223846793005))+1442695040888963407)) 45)) 255) c.i)
def fW(c:dM)(n:Int):Option (Int×(Int×Int)):=
 (if decide (n<=0) then some (0,(c.i,c.h)) else(if decide (n<=256) then(sA c).bind fun x1=>need (n≠0) (some (Int.tmod x1.1 n,(x1.2.1,x1.2.2))) else(sA c).bind fun x2=>(sA (⟨c.b,x2.2.1,x2.2.2⟩:dM)).bind fun x3=>(sA (⟨c.b,x3.2.1,x3.2.2⟩:dM)).bind fun x4=>(sA (⟨c.b,x4.2.1,x4.2.2⟩:dM)).bind fun x5=>need (n≠0) (some (Int.tmod (bE ((bE ((bE ((bE (x2.1*16777216))+(bE (x3.1*65536))))+(bE (x4.1*256))))+x5.1)) n,(x5.2.1,x5.2.2)))))
def UT(c:dM)(n:Int):Option (Bool×(Int×Int)):=
 (fW c n).bind fun x1=>some (x1.1 == 0,(x1.2.1,x1.2.2))
def nS(c:dM)(list:List Int):Option (Int×(Int×Int)):=
 (fW c (list.length:Int)).bind fun x1=>(idx list x1.1).bind fun x2=>some (x2,(x1.2.1,x1.2.2))
def C6(x1 x2:Int×(Int×Int))(x3 x4 x5:Int):Option (iT×(Int×Int)):=
 some ((⟨x1.1,x2.1,x5⟩:iT),(x3,x4))
def C7(c:dM)(x1 x2:Int×(Int×Int))(x6:Bool):Option (iT×(Int×Int)):=
 (if x6 then(fW (⟨c.b,x2.2.1,x2.2.2⟩:dM) 60000).bind fun x7=>(nS (⟨c.b,x7.2.1,x7.2.2⟩:dM) ([1,65535,x7.1]:List Int)).bind fun x8=>C6 x1 x2 x8.2.1 x8.2.2 x8.1 else C6 x1 x2 x2.2.1 x2.2.2 0)
def HV(c:dM):Option (iT×(Int×Int)):=
 (nS c ([1,1,2,2,3,4,4]:List Int)).bind fun x1=>(fW (⟨c.b,x1.2.1,x1.2.2⟩:dM) 6).bind fun x2=>(if x1.1 == 2 then C7 c x1 x2 true else C7 c x1 x2 (x1.1 == 4))
def aEI(x11 x12:Int)(x13:List iT):Option (Batch×(Int×Int)):=
 some ((⟨false,x13⟩:Batch),(x11,x12))
def IY(x7 x14 x15:Int)(x16:List iT):Option (Step (Int×Int×Int×(List iT)) (Int×Int×(List iT))):=
 some (.next (bE (x7 - 1),x14,x15,x16))
def S2(c:dM):(Int×Int×Int×(List iT))->Option (Step (Int×Int×Int×(List iT)) (Int×Int×(List iT)))
 | (x7,x8,x9,x10)=>(if decide (0<x7) then(HV (⟨c.b,x8,x9⟩:dM)).bind fun x17=>need (x10.length+([x17.1]).length<=1073741824)<|IY x7 x17.2.1 x17.2.2 (x10++([x17.1])) else some (.stop ((x8,x9,x10))))
def aEJ:(Int×Int×(List iT))->Option (Batch×(Int×Int))
 | (x11,x12,x13)=>aEI x11 x12 x13
def J2(c:dM):Option (Batch×(Int×Int)):=
 (UT c 4).bind fun x1=>(if x1.1 then some ((⟨true,[]⟩:Batch),(x1.2.1,x1.2.2)) else(fW (⟨c.b,x1.2.1,x1.2.2⟩:dM) 3).bind fun x2=>(loop (S2 c) (bE (1+x2.1),x2.2.1,x2.2.2,[])).bind (aEJ))
def aAN(x9:List aL)(x10 x11:Int):Option ((List aL)×(Int×Int)):=
 some (x9,(x10,x11))
def NH(x5:List aL)(x6 x21 x22:Int)(x23:List Batch):Option (Step ((List aL)×Int×Int×Int) ((List aL)×Int×Int)):=
 need (x5.length+([(⟨x23⟩:aL)]).length<=1073741824) (some (.next (x5++([(⟨x23⟩:aL)]),bE (x6+1),x21,x22)))
def C8(x17 x24 x25:Int)(x26:List Batch):Option (Step (Int×Int×Int×(List Batch)) (Int×Int×(List Batch))):=
 some (.next (bE (x17 - 1),x24,x25,x26))
def NI(c:dM):(Int×Int×Int×(List Batch))->Option (Step (Int×Int×Int×(List Batch)) (Int×Int×(List Batch)))
 | (x17,x18,x19,x20)=>(if decide (0<x17) then(J2 (⟨c.b,x18,x19⟩:dM)).bind fun x27=>need (x20.length+([x27.1]).length<=1073741824)<|C8 x17 x27.2.1 x27.2.2 (x20++([x27.1])) else some (.stop ((x18,x19,x20))))
def NJ(x5:List aL)(x6:Int):(Int×Int×(List Batch))->Option (Step ((List aL)×Int×Int×Int) ((List aL)×Int×Int))
 | (x21,x22,x23)=>NH x5 x6 x21 x22 x23
def NL(c:dM)(most:Int):((List aL)×Int×Int×Int)->Option (Step ((List aL)×Int×Int×Int) ((List aL)×Int×Int))
 | (x5,x6,x7,x8)=>(if decide (x6<3) then(fW (⟨c.b,x7,x8⟩:dM) (bE (most+1))).bind fun x12=>(loop (NI c) (x12.1,x12.2.1,x12.2.2,[])).bind (NJ x5 x6) else some (.stop ((x5,x7,x8))))
def aAO:((List aL)×Int×Int)->Option ((List aL)×(Int×Int))
 | (x9,x10,x11)=>aAN x9 x10 x11
def vY(c:dM)(most:Int):Option ((List aL)×(Int×Int)):=
 (loop (NL c most) (([]:List aL),0,c.i,c.h)).bind (aAO)
def aCU(x10:List Int)(x11 x12:Int):Option ((List Int)×(Int×Int)):=
 some (x10,(x11,x12))
def QE(x7:Int)(x14:Int×(Int×Int))(x19:List Int):Option (Step ((List Int)×Int×Int×Int) ((List Int)×Int×Int)):=
 some (.next (x19,bE (x7 - 1),x14.2.1,x14.2.2))
def QF(x13:Int×(Int×Int)):((List Int)×Int)->Option (Step ((List Int)×Int) (List Int))
 | (x17,x18)=>(if decide (0<x18) then need (x17.length+([x13.1]).length<=1073741824) (some (.next (x17++([x13.1]),bE (x18 - 1)))) else some (.stop (x17)))
def QG(x7:Int)(x14:Int×(Int×Int)):(List Int)->Option (Step ((List Int)×Int×Int×Int) ((List Int)×Int×Int))
 | x19=>QE x7 x14 x19
def QH(c:dM):((List Int)×Int×Int×Int)->Option (Step ((List Int)×Int×Int×Int) ((List Int)×Int×Int))
 | (x6,x7,x8,x9)=>(if decide (0<x7) then(fW (⟨c.b,x8,x9⟩:dM) 3).bind fun x13=>(fW (⟨c.b,x13.2.1,x13.2.2⟩:dM) 8).bind fun x14=>(loop (QF x13) (x6,bE (1+x14.1))).bind (QG x7 x14) else some (.stop ((x6,x8,x9))))
def aCV:((List Int)×Int×Int)->Option ((List Int)×(Int×Int))
 | (x10,x11,x12)=>aCU x10 x11 x12
def GS(c:dM)(most:Int):Option ((List Int)×(Int×Int)):=
 (fW c most).bind fun x1=>(loop (QH c) (([]:List Int),x1.1,x1.2.1,x1.2.2)).bind (aCV)
def qW(x2 x3 x4 x5 x6:Int):Option (iT×(Int×Int)):=
 some ((⟨x4,x5,x6⟩:iT),(x2,x3))
def NM(c:dM):Option (iT×(Int×Int)):=
 (HV c).bind fun x1=>(fW (⟨c.b,x1.2.1,x1.2.2⟩:dM) 14).bind fun x7=>(if x7.1 == 0 then(nS (⟨c.b,x7.2.1,x7.2.2⟩:dM) ([0,5]:List Int)).bind fun x8=>qW x8.2.1 x8.2.2 x8.1 x1.1.Key x1.1.dO else(if x7.1 == 1 then(nS (⟨c.b,x7.2.1,x7.2.2⟩:dM) ([(-1),99,100]:List Int)).bind fun x9=>qW x9.2.1 x9.2.2 x1.1.Kind x9.1 x1.1.dO else(if x7.1 == 2 then(nS (⟨c.b,x7.2.1,x7.2.2⟩:dM) ([(-1),65536,1,0]:List Int)).bind fun x10=>qW x10.2.1 x10.2.2 x1.1.Kind x1.1.Key x10.1 else qW x7.2.1 x7.2.2 x1.1.Kind x1.1.Key x1.1.dO)))
def kW(x2:List aL)(x3 x4:Int):Option ((List aL)×(Int×Int)):=
 some (x2,(x3,x4))
def LG(x13:List aL)(x14 x15:Int):Option ((List aL)×(Int×Int)):=
 kW x13 x14 x15
def BS(x10:List aL)(x16:Bool)(x17 x18:Int):Option (Step ((List aL)×Int×Int) ((List aL)×Int×Int)):=
 (if x16 then(idx x10 1).bind fun x19=>need (x19.List.length+([(⟨true,[]⟩:Batch)]).length<=1073741824) (some (.next (x10.set ((1:Int).toNat) (⟨x19.List++([(⟨true,[]⟩:Batch)])⟩:aL),x17,x18))) else some (.stop ((x10,x17,x18))))
def LH(c:dM):((List aL)×Int×Int)->Option (Step ((List aL)×Int×Int) ((List aL)×Int×Int))
 | (x10,x11,x12)=>(idx x10 1).bind fun x20=>(fW (⟨c.b,x11,x12⟩:dM) 2).bind fun x21=>BS x10 (decide ((x20.List.length:Int)<(bE (12+x21.1)))) x21.2.1 x21.2.2
def Y7:((List aL)×Int×Int)->Option ((List aL)×(Int×Int))
 | (x13,x14,x15)=>LG x13 x14 x15
def BT(x22:List aL)(x23 x24:Int):Option ((List aL)×(Int×Int)):=
 kW x22 x23 x24
def AO(c:dM):Option ((List aL)×(Int×Int)):=
 (vY c 5).bind fun x1=>(fW (⟨c.b,x1.2.1,x1.2.2⟩:dM) 20).bind fun x5=>(if x5.1 == 0 then need (0<=(2:Int)/\(2:Int)<=(x1.1.length:Int)) (some ((x1.1.take ((2:Int).toNat)).drop 0,(x5.2.1,x5.2.2))) else(if x5.1 == 1 then(idx x1.1 0).bind fun x6=>need (x6.List.length+([(⟨false,[]⟩:Batch)]).length<=1073741824) (kW (x1.1.set ((0:Int).toNat) (⟨x6.List++([(⟨false,[]⟩:Batch)])⟩:aL)) x5.2.1 x5.2.2) else(if x5.1 == 2 then(loop (LH c) (x1.1,x5.2.1,x5.2.2)).bind (Y7) else(if x5.1 == 3 then(idx x1.1 2).bind fun x25=>(NM (⟨c.b,x5.2.1,x5.2.2⟩:dM)).bind fun x26=>need (x25.List.length+([(⟨false,[x26.1]⟩:Batch)]).length<=1073741824)<|BT (x1.1.set ((2:Int).toNat) (⟨x25.List++([(⟨false,[x26.1]⟩:Batch)])⟩:aL)) x26.2.1 x26.2.2 else kW x1.1 x5.2.1 x5.2.2))))
def kS(x4:List aL)(x5:List Int):Option vC:=
 some (⟨x4,x5⟩:vC)
def sH(code:List UInt8):Option vC:=
 (RR code).bind fun x1=>(vY (⟨code,x1.1,x1.2⟩:dM) 6).bind fun x2=>(GS (⟨code,x2.2.1,x2.2.2⟩:dM) 60).bind fun x3=>(fW (⟨code,x3.2.1,x3.2.2⟩:dM) 16).bind fun x6=>(if x6.1 == 0 then(AO (⟨code,x6.2.1,x6.2.2⟩:dM)).bind fun x7=>kS x7.1 x3.1 else(if x6.1 == 1 then need (x3.1.length+([(-1),3,1]:List Int).length<=1073741824) (kS x2.1 (x3.1++([(-1),3,1]:List Int))) else kS x2.1 x3.1))
def J3(x1:Bool):Option Bool:=
 some x1
def dE(x low high:Int):Option Bool:=
 (if decide (low<=x) then J3 (decide (x<=high)) else J3 false)
def GU(c:iT)(x2:Bool):Option Bool:=
 (if x2 then(dE c.dO 0 65535).bind fun x3=>some x3 else some (c.dO == 0))
def GV(c:iT)(x1:Bool):Option Bool:=
 (if x1 then some false else(if c.Kind == 2 then GU c true else GU c (c.Kind == 4)))
def RS(c:iT):Option Bool:=
 (dE c.Kind 1 4).bind fun x4=>(if !x4 then GV c true else(dE c.Key 0 99).bind fun x5=>GV c (!x5))
def S3(b:Batch):Option Bool:=
 (dE (b.aY.length:Int) 1 6).bind fun x3=>some x3
def oT(b:Batch):Int->Option (Step Int (Out Unit Bool))
 | x2=>(if decide (x2<(b.aY.length:Int)) then(idx b.aY x2).bind fun x4=>(RS x4).bind fun x5=>(if !x5 then some (.stop (Out.ret false)) else some (.next (bE (x2+1)))) else some (.stop (Out.brk ())))
def S4(b:Batch):(Out Unit Bool)->Option Bool
 | .brk ()=>S3 b
 | .ret r=>some r
def J4(b:Batch):Option Bool:=
 (if b.Collect then some ((b.aY.length:Int) == 0) else(loop (oT b) 0).bind (S4 b))
def S5(todo:List aL):Option Bool:=
 some ((todo.length:Int) == 3)
def S6(x2:Int):Option (Step Int (Out Unit Bool)):=
 some (.next (bE (x2+1)))
def oV(todo:List aL)(x2:Int):Int->Option (Step Int (Out Unit Bool))
 | x5=>(idx todo x2).bind fun x6=>(if decide (x5<(x6.List.length:Int)) then(idx todo x2).bind fun x7=>(idx x7.List x5).bind fun x8=>(J4 x8).bind fun x9=>(if !x9 then some (.stop (Out.ret false)) else some (.next (bE (x5+1)))) else some (.stop (Out.brk ())))
def S7(x2:Int):(Out Unit Bool)->Option (Step Int (Out Unit Bool))
 | .brk ()=>S6 x2
 | .ret r=>some (.stop (Out.ret r))
def oW(todo:List aL):Int->Option (Step Int (Out Unit Bool))
 | x2=>(if decide (x2<(todo.length:Int)) then(idx todo x2).bind fun x3=>(if decide (12<(x3.List.length:Int)) then some (.stop (Out.ret false)) else(loop (oV todo x2) 0).bind (S7 x2)) else some (.stop (Out.brk ())))
def S8(todo:List aL):(Out Unit Bool)->Option Bool
 | .brk ()=>S5 todo
 | .ret r=>some r
def J5(todo:List aL):Option Bool:=
 (loop (oW todo) 0).bind (S8 todo)
def aEK(x5:List Int):Option Heap:=
 some (⟨List.replicate ((384:Int).toNat) 0,x5⟩:Heap)
def tP:(Int×(List Int))->Option (Step (Int×(List Int)) (List Int))
 | (x3,x4)=>(if decide (x3<6) then need (x4.length+([(-1)]).length<=1073741824) (some (.next (bE (x3+1),x4++([(-1)])))) else some (.stop (x4)))
def aEL:(List Int)->Option Heap
 | x5=>aEK x5
def J6:Option Heap:=
 need (0<=(384:Int)/\(384:Int)<=4294967296) ((loop (tP) (0,[])).bind (aEL))
def QI:Option aD:=
 some (⟨List.replicate ((3:Int).toNat) (⟨[]⟩:aW),List.replicate ((9:Int).toNat) (⟨[]⟩:aW)⟩:aD)
def OL:Option aD:=
 need (0<=(3:Int)/\(3:Int)<=4294967296)<|need (0<=(9:Int)/\(9:Int)<=4294967296)<|QI
def UU:Option Mem:=
 (J6).bind fun x1=>(OL).bind fun x2=>some (⟨x1,x2⟩:Mem)
def OM:Option aA:=
 need (0<=(3:Int)/\(3:Int)<=4294967296) (some (⟨0,List.replicate ((3:Int).toNat) (⟨false,0,false,0⟩:vR)⟩:aA))
def ON:Option (List bI):=
 need (0<=(3:Int)/\(3:Int)<=4294967296) (some (List.replicate ((3:Int).toNat) (⟨[]⟩:bI)))
def UW:Option (List Int):=
 need (0<=(3:Int)/\(3:Int)<=4294967296) (some (List.replicate ((3:Int).toNat) 0))
def J7:Option aC:=
 (UU).bind fun x1=>(OM).bind fun x2=>(ON).bind fun x3=>(UW).bind fun x4=>some (⟨x1,x2,x3,x4⟩:aC)
def RT(l:List iT):Option (List iT):=
 need (([]:List iT).length+l.length<=1073741824) (some (([]:List iT)++l))
def GW(b:Batch):Option Batch:=
 (RT b.aY).bind fun x1=>some (⟨b.Collect,x1⟩:Batch)
def aAP(x5:List aL):Option (List aL):=
 some x5
def NN(x3:List aL)(x4:Int)(x10:List Batch):Option (Step ((List aL)×Int) (List aL)):=
 need (x3.length+([(⟨x10⟩:aL)]).length<=1073741824) (some (.next (x3++([(⟨x10⟩:aL)]),bE (x4+1))))
def C9(x8:Int)(x12:List Batch):Option (Step (Int×(List Batch)) (List Batch)):=
 some (.next (bE (x8+1),x12))
def DA(l:List aL)(x4:Int):(Int×(List Batch))->Option (Step (Int×(List Batch)) (List Batch))
 | (x8,x9)=>(idx l x4).bind fun x11=>(if decide (x8<(x11.List.length:Int)) then(idx l x4).bind fun x13=>(idx x13.List x8).bind fun x14=>(GW x14).bind fun x15=>need (x9.length+([x15]).length<=1073741824)<|C9 x8 (x9++([x15])) else some (.stop (x9)))
def NO(x3:List aL)(x4:Int):(List Batch)->Option (Step ((List aL)×Int) (List aL))
 | x10=>NN x3 x4 x10
def DB(l:List aL):((List aL)×Int)->Option (Step ((List aL)×Int) (List aL))
 | (x3,x4)=>(if decide (x4<(l.length:Int)) then(loop (DA l x4) (0,[])).bind (NO x3 x4) else some (.stop (x3)))
def aAQ:(List aL)->Option (List aL)
 | x5=>aAP x5
def DC(l:List aL):Option (List aL):=
 (loop (DB l) (([]:List aL),0)).bind (aAQ)
def QJ(x2:Table):Option Table:=
 some ({x2 with Log:=[]}:Table)
def GX(todo:List aL):Option Table:=
 (J5 todo).bind fun x1=>(if !x1 then some (⟨(⟨(⟨(⟨[],[]⟩:Heap),(⟨[],[]⟩:aD)⟩:Mem),(⟨0,[]⟩:aA),[],[]⟩:aC),[],[],[],[],0⟩:Table) else(J7).bind fun x3=>need (0<=(2:Int)/\(2:Int)<=4294967296)<|need (0<=(3:Int)/\(3:Int)<=4294967296)<|(DC todo).bind fun x4=>QJ (⟨x3,List.replicate ((2:Int).toNat) (⟨0,0,0⟩:bY),List.replicate ((3:Int).toNat) (⟨false,(⟨false,[]⟩:Batch),0,0,0,0,0,0,0,0,(⟨0,0,0⟩:gW),false,0,(⟨0,0,0,0,0,0,0,0,0,false⟩:Sub),[],[],[],[],[],[]⟩:aE),x4,[],0⟩:Table))
def NP(x:vC):Option Bool:=
 (GX x.dU).bind fun x1=>some ((x1.aO.length:Int) == 3)
def kX(s:List iT):Option (List iT):=
 need (([]:List iT).length+s.length<=1073741824) (some (([]:List iT)++s))
def qX(s:List dJ):Option (List dJ):=
 need (([]:List dJ).length+s.length<=1073741824) (some (([]:List dJ)++s))
def IZ(e_:lV)(x1:List iT)(x2:List dJ):Option lV:=
 some ({e_ with aY:=x1,dJ:=x2}:lV)
def DD(e_:lV):Option lV:=
 (kX e_.aY).bind fun x3=>(qX e_.dJ).bind fun x4=>IZ e_ x3 x4
def gD(s:List Int):Option (List Int):=
 need (([]:List Int).length+s.length<=1073741824) (some (([]:List Int)++s))
def uI(h:Heap):Option Heap:=
 (gD h.Bytes).bind fun x1=>(gD h.Class).bind fun x2=>some (⟨x1,x2⟩:Heap)
def aAR(x5 x10:List aW):Option aD:=
 some (⟨x5,x10⟩:aD)
def DE(x8:Int)(x12:List aW):Option (Step (Int×(List aW)) (List aW)):=
 some (.next (bE (x8+1),x12))
def DF(l:aD):(Int×(List aW))->Option (Step (Int×(List aW)) (List aW))
 | (x8,x9)=>(if decide (x8<(l.Own.length:Int)) then(idx l.Own x8).bind fun x11=>(gD x11.aT).bind fun x13=>need (x9.length+([(⟨x13⟩:aW)]).length<=1073741824)<|DE x8 (x9++([(⟨x13⟩:aW)])) else some (.stop (x9)))
def aAS(x5:List aW):(List aW)->Option aD
 | x10=>aAR x5 x10
def NQ(l:aD)(x5:List aW):Option aD:=
 (loop (DF l) (0,[])).bind (aAS x5)
def DG(x3:Int)(x15:List aW):Option (Step (Int×(List aW)) (List aW)):=
 some (.next (bE (x3+1),x15))
def DH(l:aD):(Int×(List aW))->Option (Step (Int×(List aW)) (List aW))
 | (x3,x4)=>(if decide (x3<(l.Global.length:Int)) then(idx l.Global x3).bind fun x14=>(gD x14.aT).bind fun x16=>need (x4.length+([(⟨x16⟩:aW)]).length<=1073741824)<|DG x3 (x4++([(⟨x16⟩:aW)])) else some (.stop (x4)))
def NR(l:aD):(List aW)->Option aD
 | x5=>NQ l x5
def i5(l:aD):Option aD:=
 (loop (DH l) (0,[])).bind (NR l)
def pB(m:Mem):Option Mem:=
 (uI m.Heap).bind fun x1=>(i5 m.aD).bind fun x2=>some (⟨x1,x2⟩:Mem)
def xK(s:List vR):Option (List vR):=
 need (([]:List vR).length+s.length<=1073741824) (some (([]:List vR)++s))
def lM(c:aA):Option aA:=
 (xK c.cH).bind fun x1=>some (⟨c.aG,x1⟩:aA)
def vD(s:List eE):Option (List eE):=
 need (([]:List eE).length+s.length<=1073741824) (some (([]:List eE)++s))
def aAT(x5:List bI):Option (List bI):=
 some x5
def DI(l:List bI):((List bI)×Int)->Option (Step ((List bI)×Int) (List bI))
 | (x3,x4)=>(if decide (x4<(l.length:Int)) then(idx l x4).bind fun x6=>(vD x6.Rows).bind fun x7=>need (x3.length+([(⟨x7⟩:bI)]).length<=1073741824) (some (.next (x3++([(⟨x7⟩:bI)]),bE (x4+1)))) else some (.stop (x3)))
def aAU:(List bI)->Option (List bI)
 | x5=>aAT x5
def lN(l:List bI):Option (List bI):=
 (loop (DI l) (([]:List bI),0)).bind (aAU)
def GY(b:aC):Option aC:=
 (pB b.Mem).bind fun x1=>(lM b.aA).bind fun x2=>(lN b.aN).bind fun x3=>(gD b.qH).bind fun x4=>some (⟨x1,x2,x3,x4⟩:aC)
def F6(s:List bY):Option (List bY):=
 need (([]:List bY).length+s.length<=1073741824) (some (([]:List bY)++s))
def vZ(b:Batch):Option Batch:=
 (kX b.aY).bind fun x1=>some (⟨b.Collect,x1⟩:Batch)
def aAV(x5:List aL):Option (List aL):=
 some x5
def NS(x3:List aL)(x4:Int)(x11:List Batch):Option (Step ((List aL)×Int) (List aL)):=
 need (x3.length+([(⟨x11⟩:aL)]).length<=1073741824) (some (.next (x3++([(⟨x11⟩:aL)]),bE (x4+1))))
def DJ(x9:Int)(x13:List Batch):Option (Step (Int×(List Batch)) (List Batch)):=
 some (.next (bE (x9+1),x13))
def DK(x6:aL):(Int×(List Batch))->Option (Step (Int×(List Batch)) (List Batch))
 | (x9,x10)=>(if decide (x9<(x6.List.length:Int)) then(idx x6.List x9).bind fun x12=>(vZ x12).bind fun x14=>need (x10.length+([x14]).length<=1073741824)<|DJ x9 (x10++([x14])) else some (.stop (x10)))
def NT(x3:List aL)(x4:Int):(List Batch)->Option (Step ((List aL)×Int) (List aL))
 | x11=>NS x3 x4 x11
def DL(todo:List aL):((List aL)×Int)->Option (Step ((List aL)×Int) (List aL))
 | (x3,x4)=>(if decide (x4<(todo.length:Int)) then(idx todo x4).bind fun x6=>(loop (DK x6) (0,[])).bind (NT x3 x4) else some (.stop (x3)))
def aAW:(List aL)->Option (List aL)
 | x5=>aAV x5
def v7(todo:List aL):Option (List aL):=
 (loop (DL todo) (([]:List aL),0)).bind (aAW)
def pC(s:List Seen):Option (List Seen):=
 need (([]:List Seen).length+s.length<=1073741824) (some (([]:List Seen)++s))
def nT(s:List aS):Option (List aS):=
 need (([]:List aS).length+s.length<=1073741824) (some (([]:List aS)++s))
def QK(x3:aE):Option aE:=
 some x3
def F7(j x2:aE):Option aE:=
 (gD j.dF).bind fun x4=>(gD j.aQ).bind fun x5=>(gD j.bA).bind fun x6=>QK ({x2 with dF:=x4,aQ:=x5,bA:=x6}:aE)
def GZ(j:aE):Option aE:=
 (vZ j.Batch).bind fun x1=>(pC j.Reads).bind fun x7=>(nT j.aB).bind fun x8=>(qX j.dJ).bind fun x9=>F7 j ({j with Batch:=x1,Reads:=x7,aB:=x8,dJ:=x9}:aE)
def aAX(x11:Table):Option Table:=
 some x11
def DM(x9:Int)(x13:Table):Option (Step (Int×Table) Table):=
 some (.next (bE (x9+1),x13))
def l4(t:Table):(Int×Table)->Option (Step (Int×Table) Table)
 | (x9,x10)=>(if decide (x9<(t.Log.length:Int)) then(idx t.Log x9).bind fun x12=>(DD x12).bind fun x14=>need (x10.Log.length+([x14]).length<=1073741824)<|DM x9 ({x10 with Log:=x10.Log++([x14])}:Table) else some (.stop (x10)))
def aAY:Table->Option Table
 | x11=>aAX x11
def aAZ(t x6:Table):Option Table:=
 (loop (l4 t) (0,({x6 with Log:=[]}:Table))).bind (aAY)
def DN(x4:Int)(x16:Table):Option (Step (Int×Table) Table):=
 some (.next (bE (x4+1),({x16 with Log:=[]}:Table)))
def l5(t:Table):(Int×Table)->Option (Step (Int×Table) Table)
 | (x4,x5)=>(if decide (x4<(t.aO.length:Int)) then(idx t.aO x4).bind fun x15=>(GZ x15).bind fun x17=>need (x5.aO.length+([x17]).length<=1073741824)<|DN x4 ({x5 with aO:=x5.aO++([x17]),Log:=[]}:Table) else some (.stop (({x5 with Log:=[]}:Table))))
def aA0(t:Table):Table->Option Table
 | x6=>aAZ t x6
def DO(t x1:Table):Option Table:=
 (loop (l5 t) (0,({x1 with aO:=[],Log:=[]}:Table))).bind (aA0 t)
def DP(t:Table):Option Table:=
 (GY t.aC).bind fun x18=>(F6 t.b8).bind fun x19=>(v7 t.dU).bind fun x20=>DO t (⟨x18,x19,[],x20,[],t.aI⟩:Table)
def CN:Option Int:=
 some (-1)
def jK(s:List Int)(f:(Int->Option Bool)):Int->Option (Step Int (Out Unit Int))
 | x2=>(if decide (x2<(s.length:Int)) then(idx s x2).bind fun x3=>(f x3).bind fun x4=>(if x4 then some (.stop (Out.ret x2)) else some (.next (bE (x2+1)))) else some (.stop (Out.brk ())))
def qY:(Out Unit Int)->Option Int
 | .brk ()=>CN
 | .ret r=>some r
def v8(s:List Int)(f:(Int->Option Bool)):Option Int:=
 (loop (jK s f) 0).bind (qY)
def eT(s:List Int)(f:(Int->Option Bool)):Option Bool:=
 (v8 s f).bind fun x1=>some (decide (0<=x1))
def qZ(x1:Bool):Option Bool:=
 some x1
def bP(n low high:Int):Option Bool:=
 (if decide (low<=n) then qZ (decide (n<=high)) else qZ false)
def UX(x:Int):Option Bool:=
 (bP x 0 255).bind fun x1=>some x1
def DQ(x:Int):Option Bool:=
 (UX x).bind fun x1=>some (!x1)
def AP(x1:Bool):Option Bool:=
 some x1
def J8(b:List Int):Option Bool:=
 (if decide ((b.length:Int)<=1000) then(eT b (fun y0=>DQ y0)).bind fun x2=>AP (!x2) else AP false)
def G0(c:Int):Option Bool:=
 (bP c (-1) 2).bind fun x1=>some (!x1)
def rA(x1:Bool):Option Bool:=
 some x1
def HW(h:Heap):Option Bool:=
 (if(h.Bytes.length:Int) == 384 then(J8 h.Bytes).bind fun x2=>(if x2 then(if(h.Class.length:Int) == 6 then(eT h.Class (fun y0=>G0 y0)).bind fun x3=>rA (!x3) else rA false) else rA false) else rA false)
def aEM(x5:Int):Option Int:=
 some x5
def tQ(b:List Int)(at_ width:Int):(Int×Int)->Option (Step (Int×Int) Int)
 | (x3,x4)=>(if decide (x4<(((b.take ((bE (at_+width)).toNat)).drop at_.toNat).length:Int)) then(idx ((b.take ((bE (at_+width)).toNat)).drop at_.toNat) x4).bind fun x6=>some (.next (bE ((bE (256*x3))+x6),bE (x4+1))) else some (.stop (x3)))
def aEN:Int->Option Int
 | x5=>aEM x5
def pD(b:List Int)(at_ width:Int):Option Int:=
 need (0<=(at_:Int)/\(at_:Int)<=(bE (at_+width):Int)/\(bE (at_+width):Int)<=(b.length:Int)) ((loop (tQ b at_ width) (0,0)).bind (aEN))
def G3(x:Int):Option Bool:=
 some (x != 0)
def HX(b:List Int):Option Bool:=
 (eT b (fun y0=>G3 y0)).bind fun x1=>some (!x1)
def lE(c:Int):Option Bool:=
 (bP c 0 2).bind fun x1=>some x1
def CP(c:Int):Option Int:=
 (lE c).bind fun x1=>(if !x1 then some 0 else(idx ([8,16,40]:List Int) c).bind fun x2=>some x2)
def uJ(c:Int):Option Int:=
 (lE c).bind fun x1=>(if !x1 then some 0 else(CP c).bind fun x2=>some (bE (4+x2)))
def pE(c:Int):Option Int:=
 (lE c).bind fun x1=>(if !x1 then some 0 else(uJ c).bind fun x2=>need (x2≠0) (some (bE (Int.tdiv 56 x2))))
def aHW:Option Bool:=
 some true
def rB(h:Heap)(page x1 x4:Int):Int->Option (Step Int (Out Unit Bool))
 | x6=>(if decide (x6<x4) then(uJ x1).bind fun x7=>(pD ((h.Bytes.take ((bE ((bE (page+1))*64)).toNat)).drop ((bE (page*64)).toNat)) (bE (8+(bE (x6*x7)))) 4).bind fun x8=>(bP x8 1 7).bind fun x9=>(if !x9 then some (.stop (Out.ret false)) else some (.next (bE (x6+1)))) else some (.stop (Out.brk ())))
def aHX:(Out Unit Bool)->Option Bool
 | .brk ()=>aHW
 | .ret r=>some r
def jZ(h:Heap)(page x1:Int)(x3:Bool):Option Bool:=
 (if x3 then some false else(pE x1).bind fun x4=>(loop (rB h page x1 x4) 0).bind (aHX))
def NU(h:Heap)(page:Int):Option Bool:=
 (idx h.Class page).bind fun x1=>need (0<=(bE (page*64):Int)/\(bE (page*64):Int)<=(bE ((bE (page+1))*64):Int)/\(bE ((bE (page+1))*64):Int)<=(h.Bytes.length:Int)) ((if decide (x1<0) then(HX ((h.Bytes.take ((bE ((bE (page+1))*64)).toNat)).drop ((bE (page*64)).toNat))).bind fun x2=>some x2 else(idx ((h.Bytes.take ((bE ((bE (page+1))*64)).toNat)).drop ((bE (page*64)).toNat)) 0).bind fun x10=>(if x10 != 171 then jZ h page x1 true else(idx ((h.Bytes.take ((bE ((bE (page+1))*64)).toNat)).drop ((bE (page*64)).toNat)) 1).bind fun x11=>(if x11 != x1 then jZ h page x1 true else(idx ((h.Bytes.take ((bE ((bE (page+1))*64)).toNat)).drop ((bE (page*64)).toNat)) 2).bind fun x12=>(pE x1).bind fun x13=>(if x12 != x13 then jZ h page x1 true else need (0<=(3:Int)/\(3:Int)<=(8:Int)/\(8:Int)<=(((h.Bytes.take ((bE ((bE (page+1))*64)).toNat)).drop ((bE (page*64)).toNat)).length:Int)) ((HX ((((h.Bytes.take ((bE ((bE (page+1))*64)).toNat)).drop ((bE (page*64)).toNat)).take ((8:Int).toNat)).drop ((3:Int).toNat))).bind fun x14=>jZ h page x1 (!x14)))))))
def aHY:Option Bool:=
 some true
def wA(h:Heap):Int->Option (Step Int (Out Unit Bool))
 | x3=>(if decide (x3<6) then(NU h x3).bind fun x4=>(if !x4 then some (.stop (Out.ret false)) else some (.next (bE (x3+1)))) else some (.stop (Out.brk ())))
def aHZ:(Out Unit Bool)->Option Bool
 | .brk ()=>aHY
 | .ret r=>some r
def HY(h:Heap):Option Bool:=
 (HW h).bind fun x1=>(if !x1 then some false else(loop (wA h) 0).bind (aHZ))
def nD(slot:Int):Option Bool:=
 (bP slot 0 23).bind fun x1=>some x1
def sI(x10:List Raw):Option (List Raw):=
 some x10
def iU(slices:List (List Raw)):((List Raw)×Int)->Option (Step ((List Raw)×Int) (List Raw))
 | (x8,x9)=>(if decide (x9<(slices.length:Int)) then(idx slices x9).bind fun x11=>need (x8.length+x11.length<=1073741824) (some (.next (x8++x11,bE (x9+1)))) else some (.stop (x8)))
def RU:(List Raw)->Option (List Raw)
 | x10=>sI x10
def m8(slices:List (List Raw))(x5:Int):Option (List Raw):=
 need (0<=x5/\x5<=1073741824) ((loop (iU slices) ([],0)).bind (RU))
def gT(slices:List (List Raw)):(Int×Int)->Option (Step (Int×Int) Int)
 | (x3,x4)=>(if decide (x4<(slices.length:Int)) then(idx slices x4).bind fun x12=>(if decide ((bE (x3+(x12.length:Int)))<0) then none else some (.next (bE (x3+(x12.length:Int)),bE (x4+1)))) else some (.stop (x3)))
def DR(slices:List (List Raw)):Int->Option (List Raw)
 | x5=>m8 slices x5
def qL(slices:List (List Raw)):Option (List Raw):=
 (loop (gT slices) (0,0)).bind (DR slices)
theorem MU{u1 u2:List Raw}(h:u1.length+u2.length<=1073741824):loop (gT [u1,u2]) (0,0)=some ((u1.length+u2.length:Nat):Int):=by
 have e1:bE (u1.length:Int)=u1.length:=LF (by omega);have e2:bE ((u1.length:Int)+(u2.length:Int))=((u1.length+u2.length:Nat):Int):=by rw[LF (by omega)];rfl
 have e3:bE (0+1)=1:=LF (by omega);have e4:bE 2=2:=LF (by omega);have n1:¬(u1.length:Int)<0:=by omega
 have n2:¬((u1.length+u2.length:Nat):Int)<0:=by omega
 rw[bU (s':=((u1.length:Int),1)) ?_,bU (s':=(((u1.length+u2.length:Nat):Int),2)) ?_,bM (r:=((u1.length+u2.length:Nat):Int)) ?_]
 ·simp[gT]
 ·simp[gT,idx,e2,e4];omega
 ·simp[gT,idx,e1,n1];exact e3
theorem QL{u1 u2:List Raw}{n1 n2:Nat}(hl:u1.length=n1/\u2.length=n2)(h:n1+n2<=1073741824):qL [u1,u2]=some (u1++u2):=by
 obtain⟨rfl,rfl⟩:=hl;have e3:bE (0+1)=1:=LF (by omega);have e4:bE 2=2:=LF (by omega);unfold qL;rw[MU h];simp only[aK,DR,m8];rw[aM (by omega),bU (s':=(u1,1)) ?_,bU (s':=(u1++u2,2)) ?_,bM (r:=u1++u2) ?_]
 ·rfl
 ·simp[iU]
 ·simp[iU,idx,e4,aM h]
 ·have h1:u1.length<=1073741824:=by omega
  simp[iU,idx,aM h1];exact e3
def I0:Option Bool:=
 some true
def AQ(x4:Int)(x12:List Bool):Option (Step (Int×(List Bool)) (Out Unit Bool)):=
 some (.next (bE (x4+1),x12))
def oX(x10:Int)(x11:List Bool)(x13:Int)(x14:Bool):Option (Step (Int×(List Bool)) (Out (List Bool) Bool)):=
 (if x14 then some (.stop (Out.ret false)) else need (0<=(x13:Int)/\(x13:Int)<24) ((idx (x11:List Bool) x13).bind fun x15=>some (.next (bE (x10+1),x11.set (x13.toNat) true))))
def mG(x6:aW):(Int×(List Bool))->Option (Step (Int×(List Bool)) (Out (List Bool) Bool))
 | (x10,x11)=>(if decide (x10<(x6.aT.length:Int)) then(idx x6.aT x10).bind fun x13=>(nD x13).bind fun x16=>(if !x16 then oX x10 x11 x13 true else need (0<=(x13:Int)/\(x13:Int)<24) ((idx (x11:List Bool) x13).bind fun x17=>oX x10 x11 x13 x17)) else some (.stop (Out.brk x11)))
def S9(x4:Int):(Out (List Bool) Bool)->Option (Step (Int×(List Bool)) (Out Unit Bool))
 | .brk x12=>AQ x4 x12
 | .ret r=>some (.stop (Out.ret r))
def mH(x4:Int)(x5:List Bool)(x6:aW)(x7:Bool):Option (Step (Int×(List Bool)) (Out Unit Bool)):=
 (if x7 then some (.stop (Out.ret false)) else(loop (mG x6) (0,x5)).bind (S9 x4))
def mI(l:aD):(Int×(List Bool))->Option (Step (Int×(List Bool)) (Out Unit Bool))
 | (x4,x5)=>(if decide (x4<((l.Own++l.Global).length:Int)) then(idx (l.Own++l.Global) x4).bind fun x6=>(if decide (x4<(l.Own.length:Int)) then mH x4 x5 x6 (decide (2<(x6.aT.length:Int))) else mH x4 x5 x6 false) else some (.stop (Out.brk ())))
def aEO:(Out Unit Bool)->Option Bool
 | .brk ()=>I0
 | .ret r=>some r
def tR(l:aD)(x1:Bool):Option Bool:=
 (if x1 then some false else need (l.Own.length+l.Global.length<=1073741824) ((loop (mI l) (0,[false,false,false,false,false,false,false,false,false,false,false,false,false,false,false,false,false,false,false,false,false,false,false,false])).bind (aEO)))
def lF(l:aD):Option Bool:=
 (if(l.Global.length:Int) != 3 then tR l true else tR l ((l.Own.length:Int) != 9))
def zO(slot c:Int)(x1:Bool):Option Int:=
 (if x1 then some (-1) else(uJ c).bind fun x2=>some (bE ((bE ((bE ((bE (Int.tdiv slot 4))*64))+8))+(bE ((Int.tmod slot 4)*x2)))))
def wB(slot c:Int):Option Int:=
 (nD slot).bind fun x3=>(if !x3 then zO slot c true else(lE c).bind fun x4=>(if !x4 then zO slot c true else(pE c).bind fun x5=>zO slot c (decide (x5<=(Int.tmod slot 4)))))
def AR(h:Heap)(slot:Int)(x1:Bool):Option Int:=
 (if x1 then some (-1) else(idx h.Class (bE (Int.tdiv slot 4))).bind fun x2=>some x2)
def lG(h:Heap)(slot:Int):Option Int:=
 (nD slot).bind fun x3=>(if !x3 then AR h slot true else(idx h.Class (bE (Int.tdiv slot 4))).bind fun x4=>(wB slot x4).bind fun x5=>AR h slot (decide (x5<0)))
def DS(h:Heap)(slot:Int):Option Int:=
 (HW h).bind fun x1=>(if !x1 then some (-1) else(lG h slot).bind fun x2=>some x2)
def BU(h:Heap)(slot:Int):Option Int:=
 (DS h slot).bind fun x1=>(if decide (x1<0) then some 0 else(wB slot x1).bind fun x2=>(pD h.Bytes x2 4).bind fun x3=>some x3)
def aCW:Option Bool:=
 some true
def xL(x2:Int)(x4:Bool):Option (Step Int (Out Unit Bool)):=
 (if x4 then some (.stop (Out.ret false)) else some (.next (bE (x2+1))))
def nL(h:Heap)(s:aW)(c:Int):Int->Option (Step Int (Out Unit Bool))
 | x2=>(if decide (x2<(s.aT.length:Int)) then(idx s.aT x2).bind fun x3=>(lG h x3).bind fun x5=>(if x5 != c then xL x2 true else(BU h x3).bind fun x6=>xL x2 (decide (6<x6))) else some (.stop (Out.brk ())))
def aCX:(Out Unit Bool)->Option Bool
 | .brk ()=>aCW
 | .ret r=>some r
def zP(h:Heap)(s:aW)(c:Int):Option Bool:=
 (loop (nL h s c) 0).bind (aCX)
def aKH:Option Bool:=
 some true
def uK(m:Mem):Int->Option (Step Int (Out Unit Bool))
 | x5=>(if decide (x5<(m.aD.Own.length:Int)) then(idx m.aD.Own x5).bind fun x6=>(zP m.Heap x6 (Int.tmod x5 3)).bind fun x7=>(if !x7 then some (.stop (Out.ret false)) else some (.next (bE (x5+1)))) else some (.stop (Out.brk ())))
def aKI:(Out Unit Bool)->Option Bool
 | .brk ()=>aKH
 | .ret r=>some r
def YD(m:Mem):Option Bool:=
 (loop (uK m) 0).bind (aKI)
def uL(m:Mem):Int->Option (Step Int (Out Unit Bool))
 | x3=>(if decide (x3<(m.aD.Global.length:Int)) then(idx m.aD.Global x3).bind fun x8=>(zP m.Heap x8 x3).bind fun x9=>(if !x9 then some (.stop (Out.ret false)) else some (.next (bE (x3+1)))) else some (.stop (Out.brk ())))
def YE(m:Mem):(Out Unit Bool)->Option Bool
 | .brk ()=>YD m
 | .ret r=>some r
def G4(m:Mem)(x1:Bool):Option Bool:=
 (if x1 then some false else(loop (uL m) 0).bind (YE m))
def BV(m:Mem):Option Bool:=
 (HY m.Heap).bind fun x10=>(if !x10 then G4 m true else(lF m.aD).bind fun x11=>G4 m (!x11))
def CQ:Option Int:=
 some (-1)
def jL(s:List vR)(f:(vR->Option Bool)):Int->Option (Step Int (Out Unit Int))
 | x2=>(if decide (x2<(s.length:Int)) then(idx s x2).bind fun x3=>(f x3).bind fun x4=>(if x4 then some (.stop (Out.ret x2)) else some (.next (bE (x2+1)))) else some (.stop (Out.brk ())))
def rC:(Out Unit Int)->Option Int
 | .brk ()=>CQ
 | .ret r=>some r
def wC(s:List vR)(f:(vR->Option Bool)):Option Int:=
 (loop (jL s f) 0).bind (rC)
def l6(s:List vR)(f:(vR->Option Bool)):Option Bool:=
 (wC s f).bind fun x1=>some (decide (0<=x1))
def l9(x1:Bool):Option Bool:=
 some x1
def wD(p:vR)(k0:aA):Option Bool:=
 (bP p.aG 0 k0.aG).bind fun x2=>(if !x2 then l9 true else(bP p.Seen 0 2).bind fun x3=>(if !x3 then l9 true else(if !p.On then l9 (!(decide (p=(⟨false,0,false,0⟩:vR)))) else l9 false)))
def tS(x1:Bool):Option Bool:=
 some x1
def pG(c:aA):Option Bool:=
 (bP c.aG 0 100000).bind fun x2=>(if x2 then(if(c.cH.length:Int) == 3 then(l6 c.cH (fun y0=>wD y0 c)).bind fun x3=>tS (!x3) else tS false) else tS false)
def nM(x1:Bool):Option Bool:=
 some x1
def gN(h:Int):Option Bool:=
 (bP h 32 223).bind fun x2=>(if x2 then nM (decide ((Int.tmod h 32)<24)) else nM false)
def DT(x5:Int):Option Int:=
 some x5
def j3(l:List bI):(Int×Int)->Option (Step (Int×Int) Int)
 | (x3,x4)=>(if decide (x4<(l.length:Int)) then(idx l x4).bind fun x6=>some (.next (bE (x3+(x6.Rows.length:Int)),bE (x4+1))) else some (.stop (x3)))
def aA1:Int->Option Int
 | x5=>DT x5
def wE(l:List bI):Option Int:=
 (loop (j3 l) (0,0)).bind (aA1)
def AS(l:List bI):Option Bool:=
 (wE l).bind fun x5=>some (decide (x5<=24))
def AT(x3:Int)(x11:List Bool):Option (Step (Int×(List Bool)) (Out Unit Bool)):=
 some (.next (bE (x3+1),x11))
def kH(x9:Int)(x10:List Bool)(x12:eE)(x13:Bool):Option (Step (Int×(List Bool)) (Out (List Bool) Bool)):=
 (if x13 then some (.stop (Out.ret false)) else need (0<=(Int.tmod x12.Handle 32:Int)/\(Int.tmod x12.Handle 32:Int)<24) ((idx (x10:List Bool) (Int.tmod x12.Handle 32)).bind fun x14=>some (.next (bE (x9+1),x10.set ((Int.tmod x12.Handle 32).toNat) true))))
def mJ(x6:bI):(Int×(List Bool))->Option (Step (Int×(List Bool)) (Out (List Bool) Bool))
 | (x9,x10)=>(if decide (x9<(x6.Rows.length:Int)) then(idx x6.Rows x9).bind fun x12=>(gN x12.Handle).bind fun x15=>(if !x15 then kH x9 x10 x12 true else(bP x12.aG 0 100000).bind fun x16=>(if !x16 then kH x9 x10 x12 true else need (0<=(Int.tmod x12.Handle 32:Int)/\(Int.tmod x12.Handle 32:Int)<24) ((idx (x10:List Bool) (Int.tmod x12.Handle 32)).bind fun x17=>kH x9 x10 x12 x17))) else some (.stop (Out.brk x10)))
def TA(x3:Int):(Out (List Bool) Bool)->Option (Step (Int×(List Bool)) (Out Unit Bool))
 | .brk x11=>AT x3 x11
 | .ret r=>some (.stop (Out.ret r))
def mK(l:List bI):(Int×(List Bool))->Option (Step (Int×(List Bool)) (Out Unit Bool))
 | (x3,x4)=>(if decide (x3<(l.length:Int)) then(idx l x3).bind fun x6=>(loop (mJ x6) (0,x4)).bind (TA x3) else some (.stop (Out.brk ())))
def TB(l:List bI):(Out Unit Bool)->Option Bool
 | .brk ()=>AS l
 | .ret r=>some r
def m9(l:List bI):Option Bool:=
 (if(l.length:Int) != 3 then some false else(loop (mK l) (0,[false,false,false,false,false,false,false,false,false,false,false,false,false,false,false,false,false,false,false,false,false,false,false,false])).bind (TB l))
def wF(x1:Bool):Option Bool:=
 some x1
def nE(h:Int):Option Bool:=
 (if h == 0 then wF true else(gN h).bind fun x2=>wF x2)
def J9(h:Int):Option Bool:=
 (nE h).bind fun x1=>some (!x1)
def G5(x1:Bool):Option Bool:=
 some x1
def RV(z:List Int):Option Bool:=
 (if(z.length:Int) == 3 then(eT z (fun y0=>J9 y0)).bind fun x2=>G5 (!x2) else G5 false)
def yJ:Option Int:=
 some (-1)
def kQ(s:List bI)(f:(bI->Option Bool)):Int->Option (Step Int (Out Unit Int))
 | x2=>(if decide (x2<(s.length:Int)) then(idx s x2).bind fun x3=>(f x3).bind fun x4=>(if x4 then some (.stop (Out.ret x2)) else some (.next (bE (x2+1)))) else some (.stop (Out.brk ())))
def yK:(Out Unit Int)->Option Int
 | .brk ()=>yJ
 | .ret r=>some r
def sJ(s:List bI)(f:(bI->Option Bool)):Option Int:=
 (loop (kQ s f) 0).bind (yK)
def iV(s:List bI)(f:(bI->Option Bool)):Option Bool:=
 (sJ s f).bind fun x1=>some (decide (0<=x1))
def zQ:Option Int:=
 some (-1)
def lH(s:List eE)(f:(eE->Option Bool)):Int->Option (Step Int (Out Unit Int))
 | x2=>(if decide (x2<(s.length:Int)) then(idx s x2).bind fun x3=>(f x3).bind fun x4=>(if x4 then some (.stop (Out.ret x2)) else some (.next (bE (x2+1)))) else some (.stop (Out.brk ())))
def zR:(Out Unit Int)->Option Int
 | .brk ()=>zQ
 | .ret r=>some r
def uV(s:List eE)(f:(eE->Option Bool)):Option Int:=
 (loop (lH s f) 0).bind (zR)
def i6(s:List eE)(f:(eE->Option Bool)):Option Bool:=
 (uV s f).bind fun x1=>some (decide (0<=x1))
def JS:Option Int:=
 some (-1)
def eW(s:List Int)(v:Int):Int->Option (Step Int (Out Unit Int))
 | x2=>(if decide (x2<(s.length:Int)) then(idx s x2).bind fun x3=>(if v == x3 then some (.stop (Out.ret x2)) else some (.next (bE (x2+1)))) else some (.stop (Out.brk ())))
def yU:(Out Unit Int)->Option Int
 | .brk ()=>JS
 | .ret r=>some r
def nN(s:List Int)(v:Int):Option Int:=
 (loop (eW s v) 0).bind (yU)
def kE(s:List Int)(v:Int):Option Bool:=
 (nN s v).bind fun x1=>some (decide (0<=x1))
def pX(s:aW)(k0:Int):Option Bool:=
 (kE s.aT k0).bind fun x1=>some x1
def yL:Option Int:=
 some (-1)
def kR(s:List aW)(f:(aW->Option Bool)):Int->Option (Step Int (Out Unit Int))
 | x2=>(if decide (x2<(s.length:Int)) then(idx s x2).bind fun x3=>(f x3).bind fun x4=>(if x4 then some (.stop (Out.ret x2)) else some (.next (bE (x2+1)))) else some (.stop (Out.brk ())))
def yN:(Out Unit Int)->Option Int
 | .brk ()=>yL
 | .ret r=>some r
def sK(s:List aW)(f:(aW->Option Bool)):Option Int:=
 (loop (kR s f) 0).bind (yN)
def iW(s:List aW)(f:(aW->Option Bool)):Option Bool:=
 (sK s f).bind fun x1=>some (decide (0<=x1))
def DU(x1:Bool):Option Bool:=
 some x1
def HZ(l:aD)(slot:Int):Option Bool:=
 (iW l.Global (fun y0=>pX y0 slot)).bind fun x2=>(if x2 then DU true else(iW l.Own (fun y0=>pX y0 slot)).bind fun x3=>DU x3)
def KA(m:Mem)(slot:Int):Option Int:=
 (lG m.Heap slot).bind fun x1=>(if decide (x1<0) then some 0 else(HZ m.aD slot).bind fun x2=>(if x2 then some 1 else(BU m.Heap slot).bind fun x3=>(if decide (6<x3) then some 2 else some 3)))
def wG(x1:Bool):Option Bool:=
 some x1
def wH(m:Mem)(h:Int):Option Bool:=
 (gN h).bind fun x2=>(if x2 then(KA m (Int.tmod h 32)).bind fun x3=>(if x3 == 3 then(BU m.Heap (Int.tmod h 32)).bind fun x4=>wG (x4 == (bE (Int.tdiv h 32))) else wG false) else wG false)
def sL(x1:Bool):Option Bool:=
 some x1
def AU(r_:eE)(k0:aC):Option Bool:=
 (wH k0.Mem r_.Handle).bind fun x2=>(if !x2 then sL true else sL (decide (k0.aA.aG<r_.aG)))
def G6(l:bI)(k0:aC):Option Bool:=
 (i6 l.Rows (fun y0=>AU y0 k0)).bind fun x1=>some x1
def rD(b:aC)(x1:Bool):Option Bool:=
 (if x1 then some false else(iV b.aN (fun y0=>G6 y0 b)).bind fun x2=>some (!x2))
def NV(b:aC):Option Bool:=
 (BV b.Mem).bind fun x3=>(if !x3 then rD b true else(pG b.aA).bind fun x4=>(if !x4 then rD b true else(m9 b.aN).bind fun x5=>(if !x5 then rD b true else(RV b.qH).bind fun x6=>rD b (!x6))))
def QM:Option Int:=
 some (-1)
def rE(s:List bY)(f:(bY->Option Bool)):Int->Option (Step Int (Out Unit Int))
 | x2=>(if decide (x2<(s.length:Int)) then(idx s x2).bind fun x3=>(f x3).bind fun x4=>(if x4 then some (.stop (Out.ret x2)) else some (.next (bE (x2+1)))) else some (.stop (Out.brk ())))
def CR:(Out Unit Int)->Option Int
 | .brk ()=>QM
 | .ret r=>some r
def H0(s:List bY)(f:(bY->Option Bool)):Option Int:=
 (loop (rE s f) 0).bind (CR)
def rF(s:List bY)(f:(bY->Option Bool)):Option Bool:=
 (H0 s f).bind fun x1=>some (decide (0<=x1))
def G7(x1:Bool):Option Bool:=
 some x1
def Y8(b:bY):Option Bool:=
 (nE b.Head).bind fun x2=>(if x2 then(bP b.fX 0 1000000).bind fun x3=>(if x3 then(bP b.gP 0 3).bind fun x4=>G7 x4 else G7 false) else G7 false)
def LI(b:bY):Option Bool:=
 (Y8 b).bind fun x1=>some (!x1)
def OO:Option Int:=
 some (-1)
def pY(s:List aE)(f:(aE->Option Bool)):Int->Option (Step Int (Out Unit Int))
 | x2=>(if decide (x2<(s.length:Int)) then(idx s x2).bind fun x3=>(f x3).bind fun x4=>(if x4 then some (.stop (Out.ret x2)) else some (.next (bE (x2+1)))) else some (.stop (Out.brk ())))
def zS:(Out Unit Int)->Option Int
 | .brk ()=>OO
 | .ret r=>some r
def FN(s:List aE)(f:(aE->Option Bool)):Option Int:=
 (loop (pY s f) 0).bind (zS)
def g7(s:List aE)(f:(aE->Option Bool)):Option Bool:=
 (FN s f).bind fun x1=>some (decide (0<=x1))
def XN:Option Bool:=
 some true
def JT(s1 s2:List iT):Int->Option (Step Int (Out Unit Bool))
 | x2=>(if decide (x2<(s1.length:Int)) then(idx s1 x2).bind fun x3=>(idx s2 x2).bind fun x4=>(if !(decide (x3=x4)) then some (.stop (Out.ret false)) else some (.next (bE (x2+1)))) else some (.stop (Out.brk ())))
def XO:(Out Unit Bool)->Option Bool
 | .brk ()=>XN
 | .ret r=>some r
def F8(s1 s2:List iT):Option Bool:=
 (if(s1.length:Int) != (s2.length:Int) then some false else(loop (JT s1 s2) 0).bind (XO))
def DV(x1:Bool):Option Bool:=
 some x1
def DW(a_ b:Batch):Option Bool:=
 (if a_.Collect == b.Collect then(F8 a_.aY b.aY).bind fun x2=>DV x2 else DV false)
def UY:Option Bool:=
 some true
def H3(s1 s2:List Seen):Int->Option (Step Int (Out Unit Bool))
 | x2=>(if decide (x2<(s1.length:Int)) then(idx s1 x2).bind fun x3=>(idx s2 x2).bind fun x4=>(if !(decide (x3=x4)) then some (.stop (Out.ret false)) else some (.next (bE (x2+1)))) else some (.stop (Out.brk ())))
def UZ:(Out Unit Bool)->Option Bool
 | .brk ()=>UY
 | .ret r=>some r
def vF(s1 s2:List Seen):Option Bool:=
 (if(s1.length:Int) != (s2.length:Int) then some false else(loop (H3 s1 s2) 0).bind (UZ))
def T4:Option Bool:=
 some true
def FO(s1 s2:List aS):Int->Option (Step Int (Out Unit Bool))
 | x2=>(if decide (x2<(s1.length:Int)) then(idx s1 x2).bind fun x3=>(idx s2 x2).bind fun x4=>(if !(decide (x3=x4)) then some (.stop (Out.ret false)) else some (.next (bE (x2+1)))) else some (.stop (Out.brk ())))
def T5:(Out Unit Bool)->Option Bool
 | .brk ()=>T4
 | .ret r=>some r
def sM(s1 s2:List aS):Option Bool:=
 (if(s1.length:Int) != (s2.length:Int) then some false else(loop (FO s1 s2) 0).bind (T5))
def XP:Option Bool:=
 some true
def JU(s1 s2:List dJ):Int->Option (Step Int (Out Unit Bool))
 | x2=>(if decide (x2<(s1.length:Int)) then(idx s1 x2).bind fun x3=>(idx s2 x2).bind fun x4=>(if !(decide (x3=x4)) then some (.stop (Out.ret false)) else some (.next (bE (x2+1)))) else some (.stop (Out.brk ())))
def XQ:(Out Unit Bool)->Option Bool
 | .brk ()=>XP
 | .ret r=>some r
def xM(s1 s2:List dJ):Option Bool:=
 (if(s1.length:Int) != (s2.length:Int) then some false else(loop (JU s1 s2) 0).bind (XQ))
def XR:Option Bool:=
 some true
def JV(s1 s2:List Int):Int->Option (Step Int (Out Unit Bool))
 | x2=>(if decide (x2<(s1.length:Int)) then(idx s1 x2).bind fun x3=>(idx s2 x2).bind fun x4=>(if x3 != x4 then some (.stop (Out.ret false)) else some (.next (bE (x2+1)))) else some (.stop (Out.brk ())))
def XS:(Out Unit Bool)->Option Bool
 | .brk ()=>XR
 | .ret r=>some r
def nP(s1 s2:List Int):Option Bool:=
 (if(s1.length:Int) != (s2.length:Int) then some false else(loop (JV s1 s2) 0).bind (XS))
def b7(x1:Bool):Option Bool:=
 some x1
def G8(a_ b:aE):Option Bool:=
 (if a_.bX == b.bX then(DW a_.Batch b.Batch).bind fun x2=>(if x2 then(if a_.aI == b.aI then(if a_.Pc == b.Pc then(if a_.At == b.At then(if a_.K == b.K then(if a_.bY == b.bY then(if a_.fX == b.fX then(if a_.H == b.H then(if a_.dB == b.dB then(if decide (a_.Node=b.Node) then(if a_.Found == b.Found then(if a_.Code == b.Code then(if decide (a_.Sub=b.Sub) then(vF a_.Reads b.Reads).bind fun x3=>(if x3 then(sM a_.aB b.aB).bind fun x4=>(if x4 then(xM a_.dJ b.dJ).bind fun x5=>(if x5 then(nP a_.dF b.dF).bind fun x6=>(if x6 then(nP a_.aQ b.aQ).bind fun x7=>(if x7 then(nP a_.bA b.bA).bind fun x8=>b7 x8 else b7 false) else b7 false) else b7 false) else b7 false) else b7 false) else b7 false) else b7 false) else b7 false) else b7 false) else b7 false) else b7 false) else b7 false) else b7 false) else b7 false) else b7 false) else b7 false) else b7 false) else b7 false) else b7 false)
def F9(b:Int):Option Bool:=
 (bP b 0 1).bind fun x1=>some x1
def QN:Option Int:=
 some (-1)
def rG(s:List iT)(f:(iT->Option Bool)):Int->Option (Step Int (Out Unit Int))
 | x2=>(if decide (x2<(s.length:Int)) then(idx s x2).bind fun x3=>(f x3).bind fun x4=>(if x4 then some (.stop (Out.ret x2)) else some (.next (bE (x2+1)))) else some (.stop (Out.brk ())))
def CS:(Out Unit Int)->Option Int
 | .brk ()=>QN
 | .ret r=>some r
def H4(s:List iT)(f:(iT->Option Bool)):Option Int:=
 (loop (rG s f) 0).bind (CS)
def rH(s:List iT)(f:(iT->Option Bool)):Option Bool:=
 (H4 s f).bind fun x1=>some (decide (0<=x1))
def pZ(x2:Bool):Option Bool:=
 some x2
def uM(c:iT)(x1:Bool):Option Bool:=
 (bP c.Kind 1 4).bind fun x3=>(if x3 then(bP c.Key 0 99).bind fun x4=>(if x4 then(if x1 then(bP c.dO 0 65535).bind fun x5=>(if x5 then pZ true else pZ (c.dO == 0)) else pZ (c.dO == 0)) else pZ false) else pZ false)
def RW(c:iT):Option Bool:=
 (if c.Kind == 2 then uM c true else uM c (c.Kind == 4))
def LJ(c:iT):Option Bool:=
 (RW c).bind fun x1=>some (!x1)
def tT(x1:Bool):Option Bool:=
 some x1
def DX(b:Batch):Option Bool:=
 (if b.Collect then some ((b.aY.length:Int) == 0) else(bP (b.aY.length:Int) 1 6).bind fun x2=>(if x2 then(rH b.aY (fun y0=>LJ y0)).bind fun x3=>tT (!x3) else tT false))
def vG(h:Int):Option Bool:=
 (gN h).bind fun x1=>some (!x1)
def BW(x1:Bool):Option Bool:=
 some x1
def tU(list:List Int):Option Bool:=
 (if decide ((list.length:Int)<=6) then(eT list (fun y0=>vG y0)).bind fun x2=>BW (!x2) else BW false)
def OQ:Option Int:=
 some (-1)
def i7(s:List Seen)(f:(Seen->Option Bool)):Int->Option (Step Int (Out Unit Int))
 | x2=>(if decide (x2<(s.length:Int)) then(idx s x2).bind fun x3=>(f x3).bind fun x4=>(if x4 then some (.stop (Out.ret x2)) else some (.next (bE (x2+1)))) else some (.stop (Out.brk ())))
def zT:(Out Unit Int)->Option Int
 | .brk ()=>OQ
 | .ret r=>some r
def eR(s:List Seen)(f:(Seen->Option Bool)):Option Int:=
 (loop (i7 s f) 0).bind (zT)
def fM(s:List Seen)(f:(Seen->Option Bool)):Option Bool:=
 (eR s f).bind fun x1=>some (decide (0<=x1))
def OR(s:Seen):Option Bool:=
 (F9 s.bY).bind fun x1=>some (!x1)
def QO(list:List aS):Option Bool:=
 some (decide ((list.length:Int)<=6))
def kY(x2:Int)(x4:Bool):Option (Step Int (Out Unit Bool)):=
 (if x4 then some (.stop (Out.ret false)) else some (.next (bE (x2+1))))
def rI(list:List aS):Int->Option (Step Int (Out Unit Bool))
 | x2=>(if decide (x2<(list.length:Int)) then(idx list x2).bind fun x3=>(bP x3.Key 0 99).bind fun x5=>(if !x5 then kY x2 true else(bP x3.dO 0 65535).bind fun x6=>(if !x6 then kY x2 true else(if decide (0<x2) then(idx list (bE (x2 - 1))).bind fun x7=>kY x2 (decide (x3.Key<=x7.Key)) else kY x2 false))) else some (.stop (Out.brk ())))
def QP(list:List aS):(Out Unit Bool)->Option Bool
 | .brk ()=>QO list
 | .ret r=>some r
def G9(list:List aS):Option Bool:=
 (loop (rI list) 0).bind (QP list)
def iK(x4:Bool):Option Bool:=
 some x4
def U0(j:aE):Option Bool:=
 (DX j.Batch).bind fun x5=>(if x5 then(nE j.H).bind fun x6=>(if x6 then(nE j.dB).bind fun x7=>(if x7 then(F9 j.bY).bind fun x8=>(if x8 then(bP j.At 0 (j.Batch.aY.length:Int)).bind fun x9=>(if x9 then(bP j.K 0 100).bind fun x10=>(if x10 then(tU j.dF).bind fun x11=>(if x11 then(tU j.bA).bind fun x12=>(if x12 then(fM j.Reads (fun y0=>OR y0)).bind fun x13=>(if !x13 then(G9 j.aB).bind fun x14=>iK x14 else iK false) else iK false) else iK false) else iK false) else iK false) else iK false) else iK false) else iK false) else iK false)
def DY(x3:Int)(x16:Bool):Option (Step Int (Out Unit Bool)):=
 (if x16 then some (.stop (Out.ret false)) else some (.next (bE (x3+1))))
def wI(j:aE):Int->Option (Step Int (Out Unit Bool))
 | x3=>(if decide (x3<(j.aQ.length:Int)) then(idx j.aQ x3).bind fun x15=>(F9 x15).bind fun x17=>(if !x17 then DY x3 true else need (0<=(x3:Int)/\(x3:Int)<=(j.aQ.length:Int)) ((kE ((j.aQ.take x3.toNat).drop 0) x15).bind fun x18=>DY x3 x18)) else some (.stop (Out.brk ())))
def U1(j:aE):(Out Unit Bool)->Option Bool
 | .brk ()=>U0 j
 | .ret r=>some r
def sB(j:aE):Option Bool:=
 (if !j.bX then(G8 j (⟨false,(⟨false,[]⟩:Batch),0,0,0,0,0,0,0,0,(⟨0,0,0⟩:gW),false,0,(⟨0,0,0,0,0,0,0,0,0,false⟩:Sub),[],[],[],[],[],[]⟩:aE)).bind fun x1=>some x1 else(loop (wI j) 0).bind (U1 j))
def LK(j:aE):Option Bool:=
 (sB j).bind fun x1=>some (!x1)
def LL:Option Int:=
 some (-1)
def nU(s:List aL)(f:(aL->Option Bool)):Int->Option (Step Int (Out Unit Int))
 | x2=>(if decide (x2<(s.length:Int)) then(idx s x2).bind fun x3=>(f x3).bind fun x4=>(if x4 then some (.stop (Out.ret x2)) else some (.next (bE (x2+1)))) else some (.stop (Out.brk ())))
def wJ:(Out Unit Int)->Option Int
 | .brk ()=>LL
 | .ret r=>some r
def CT(s:List aL)(f:(aL->Option Bool)):Option Int:=
 (loop (nU s f) 0).bind (wJ)
def j4(s:List aL)(f:(aL->Option Bool)):Option Bool:=
 (CT s f).bind fun x1=>some (decide (0<=x1))
def MV:Option Int:=
 some (-1)
def oN(s:List Batch)(f:(Batch->Option Bool)):Int->Option (Step Int (Out Unit Int))
 | x2=>(if decide (x2<(s.length:Int)) then(idx s x2).bind fun x3=>(f x3).bind fun x4=>(if x4 then some (.stop (Out.ret x2)) else some (.next (bE (x2+1)))) else some (.stop (Out.brk ())))
def yO:(Out Unit Int)->Option Int
 | .brk ()=>MV
 | .ret r=>some r
def DZ(s:List Batch)(f:(Batch->Option Bool)):Option Int:=
 (loop (oN s f) 0).bind (yO)
def oP(s:List Batch)(f:(Batch->Option Bool)):Option Bool:=
 (DZ s f).bind fun x1=>some (decide (0<=x1))
def GA(b:Batch):Option Bool:=
 (DX b).bind fun x1=>some (!x1)
def vH(x1:Bool):Option Bool:=
 some x1
def D0(q:aL):Option Bool:=
 (if decide (12<(q.List.length:Int)) then vH true else(oP q.List (fun y0=>GA y0)).bind fun x2=>vH x2)
def AV(x1:Bool):Option Bool:=
 some x1
def D1(todo:List aL):Option Bool:=
 (if(todo.length:Int) == 3 then(j4 todo (fun y0=>D0 y0)).bind fun x2=>AV (!x2) else AV false)
def kI(x1:Bool):Option Bool:=
 some x1
def D2(t:Table):Option Bool:=
 (NV t.aC).bind fun x2=>(if x2 then(if(t.b8.length:Int) == 2 then(rF t.b8 (fun y0=>LI y0)).bind fun x3=>(if !x3 then(if(t.aO.length:Int) == 3 then(g7 t.aO (fun y0=>LK y0)).bind fun x4=>(if !x4 then(D1 t.dU).bind fun x5=>(if x5 then(bP t.aI 0 1000000).bind fun x6=>kI x6 else kI false) else kI false) else kI false) else kI false) else kI false) else kI false)
def JW(s:List Batch)(i j:Int):Option (List Batch):=
 need (0<=i/\i<=j/\j<=(s.length:Int)) (some (s.take i.toNat++s.drop j.toNat))
def lO(kind a_:Int):Option Sub:=
 some (⟨kind,a_,0,0,0,0,0,0,0,false⟩:Sub)
def yV(t:Table)(w_:Int)(x2:aL)(x3:Batch)(x6:aE)(x8:List lV):Option Table:=
 some (⟨t.aC,t.b8,t.aO.set w_.toNat ({x6 with Batch:=(⟨x6.Batch.Collect,x3.aY⟩:Batch),Reads:=[],aB:=[],dJ:=[],dF:=[],aQ:=[],bA:=[]}:aE),t.dU.set w_.toNat (⟨x2.List.drop 1⟩:aL),x8,bE (t.aI+1)⟩:Table)
def mS(t:Table)(w_:Int)(x2:aL)(x3:Batch)(x6:aE):Option Table:=
 (idx t.aO w_).bind fun x7=>(kX x3.aY).bind fun x9=>need (t.Log.length+([(⟨1,w_,x6.aI,0,x9,[]⟩:lV)]).length<=1073741824)<|yV t w_ x2 x3 x6 (t.Log++([(⟨1,w_,x6.aI,0,x9,[]⟩:lV)]))
def yW(t:Table)(w_:Int)(x2:aL)(x3:Batch)(x5:aE):Option Table:=
 (if x3.Collect then(lO 3 0).bind fun x10=>mS t w_ x2 x3 ({x5 with Batch:=(⟨x5.Batch.Collect,x3.aY⟩:Batch),Pc:=20,Sub:=x10,Reads:=[],aB:=[],dJ:=[],dF:=[],aQ:=[],bA:=[]}:aE) else mS t w_ x2 x3 ({x5 with Batch:=(⟨x5.Batch.Collect,x3.aY⟩:Batch),Reads:=[],aB:=[],dJ:=[],dF:=[],aQ:=[],bA:=[]}:aE))
def mT(t:Table)(w_:Int)(x1:Bool):Option Table:=
 (if x1 then some t else(idx t.dU w_).bind fun x2=>(idx x2.List 0).bind fun x3=>(JW x2.List 0 1).bind fun x4=>(lO 5 0).bind fun x11=>yW t w_ x2 x3 (⟨true,x3,bE (t.aI+1),0,0,0,0,0,0,0,(⟨0,0,0⟩:gW),false,0,x11,[],[],[],[],[],[]⟩:aE))
def xN(t:Table)(w_:Int):Option Table:=
 (idx t.dU w_).bind fun x12=>(if(x12.List.length:Int) == 0 then mT t w_ true else mT t w_ (t.aI == 1000000))
def bG(s:Sub)(code:Int):Option Sub:=
 some ({s with Code:=code,cJ:=true}:Sub)
def aEP:Option Int:=
 some (-1)
def AW(x2:Int)(x3:Bool):Option (Step Int (Out Unit Int)):=
 (if x3 then some (.stop (Out.ret x2)) else some (.next (bE (x2+1))))
def kJ(size:Int):Int->Option (Step Int (Out Unit Int))
 | x2=>(if decide (x2<3) then(if decide (1<=size) then(CP x2).bind fun x4=>AW x2 (decide (size<=x4)) else AW x2 false) else some (.stop (Out.brk ())))
def aEQ:(Out Unit Int)->Option Int
 | .brk ()=>aEP
 | .ret r=>some r
def KB(size:Int):Option Int:=
 (loop (kJ size) 0).bind (aEQ)
def g8(w_:Int):Option Bool:=
 (bP w_ 0 2).bind fun x1=>some x1
def HA(w_ c:Int)(x1:Bool):Option Int:=
 (if x1 then some (-1) else some (bE ((bE (w_*3))+c)))
def LM(w_ c:Int):Option Int:=
 (g8 w_).bind fun x2=>(if !x2 then HA w_ c true else(lE c).bind fun x3=>HA w_ c (!x3))
def wK(s:aW):Option (Int×aW):=
 (if decide ((bE ((s.aT.length:Int) - 1))<0) then some ((-1),s) else(idx s.aT (bE ((s.aT.length:Int) - 1))).bind fun x1=>need (0<=(bE ((s.aT.length:Int) - 1):Int)/\(bE ((s.aT.length:Int) - 1):Int)<=(bE ((s.aT.length:Int) - 1):Int)/\(bE ((s.aT.length:Int) - 1):Int)<=(s.aT.length:Int)) (some (x1,(⟨(s.aT.take ((bE ((s.aT.length:Int) - 1)).toNat)).drop 0⟩:aW))))
def AX(x1:aD)(x2:Int)(x3:Bool):Option (aD×Int):=
 (if x3 then some (x1,(-1)) else(idx x1.Own x2).bind fun x4=>(wK x4).bind fun x5=>some ((⟨x1.Global,x1.Own.set x2.toNat x5.2⟩:aD),x5.1))
def KC(l:aD)(w_ c:Int):Option (aD×Int):=
 (i5 l).bind fun x1=>(LM w_ c).bind fun x2=>(lF l).bind fun x6=>(if !x6 then AX x1 x2 true else AX x1 x2 (decide (x2<0)))
def sN(c:Int)(x1:aD)(x2:Bool):Option (aD×Int):=
 (if x2 then some (x1,(-1)) else(idx x1.Global c).bind fun x3=>(wK x3).bind fun x4=>some ((⟨x1.Global.set c.toNat x4.2,x1.Own⟩:aD),x4.1))
def AY(l:aD)(c:Int):Option (aD×Int):=
 (i5 l).bind fun x1=>(lF l).bind fun x5=>(if !x5 then sN c x1 true else(lE c).bind fun x6=>sN c x1 (!x6))
def LN(b x5:List Int):Option (List Int):=
 need (x5.length=b.length) (some x5)
def lP(b:List Int)(at_:Int)(text:List UInt8):((List Int)×Int)->Option (Step ((List Int)×Int) (List Int))
 | (x3,x4)=>need (x3.length=b.length) ((if decide (x4<(text.length:Int)) then(idx text x4).bind fun x6=>(idx x3 (bE (at_+x4))).bind fun x7=>some (.next (x3.set ((bE (at_+x4)).toNat) (x6.toNat:Int),bE (x4+1))) else some (.stop (x3))))
def LO(b:List Int):(List Int)->Option (List Int)
 | x5=>LN b x5
def nG(b:List Int)(at_:Int)(text:List UInt8):Option (List Int):=
 (loop (lP b at_ text) (b,0)).bind (LO b)
def xO(width:Int):Option Bool:=
 (bP width 1 7).bind fun x1=>some x1
def aKJ(x8:List UInt8):Option (List UInt8):=
 some x8
def p5:(Int×(List UInt8)×Int)->Option (Step (Int×(List UInt8)×Int) (List UInt8))
 | (x5,x6,x7)=>(if decide (0<=x7) then(idx x6 x7).bind fun x9=>some (.next (o9 .i64 x5 8,x6.set x7.toNat (u8 x5),bE (x7 - 1))) else some (.stop (x6)))
def aKK:(List UInt8)->Option (List UInt8)
 | x8=>aKJ x8
def uN(n width:Int)(x1:Bool):Option (List UInt8):=
 (if x1 then some ([]) else need (0<=(width:Int)/\(width:Int)<=4294967296) ((loop (p5) (n,List.replicate (width.toNat) 0,bE (width - 1))).bind (aKK)))
def mL(n width:Int):Option (List UInt8):=
 (xO width).bind fun x10=>(if !x10 then uN n width true else(if decide (n<0) then uN n width true else need (0<=(IntKind.u64.wrap (bE (8*width)):Int)) (uN n width (decide ((aG7 .i64 1 (IntKind.u64.wrap (bE (8*width))))<=n)))))
def D3(page index:Int)(x1:Bool):Option Int:=
 (if x1 then some (-1) else some (bE ((bE (page*4))+index)))
def NW(page index:Int):Option Int:=
 (bP page 0 5).bind fun x2=>(if !x2 then D3 page index true else(bP index 0 3).bind fun x3=>D3 page index (!x3))
def aKL(c:Int)(x1:Heap)(x2:Int)(x13 x14:List Int):Option (Heap×(List Int)):=
 some ((⟨x14,x1.Class.set x2.toNat c⟩:Heap),x13)
def OS(x10:List Int)(x11 x15:Int)(x16:List Int):Option (Step ((List Int)×Int×(List Int)) ((List Int)×(List Int))):=
 need (x10.length+([x15]).length<=1073741824) (some (.next (x10++([x15]),bE (x11+1),x16)))
def HB(c x2 x6:Int):((List Int)×Int×(List Int))->Option (Step ((List Int)×Int×(List Int)) ((List Int)×(List Int)))
 | (x10,x11,x12)=>(if decide (x11<x6) then(NW x2 x11).bind fun x15=>(wB x15 c).bind fun x17=>(mL 1 4).bind fun x18=>(nG x12 x17 x18).bind fun x19=>OS x10 x11 x15 x19 else some (.stop ((x10,x12))))
def aKM(c:Int)(x1:Heap)(x2:Int):((List Int)×(List Int))->Option (Heap×(List Int))
 | (x13,x14)=>aKL c x1 x2 x13 x14
def OT(c:Int)(x1:Heap)(x2:Int)(x5:List Int):Option (Heap×(List Int)):=
 (pE c).bind fun x6=>(loop (HB c x2 x6) (([]:List Int),0,x5)).bind (aKM c x1 x2)
def zU(c:Int)(x1:Heap)(x2:Int)(x3:Bool):Option (Heap×(List Int)):=
 (if x3 then some (x1,([]:List Int)) else(idx x1.Class x2).bind fun x4=>need (0<=(bE (x2*64):Int)/\(bE (x2*64):Int)<=(x1.Bytes.length:Int))<|(pE c).bind fun x20=>OT c x1 x2 (cT x1.Bytes ((bE (x2*64)).toNat) ([171,c,x20]:List Int)))
def GB(h:Heap)(c:Int):Option (Heap×(List Int)):=
 (uI h).bind fun x1=>(nN h.Class (-1)).bind fun x2=>(HY h).bind fun x21=>(if !x21 then zU c x1 x2 true else(lE c).bind fun x22=>(if !x22 then zU c x1 x2 true else zU c x1 x2 (decide (x2<0))))
def I1(x4:Int)(x5:Mem):Option (Mem×Int):=
 some (x5,x4)
def I2(c:Int)(x1:Heap×(List Int))(x2:Mem):Option (Mem×Int):=
 (if(x1.2.length:Int) == 0 then some (x2,(-1)) else(idx x2.aD.Global c).bind fun x3=>need (0<=(1:Int)/\(1:Int)<=(x1.2.length:Int)) (need (x3.aT.length+((x1.2.take x1.2.length).drop ((1:Int).toNat)).length<=1073741824) ((idx x1.2 0).bind fun x6=>I1 x6 (⟨x2.Heap,(⟨x2.aD.Global.set c.toNat (⟨x3.aT++((x1.2.take x1.2.length).drop ((1:Int).toNat))⟩:aW),x2.aD.Own⟩:aD)⟩:Mem))))
def KD(m:Mem)(c:Int):Option (Mem×Int):=
 (GB m.Heap c).bind fun x1=>(i5 m.aD).bind fun x7=>I2 c x1 (⟨x1.1,x7⟩:Mem)
def xP(slot gen:Int)(x1:Bool):Option Int:=
 (if x1 then some 0 else some (bE ((bE (gen*32))+slot)))
def OU(slot gen:Int):Option Int:=
 (nD slot).bind fun x2=>(if !x2 then xP slot gen true else(bP gen 1 6).bind fun x3=>xP slot gen (!x3))
def HC(m:Mem)(slot:Int):Option Int:=
 (BU m.Heap slot).bind fun x1=>(OU slot x1).bind fun x2=>some x2
def iZ(s:Sub)(x3:Int)(x4:aC):Option (Sub×aC):=
 (if decide (0<=x3) then(HC x4.Mem x3).bind fun x5=>(bG ({s with Out:=x5}:Sub) 0).bind fun x6=>some (x6,x4) else(if s.Pc == 3 then(bG s 3).bind fun x7=>some (x7,x4) else some (({s with Pc:=bE (s.Pc+1)}:Sub),x4)))
def oG(s:Sub)(b:aC)(x1:Int)(x9:Bool):Option (Sub×aC):=
 (if x9 then(AY b.Mem.aD x1).bind fun x10=>iZ s x10.2 ({b with Mem:=(⟨b.Mem.Heap,x10.1⟩:Mem)}:aC) else(if s.Pc == 2 then(KD b.Mem x1).bind fun x11=>iZ s x11.2 ({b with Mem:=x11.1}:aC) else(bG s 1).bind fun x12=>some (x12,b)))
def sO(s:Sub)(b:aC)(w_:Int):Option (Sub×aC):=
 (KB s.A).bind fun x1=>(if decide (x1<0) then(bG s 2).bind fun x2=>some (x2,b) else(if s.Pc == 0 then(KC b.Mem.aD w_ x1).bind fun x8=>iZ s x8.2 ({b with Mem:=(⟨b.Mem.Heap,x8.1⟩:Mem)}:aC) else(if s.Pc == 1 then oG s b x1 true else oG s b x1 (s.Pc == 3))))
def qM(x1:Bool):Option Bool:=
 some x1
def rJ(r_:eE)(k0:Int):Option Bool:=
 (gN r_.Handle).bind fun x2=>(if x2 then qM ((Int.tmod r_.Handle 32) == k0) else qM false)
def D4(own:bI)(k0:Int):Option Bool:=
 (i6 own.Rows (fun y0=>rJ y0 k0)).bind fun x1=>some x1
def D5(l:List bI)(slot:Int):Option Bool:=
 (iV l (fun y0=>D4 y0 slot)).bind fun x1=>some x1
def xQ(l:List bI)(w_ h e_:Int)(x1:Bool):Option ((List bI)×Bool):=
 (if x1 then(lN l).bind fun x2=>some (x2,false) else(lN l).bind fun x3=>(idx x3 w_).bind fun x4=>need (x4.Rows.length+([(⟨h,e_⟩:eE)]).length<=1073741824) ((m9 (x3.set w_.toNat (⟨x4.Rows++([(⟨h,e_⟩:eE)])⟩:bI))).bind fun x5=>(if !x5 then(lN l).bind fun x6=>some (x6,false) else some (x3.set w_.toNat (⟨x4.Rows++([(⟨h,e_⟩:eE)])⟩:bI),true))))
def HD(l:List bI)(w_ h e_:Int):Option ((List bI)×Bool):=
 (m9 l).bind fun x7=>(if !x7 then xQ l w_ h e_ true else(g8 w_).bind fun x8=>xQ l w_ h e_ (!x8))
def nA(s:Sub)(b:aC)(w_:Int)(x3:Bool):Option (Sub×aC):=
 (if x3 then(bG s 4).bind fun x4=>some (x4,b) else(HD b.aN w_ s.A s.E).bind fun x5=>(bG s 0).bind fun x6=>some (x6,({b with aN:=x5.1}:aC)))
def nB(s:Sub)(b:aC)(w_:Int)(x1:Bool):Option (Sub×aC):=
 (if x1 then(bG s 1).bind fun x2=>some (x2,b) else(wH b.Mem s.A).bind fun x7=>(if !x7 then nA s b w_ true else(D5 b.aN (Int.tmod s.A 32)).bind fun x8=>nA s b w_ x8))
def qN(s:Sub)(b:aC)(w_:Int):Option (Sub×aC):=
 (if s.Pc == 0 then some (({s with Pc:=1,E:=b.aA.aG}:Sub),b) else(if s.Pc != 1 then nB s b w_ true else(bP s.E 0 b.aA.aG).bind fun x9=>nB s b w_ (!x9)))
def rK(w_:Int)(x1:aA)(x4:Bool):Option (aA×Bool):=
 (if x4 then some (x1,true) else(idx x1.cH w_).bind fun x5=>(if decide (x5.Seen<2) then some ((⟨x1.aG,x1.cH.set w_.toNat ({x5 with Seen:=bE (x5.Seen+1)}:vR)⟩:aA),false) else some ((⟨x1.aG,x1.cH.set w_.toNat ({x5 with fU:=true,Seen:=0}:vR)⟩:aA),true)))
def D6(w_ e_:Int)(x1:aA)(x2:Bool):Option (aA×Bool):=
 (if x2 then some (x1,false) else(idx x1.cH w_).bind fun x3=>(if !x3.On then rK w_ x1 true else(if x3.fU then rK w_ x1 true else rK w_ x1 (x3.aG == e_))))
def NX(c:aA)(w_ e_:Int):Option (aA×Bool):=
 (lM c).bind fun x1=>(pG c).bind fun x6=>(if !x6 then D6 w_ e_ x1 true else(g8 w_).bind fun x7=>D6 w_ e_ x1 (!x7))
def D7(x1:aA)(x2:Bool):Option (aA×Bool):=
 (if x2 then some (x1,false) else some ((⟨bE (x1.aG+1),x1.cH⟩:aA),true))
def W5(c:aA)(e_:Int):Option (aA×Bool):=
 (lM c).bind fun x1=>(pG c).bind fun x3=>(if !x3 then D7 x1 true else(if c.aG != e_ then D7 x1 true else D7 x1 (c.aG == 100000)))
def mA(s:Sub)(b:aC)(x4:aA×Bool)(x5:Int):Option (Sub×aC):=
 (bG ({s with Out:=x5}:Sub) 0).bind fun x6=>some (x6,({b with aA:=x4.1}:aC))
def mB(s:Sub)(b:aC)(x1:Bool):Option (Sub×aC):=
 (if x1 then(NX b.aA s.B s.E).bind fun x2=>(if !x2.2 then(bG s 8).bind fun x3=>some (x3,({b with aA:=x2.1}:aC)) else(if(bE (s.B+1)) == 3 then some (({s with Pc:=2,B:=bE (s.B+1)}:Sub),({b with aA:=x2.1}:aC)) else some (({s with B:=bE (s.B+1)}:Sub),({b with aA:=x2.1}:aC)))) else(if s.Pc == 2 then(W5 b.aA s.E).bind fun x4=>(if x4.2 then mA s b x4 1 else mA s b x4 s.Out) else(bG s 1).bind fun x7=>some (x7,b)))
def pH(s:Sub)(b:aC):Option (Sub×aC):=
 (if s.Pc == 0 then some (({s with Pc:=1,E:=b.aA.aG,B:=0}:Sub),b) else(if s.Pc == 1 then(g8 s.B).bind fun x8=>mB s b x8 else mB s b false))
def LP(x3 x5:List Int):Option (Heap×Bool):=
 some ((⟨x5,x3⟩:Heap),true)
def D8(slot gen x1:Int)(x2 x3:List Int)(x4:Bool):Option (Heap×Bool):=
 (if x4 then some ((⟨x2,x3⟩:Heap),false) else(wB slot x1).bind fun x6=>(mL gen 4).bind fun x7=>(nG x2 x6 x7).bind fun x8=>LP x3 x8)
def LQ(slot gen x1:Int)(x2 x3:List Int):Option (Heap×Bool):=
 (if decide (x1<0) then D8 slot gen x1 x2 x3 true else(bP gen 1 7).bind fun x9=>D8 slot gen x1 x2 x3 (!x9))
def U2(h:Heap)(slot gen:Int):Option (Heap×Bool):=
 (uI h).bind fun x10=>(DS h slot).bind fun x11=>LQ slot gen x11 x10.Bytes x10.Class
def xR(c slot:Int)(x1:aD)(x2:Int)(x3:Bool):Option (aD×Bool):=
 (if x3 then some (x1,false) else(idx x1.Own x2).bind fun x4=>(if decide (2<=(x4.aT.length:Int)) then(idx x1.Global c).bind fun x5=>need (x5.aT.length+([slot]).length<=1073741824) (some ((⟨x1.Global.set c.toNat (⟨x5.aT++([slot])⟩:aW),x1.Own⟩:aD),true)) else need (x4.aT.length+([slot]).length<=1073741824) (some ((⟨x1.Global,x1.Own.set x2.toNat (⟨x4.aT++([slot])⟩:aW)⟩:aD),true))))
def aCY(l:aD)(w_ c slot:Int):Option (aD×Bool):=
 (i5 l).bind fun x1=>(LM w_ c).bind fun x2=>(lF l).bind fun x6=>(if !x6 then xR c slot x1 x2 true else(if decide (x2<0) then xR c slot x1 x2 true else(nD slot).bind fun x7=>(if !x7 then xR c slot x1 x2 true else(HZ l slot).bind fun x8=>xR c slot x1 x2 x8)))
def OV(x3:Mem):Option Mem:=
 some x3
def OW(m:Mem)(w_ h:Int)(x2:Mem):Option Mem:=
 (if decide ((bE ((bE (Int.tdiv h 32))+1))<=6) then(lG m.Heap (Int.tmod h 32)).bind fun x4=>(aCY m.aD w_ x4 (Int.tmod h 32)).bind fun x5=>OV (⟨x2.Heap,x5.1⟩:Mem) else OV x2)
def LR(m:Mem)(w_ h:Int):Option Mem:=
 (U2 m.Heap (Int.tmod h 32) (bE ((bE (Int.tdiv h 32))+1))).bind fun x1=>(i5 m.aD).bind fun x6=>OW m w_ h (⟨x1.1,x6⟩:Mem)
def D9(x1:Bool):Option Bool:=
 some x1
def H5(l:List bI)(w_ i:Int):Option Bool:=
 (g8 w_).bind fun x2=>(if x2 then(idx l w_).bind fun x3=>(bP i 0 (bE ((x3.Rows.length:Int) - 1))).bind fun x4=>D9 x4 else D9 false)
def KE(x1:Bool):Option Bool:=
 some x1
def QQ(r_:eE)(e_:Int):Option Bool:=
 (if decide (2<=e_) then KE (decide (r_.aG<=(bE (e_ - 2)))) else KE false)
def H6(s:Sub)(b:aC):Option (Sub×aC):=
 (bG s 0).bind fun x3=>some (x3,b)
def fH(s:Sub)(b:aC)(w_:Int):Int->Option (Step Int (Out Unit (Sub×aC)))
 | x2=>(idx b.aN w_).bind fun x4=>(if decide (x2<(x4.Rows.length:Int)) then(idx x4.Rows x2).bind fun x5=>(QQ x5 s.E).bind fun x6=>(if x6 then some (.stop (Out.ret (({s with Pc:=2,Row:=x2,B:=0,H:=x5.Handle}:Sub),b))) else some (.next (bE (x2+1)))) else some (.stop (Out.brk ())))
def U3(s:Sub)(b:aC):(Out Unit (Sub×aC))->Option (Sub×aC)
 | .brk ()=>H6 s b
 | .ret r=>some r
def pI(s:Sub)(b:aC)(w_:Int):Option (Sub×aC):=
 (loop (fH s b w_) (if s.Row<0 then 0 else s.Row)).bind (U3 s b)
def BX(s:List eE)(i j:Int):Option (List eE):=
 need (0<=(i:Int)/\(i:Int)<=(j:Int)/\(j:Int)<=((s.length:Int):Int)/\((s.length:Int):Int)<=(s.length:Int)) ((if i == j then some s else need (0<=(i:Int)/\(i:Int)<=(s.length:Int)) (need (0<=(j:Int)/\(j:Int)<=(s.length:Int)) (need (i.toNat<=j.toNat) (need (0<=(((((cT s i.toNat (s.drop j.toNat)).take (i.toNat+(s.length - j.toNat))).drop 0).length:Int):Int)/\(((((cT s i.toNat (s.drop j.toNat)).take (i.toNat+(s.length - j.toNat))).drop 0).length:Int):Int)<=((s.length:Int):Int)/\((s.length:Int):Int)<=((cT s i.toNat (s.drop j.toNat)).length:Int)) (some (((cT s i.toNat (s.drop j.toNat)).take (i.toNat+(s.length - j.toNat))).drop 0)))))))
def AZ(w_ i:Int)(x1:(List bI))(x2:Bool):Option ((List bI)×Bool):=
 (if x2 then some (x1,false) else(idx x1 w_).bind fun x3=>(BX x3.Rows i (bE (i+1))).bind fun x4=>some (x1.set w_.toNat (⟨x4⟩:bI),true))
def KF(l:List bI)(w_ i:Int):Option ((List bI)×Bool):=
 (lN l).bind fun x1=>(m9 l).bind fun x5=>(if !x5 then AZ w_ i x1 true else(H5 l w_ i).bind fun x6=>AZ w_ i x1 (!x6))
def dN(s:Sub)(b:aC)(w_:Int)(x5:Bool):Option (Sub×aC):=
 (if x5 then(KF b.aN w_ s.Row).bind fun x6=>(LR b.Mem w_ s.H).bind fun x7=>some (({s with Pc:=1,Out:=bE (s.Out+1)}:Sub),({b with Mem:=x7,aN:=x6.1}:aC)) else(bG s 1).bind fun x8=>some (x8,b))
def eU(s:Sub)(b:aC)(w_:Int)(x1 x3:Bool):Option (Sub×aC):=
 (if x3 then(idx b.qH s.B).bind fun x4=>(if x4 == s.H then some (({s with Pc:=1,Row:=bE (s.Row+1)}:Sub),b) else(if(bE (s.B+1)) == 3 then some (({s with Pc:=3,B:=bE (s.B+1)}:Sub),b) else some (({s with B:=bE (s.B+1)}:Sub),b))) else(if s.Pc == 3 then(if x1 then(idx b.aN w_).bind fun x9=>(idx x9.Rows s.Row).bind fun x10=>(QQ x10 s.E).bind fun x11=>dN s b w_ x11 else dN s b w_ false) else dN s b w_ false))
def gE(s:Sub)(b:aC)(w_:Int)(x1:Bool):Option (Sub×aC):=
 (if s.Pc == 0 then some (({s with Pc:=1,E:=b.aA.aG,Row:=0}:Sub),b) else(if s.Pc == 1 then(pI s b w_).bind fun x2=>some (x2.1,x2.2) else(if s.Pc == 2 then(g8 s.B).bind fun x12=>(if x12 then eU s b w_ x1 x1 else eU s b w_ x1 false) else eU s b w_ x1 false)))
def pJ(s:Sub)(b:aC)(w_:Int):Option (Sub×aC):=
 (H5 b.aN w_ s.Row).bind fun x13=>(if x13 then(idx b.aN w_).bind fun x14=>(idx x14.Rows s.Row).bind fun x15=>gE s b w_ (x15.Handle == s.H) else gE s b w_ false)
def zV(w_ e_:Int)(x1:aA)(x2:Bool):Option (aA×Bool):=
 (if x2 then some (x1,false) else(idx x1.cH w_).bind fun x3=>some ((⟨x1.aG,x1.cH.set w_.toNat (⟨true,e_,false,0⟩:vR)⟩:aA),true))
def RX(c:aA)(w_ e_:Int):Option (aA×Bool):=
 (lM c).bind fun x1=>(pG c).bind fun x4=>(if !x4 then zV w_ e_ x1 true else(g8 w_).bind fun x5=>(if !x5 then zV w_ e_ x1 true else(bP e_ 0 c.aG).bind fun x6=>zV w_ e_ x1 (!x6)))
def yX(s:Sub)(b:aC)(x1:Bool)(x2:Int)(x3:List vR):Option (Sub×aC):=
 (if !x1 then(bG s 1).bind fun x4=>some (x4,b) else some (({s with Pc:=2}:Sub),({b with aA:=(⟨x2,x3⟩:aA)}:aC)))
def xS(s:Sub)(b:aC)(w_:Int):Option (Sub×aC):=
 (if s.Pc == 0 then some (({s with Pc:=1,E:=b.aA.aG}:Sub),b) else(if s.Pc == 1 then(RX b.aA w_ s.E).bind fun x5=>yX s b x5.2 x5.1.aG x5.1.cH else(if s.Pc == 2 then(if b.aA.aG == s.E then(bG s 0).bind fun x6=>some (x6,b) else some (({s with Pc:=0}:Sub),b)) else(bG s 1).bind fun x7=>some (x7,b))))
def qA(s:Sub)(b:aC)(w_:Int):Option (Sub×aC):=
 (if s.cJ then some (s,b) else(if s.Kind == 1 then(sO s b w_).bind fun x1=>some (x1.1,x1.2) else(if s.Kind == 2 then(qN s b w_).bind fun x2=>some (x2.1,x2.2) else(if s.Kind == 3 then(pH s b).bind fun x3=>some (x3.1,x3.2) else(if s.Kind == 4 then(pJ s b w_).bind fun x4=>some (x4.1,x4.2) else(if s.Kind == 5 then(xS s b w_).bind fun x5=>some (x5.1,x5.2) else(bG s 1).bind fun x6=>some (x6,b)))))))
def sP(t:Table)(w_:Int):Option Table:=
 (idx t.aO w_).bind fun x1=>(qA x1.Sub t.aC w_).bind fun x2=>(if !x2.1.cJ then some ({t with aC:=x2.2,aO:=t.aO.set w_.toNat ({x1 with Sub:=x2.1}:aE)}:Table) else(if x1.Pc == 0 then some ({t with aC:=x2.2,aO:=t.aO.set w_.toNat ({x1 with Pc:=1,Sub:=x2.1}:aE)}:Table) else(if x1.Pc == 20 then(lO 4 0).bind fun x3=>some ({t with aC:=x2.2,aO:=t.aO.set w_.toNat ({x1 with Pc:=21,Sub:=x3}:aE)}:Table) else some ({t with aC:=x2.2,aO:=t.aO.set w_.toNat ({x1 with Pc:=19,Sub:=x2.1}:aE)}:Table))))
def pK(j:aE):Option (iT×Bool×aE):=
 (bP j.At 0 (bE ((j.Batch.aY.length:Int) - 1))).bind fun x1=>(if !x1 then some ((⟨0,0,0⟩:iT),false,j) else(idx j.Batch.aY j.At).bind fun x2=>some (x2,true,j))
def cK(j:aE)(code:Int):Option aE:=
 some ({j with Pc:=16,Code:=code}:aE)
def MW:Option Int:=
 some (-1)
def oQ(s:List aS)(f:(aS->Option Bool)):Int->Option (Step Int (Out Unit Int))
 | x2=>(if decide (x2<(s.length:Int)) then(idx s x2).bind fun x3=>(f x3).bind fun x4=>(if x4 then some (.stop (Out.ret x2)) else some (.next (bE (x2+1)))) else some (.stop (Out.brk ())))
def MX:(Out Unit Int)->Option Int
 | .brk ()=>MW
 | .ret r=>some r
def cS(s:List aS)(f:(aS->Option Bool)):Option Int:=
 (loop (oQ s f) 0).bind (MX)
def wL(x8:List aS)(x9:Int):Option (List aS):=
 need (0<=(x9:Int)/\(x9:Int)<=(x8.length:Int)) (need (0<=(x9:Int)/\(x9:Int)<=((cT x8 x9.toNat (List.replicate (x8.length - x9.toNat) (⟨0,false,0⟩:aS))).length:Int)) (some (((cT x8 x9.toNat (List.replicate (x8.length - x9.toNat) (⟨0,false,0⟩:aS))).take x9.toNat).drop 0)))
def iL(x7:Int)(x10:List aS)(x11:Int):Option (Step ((List aS)×Int×Int) ((List aS)×Int)):=
 some (.next (x10,x11,bE (x7+1)))
def j5(del:(aS->Option Bool)):((List aS)×Int×Int)->Option (Step ((List aS)×Int×Int) ((List aS)×Int))
 | (x5,x6,x7)=>(if decide (x7<(x5.length:Int)) then(idx x5 x7).bind fun x12=>(del x12).bind fun x13=>(if !x13 then(idx x5 x6).bind fun x14=>iL x7 (x5.set x6.toNat x12) (bE (x6+1)) else iL x7 x5 x6) else some (.stop ((x5,x6))))
def wM:((List aS)×Int)->Option (List aS)
 | (x8,x9)=>wL x8 x9
def jM(s:List aS)(del:(aS->Option Bool)):Option (List aS):=
 (cS s del).bind fun x1=>(if x1 == (-1) then some s else(loop (j5 del) (s,x1,bE (x1+1))).bind (wM))
def I3(x k0:aS):Option Bool:=
 some (x.Key == k0.Key)
def A0(x k0:aS):Option Bool:=
 some (decide (k0.Key<x.Key))
def qO(s:List aS)(i:Int)(v:List aS):Option (List aS):=
 need (0<=i/\i<=(s.length:Int)/\s.length+v.length<=1073741824) (some (s.take i.toNat++v++s.drop i.toNat))
def rL(w_:aS)(x2:(List aS))(x4:Int):Option (List aS):=
 (qO x2 x4 ([w_])).bind fun x5=>some x5
def HE(l:List aS)(w_:aS):Option (List aS):=
 (nT l).bind fun x1=>(jM x1 (fun y0=>I3 y0 w_)).bind fun x2=>(cS x2 (fun y0=>A0 y0 w_)).bind fun x3=>(if decide (x3<0) then rL w_ x2 (x2.length:Int) else rL w_ x2 x3)
def rM(j:aE)(x:aS):Option (Bool×aE):=
 (HE j.aB x).bind fun x1=>(if decide (6<(x1.length:Int)) then(cK j 1).bind fun x2=>some (false,x2) else some (true,({j with aB:=x1}:aE)))
def EA(x:aS)(k0:Int):Option Bool:=
 some (x.Key == k0)
def KG(l:List aS)(key:Int):Option (aS×Bool):=
 (cS l (fun y0=>EA y0 key)).bind fun x1=>(if decide (x1<0) then some ((⟨0,false,0⟩:aS),false) else(idx l x1).bind fun x2=>some (x2,true))
def Y9(a_ b:Int):Option Int:=
 some (Int.tmod (bE (a_+b)) 65536)
def qP(x5:aE):Option aE:=
 some ({x5 with Pc:=1,At:=bE (x5.At+1)}:aE)
def mU(x2:aE)(x3:Bool)(x4:Int):Option aE:=
 need (x2.dJ.length+([(⟨x3,x4⟩:dJ)]).length<=1073741824)<|qP ({x2 with dJ:=x2.dJ++([(⟨x3,x4⟩:dJ)])}:aE)
def mV(j:aE)(c:iT)(is:Bool)(x1:Int):Option aE:=
 (if c.Kind == 4 then(Y9 x1 c.dO).bind fun x6=>(rM j (⟨c.Key,false,x6⟩:aS)).bind fun x7=>(if !x7.1 then some x7.2 else mU x7.2 true x6) else mU j is x1)
def rN(j:aE)(c:iT)(val:Int)(is:Bool):Option aE:=
 (if !is then mV j c is 0 else mV j c is val)
def GC(key:Int):Option Int:=
 (bP key 0 99).bind fun x1=>(if !x1 then some (-1) else some (Int.tmod key 2))
def EB(x1:iT×Bool×aE)(x6:Bool)(x7:aE)(x8:Int)(x9:Bool)(x10:Int):Option aE:=
 (if x6 then(rN x7 x1.1 x10 (!x9)).bind fun x11=>some x11 else(GC x1.1.Key).bind fun x12=>some ({x7 with Pc:=2,bY:=x12}:aE))
def j6(x1:iT×Bool×aE)(x3:Bool)(x4:aE):Option aE:=
 (if x3 then(rM x4 (⟨x1.1.Key,x1.1.Kind == 3,x1.1.dO⟩:aS)).bind fun x5=>(if x5.1 then need (x5.2.dJ.length+([(⟨false,0⟩:dJ)]).length<=1073741824) (some (⟨x5.2.bX,x5.2.Batch,x5.2.aI,x5.2.Pc,bE (x5.2.At+1),x5.2.K,x5.2.bY,x5.2.fX,x5.2.H,x5.2.dB,x5.2.Node,x5.2.Found,x5.2.Code,x5.2.Sub,x5.2.Reads,x5.2.aB,x5.2.dJ++([(⟨false,0⟩:dJ)]),x5.2.dF,x5.2.aQ,x5.2.bA⟩:aE)) else some x5.2) else(KG x4.aB x1.1.Key).bind fun x13=>EB x1 x13.2 x4 x13.1.Key x13.1.FR x13.1.dO)
def EC(j:aE):Option aE:=
 (pK j).bind fun x1=>(if !x1.2.1 then(lO 1 16).bind fun x2=>some (⟨x1.2.2.bX,x1.2.2.Batch,x1.2.2.aI,6,x1.2.2.At,0,x1.2.2.bY,x1.2.2.fX,x1.2.2.H,x1.2.2.dB,x1.2.2.Node,x1.2.2.Found,x1.2.2.Code,x2,x1.2.2.Reads,x1.2.2.aB,x1.2.2.dJ,x1.2.2.dF,x1.2.2.aQ,x1.2.2.bA⟩:aE) else(if x1.1.Kind == 2 then j6 x1 true x1.2.2 else j6 x1 (x1.1.Kind == 3) x1.2.2))
def ED(h:Heap)(slot:Int):Option Bool:=
 (lG h slot).bind fun x1=>(CP x1).bind fun x2=>some (decide (10<=x2))
def KH(slot c:Int):Option Int:=
 (wB slot c).bind fun x1=>(if decide (x1<0) then some (-1) else some (bE (x1+4)))
def xT(h:Heap)(slot:Int):Option Int:=
 (lG h slot).bind fun x1=>(KH slot x1).bind fun x2=>some x2
def NY(h:Heap)(slot:Int):Option gW:=
 (xT h slot).bind fun x1=>(pD h.Bytes x1 2).bind fun x2=>(pD h.Bytes (bE (x1+2)) 4).bind fun x3=>(pD h.Bytes (bE (x1+6)) 4).bind fun x4=>some (⟨x2,x3,x4⟩:gW)
def EE(m:Mem)(h:Int)(x1:Bool):Option (gW×Int):=
 (if x1 then some ((⟨0,0,0⟩:gW),4) else(ED m.Heap (Int.tmod h 32)).bind fun x2=>(if !x2 then some ((⟨0,0,0⟩:gW),2) else(NY m.Heap (Int.tmod h 32)).bind fun x3=>some (x3,0)))
def H7(m:Mem)(h:Int):Option (gW×Int):=
 (gN h).bind fun x4=>(if !x4 then EE m h true else(lG m.Heap (Int.tmod h 32)).bind fun x5=>EE m h (decide (x5<0)))
def oH(x1:Bool):Option Bool:=
 some x1
def BY(p:vR):Option Bool:=
 (if p.On then oH (!p.fU) else oH false)
def iA(n:gW):Option Int:=
 (gN n.Next).bind fun x1=>(if !x1 then some 0 else some n.Next)
def EF(s:Seen)(k0:Int):Option Bool:=
 some (s.bY == k0)
def KI(l:List Seen)(b v:Int):Option ((List Seen)×Bool):=
 (pC l).bind fun x1=>(eR l (fun y0=>EF y0 b)).bind fun x2=>(if decide (x2<0) then need (x1.length+([(⟨b,v⟩:Seen)]).length<=1073741824) (some (x1++([(⟨b,v⟩:Seen)]),true)) else(idx l x2).bind fun x3=>some (x1,x3.fX == v))
def sQ(t:Table)(w_:Int)(x13:List aE)(x14:Bool):Option Table:=
 (if x14 then(idx x13 w_).bind fun x15=>some ({t with aO:=x13.set w_.toNat ({x15 with Pc:=5}:aE)}:Table) else some ({t with aO:=x13}:Table))
def BZ(t:Table)(w_:Int)(x13:List aE):Option Table:=
 (idx x13 w_).bind fun x16=>(if x16.Found then sQ t w_ x13 true else sQ t w_ x13 (x16.H == 0))
def LS(t:Table)(x26:List aE):Option Table:=
 some ({t with aO:=x26}:Table)
def B4(t:Table)(w_:Int)(x6:iT×Bool×aE)(x21:List Seen)(x22:Bool):Option Table:=
 (idx (t.aO.set w_.toNat x6.2.2) w_).bind fun x23=>(if !x22 then(cK ({x23 with Reads:=x21}:aE) 7).bind fun x24=>some ({t with aO:=(t.aO.set w_.toNat x6.2.2).set w_.toNat x24}:Table) else(if !x6.2.1 then(cK ({x23 with Reads:=x21}:aE) 1).bind fun x25=>some ({t with aO:=(t.aO.set w_.toNat x6.2.2).set w_.toNat x25}:Table) else(rN ({x23 with Reads:=x21}:aE) x6.1 x23.Node.dO x23.Found).bind fun x27=>LS t ((t.aO.set w_.toNat x6.2.2).set w_.toNat x27)))
def jD(t:Table)(w_:Int)(x6:iT×Bool×aE)(x18:Bool):Option Table:=
 (if x18 then(idx (t.aO.set w_.toNat x6.2.2) w_).bind fun x19=>(cK x19 7).bind fun x20=>some ({t with aO:=(t.aO.set w_.toNat x6.2.2).set w_.toNat x20}:Table) else(idx (t.aO.set w_.toNat x6.2.2) w_).bind fun x28=>(KI x28.Reads x28.bY x28.fX).bind fun x29=>B4 t w_ x6 x29.1 x29.2)
def B5(t:Table)(w_ x2 x3 x4:Int):Option Table:=
 (idx t.aO w_).bind fun x5=>(pK x5).bind fun x6=>(if x6.2.2.Pc == 2 then(if x4 != 0 then(cK x6.2.2 7).bind fun x7=>some ({t with aO:=t.aO.set w_.toNat x7}:Table) else(if x2 == 0 then some ({t with aO:=t.aO.set w_.toNat (⟨x6.2.2.bX,x6.2.2.Batch,x6.2.2.aI,5,x6.2.2.At,x6.2.2.K,x6.2.2.bY,x3,x2,x6.2.2.dB,(⟨0,0,0⟩:gW),false,x6.2.2.Code,x6.2.2.Sub,x6.2.2.Reads,x6.2.2.aB,x6.2.2.dJ,x6.2.2.dF,x6.2.2.aQ,x6.2.2.bA⟩:aE)}:Table) else some ({t with aO:=t.aO.set w_.toNat (⟨x6.2.2.bX,x6.2.2.Batch,x6.2.2.aI,3,x6.2.2.At,x6.2.2.K,x6.2.2.bY,x3,x2,x6.2.2.dB,(⟨0,0,0⟩:gW),false,x6.2.2.Code,x6.2.2.Sub,x6.2.2.Reads,x6.2.2.aB,x6.2.2.dJ,x6.2.2.dF,x6.2.2.aQ,x6.2.2.bA⟩:aE)}:Table))) else(if x6.2.2.Pc == 3 then(H7 t.aC.Mem x6.2.2.H).bind fun x8=>some ({t with aO:=t.aO.set w_.toNat (⟨x6.2.2.bX,x6.2.2.Batch,x6.2.2.aI,4,x6.2.2.At,x6.2.2.K,x6.2.2.bY,x6.2.2.fX,x6.2.2.H,x6.2.2.dB,x8.1,x6.2.2.Found,x6.2.2.Code,x6.2.2.Sub,x6.2.2.Reads,x6.2.2.aB,x6.2.2.dJ,x6.2.2.dF,x6.2.2.aQ,x6.2.2.bA⟩:aE)}:Table) else(if x6.2.2.Pc == 4 then(idx t.aC.aA.cH w_).bind fun x9=>(BY x9).bind fun x10=>(if !x10 then(cK x6.2.2 6).bind fun x11=>some ({t with aO:=t.aO.set w_.toNat x11}:Table) else(if !x6.2.1 then(cK x6.2.2 1).bind fun x12=>some ({t with aO:=t.aO.set w_.toNat x12}:Table) else(iA x6.2.2.Node).bind fun x17=>BZ t w_ (t.aO.set w_.toNat (⟨x6.2.2.bX,x6.2.2.Batch,x6.2.2.aI,3,x6.2.2.At,x6.2.2.K,x6.2.2.bY,x6.2.2.fX,x17,x6.2.2.dB,x6.2.2.Node,x6.2.2.Node.Key == x6.1.Key,x6.2.2.Code,x6.2.2.Sub,x6.2.2.Reads,x6.2.2.aB,x6.2.2.dJ,x6.2.2.dF,x6.2.2.aQ,x6.2.2.bA⟩:aE)))) else(if x4 != 0 then jD t w_ x6 true else jD t w_ x6 (x3 != x6.2.2.fX)))))
def A1(t:Table)(w_:Int):Option Table:=
 (idx t.aO w_).bind fun x1=>(idx t.b8 x1.bY).bind fun x30=>B5 t w_ x30.Head x30.fX x30.gP
def aNL(x5:Int):Option Int:=
 some x5
def EG(x4 x6:Int):Option (Step (Int×Int) Int):=
 some (.next (x6,bE (x4+1)))
def RY(l:List aS)(n:Int):(Int×Int)->Option (Step (Int×Int) Int)
 | (x3,x4)=>(if decide (x4<(((l.take ((if(if(l.length:Int)<n then(l.length:Int) else n)<0 then 0 else(if(l.length:Int)<n then(l.length:Int) else n)).toNat)).drop 0).length:Int)) then(idx ((l.take ((if(if(l.length:Int)<n then(l.length:Int) else n)<0 then 0 else(if(l.length:Int)<n then(l.length:Int) else n)).toNat)).drop 0) x4).bind fun x7=>(if !x7.FR then EG x4 (bE (x3+1)) else EG x4 x3) else some (.stop (x3)))
def aNM:Int->Option Int
 | x5=>aNL x5
def QT(l:List aS)(n:Int):Option Int:=
 need (0<=(if(if(l.length:Int)<n then(l.length:Int) else n)<0 then 0 else(if(l.length:Int)<n then(l.length:Int) else n):Int)/\(if(if(l.length:Int)<n then(l.length:Int) else n)<0 then 0 else(if(l.length:Int)<n then(l.length:Int) else n):Int)<=(l.length:Int)) ((loop (RY l n) (0,0)).bind (aNM))
def yY(x11:Table):Option Table:=
 some x11
def yZ(w_:Int)(x10:Table):Option Table:=
 (idx x10.aO w_).bind fun x12=>(lO 1 16).bind fun x13=>yY ({x10 with aO:=x10.aO.set w_.toNat ({x12 with K:=bE (x12.K+1),Sub:=x13}:aE)}:Table)
def iB(w_:Int)(x6:Bool)(x7:Table):Option Table:=
 (if x6 then(idx x7.aO w_).bind fun x8=>(cK x8 x8.Sub.Code).bind fun x9=>some ({x7 with aO:=x7.aO.set w_.toNat x9}:Table) else(idx x7.aO w_).bind fun x14=>need (x14.dF.length+([x14.Sub.Out]).length<=1073741824)<|yZ w_ ({x7 with aO:=x7.aO.set w_.toNat ({x14 with dF:=x14.dF++([x14.Sub.Out])}:aE)}:Table))
def y5(t:Table)(w_:Int)(x2:Bool):Option Table:=
 (if x2 then(idx t.aO w_).bind fun x3=>some ({t with aO:=t.aO.set w_.toNat ({x3 with Pc:=7,K:=0}:aE)}:Table) else(idx t.aO w_).bind fun x4=>(qA x4.Sub t.aC w_).bind fun x5=>(if !x5.1.cJ then some ({t with aC:=x5.2,aO:=t.aO.set w_.toNat ({x4 with Sub:=x5.1}:aE)}:Table) else(if x5.1.Code != 0 then iB w_ true ({t with aC:=x5.2,aO:=t.aO.set w_.toNat ({x4 with Sub:=x5.1}:aE)}:Table) else(gN x5.1.Out).bind fun x15=>(if !x15 then iB w_ true ({t with aC:=x5.2,aO:=t.aO.set w_.toNat ({x4 with Sub:=x5.1}:aE)}:Table) else iB w_ (decide (6<=(x4.dF.length:Int))) ({t with aC:=x5.2,aO:=t.aO.set w_.toNat ({x4 with Sub:=x5.1}:aE)}:Table)))))
def xU(t:Table)(w_:Int):Option Table:=
 (idx t.aO w_).bind fun x1=>(QT x1.aB (x1.aB.length:Int)).bind fun x16=>y5 t w_ (decide (x16<=x1.K))
def cmp_isNaN_int(x:Int):Option Bool:=
 some (x != x)
def tV(x1:Bool):Option Bool:=
 some x1
def cmp_Less_int(x y:Int):Option Bool:=
 (cmp_isNaN_int x).bind fun x2=>(if x2 then(cmp_isNaN_int y).bind fun x3=>(if !x3 then tV true else tV (decide (x<y))) else tV (decide (x<y)))
def jE(data x5:List Int):Option (List Int):=
 need (x5.length=data.length) (some x5)
def nV(data:List Int)(x4:Int)(x10:List Int):Option (Step ((List Int)×Int) (List Int)):=
 need (x10.length=data.length) (some (.next (x10,bE (x4+1))))
def jF(data:List Int)(x9:Int)(x12:List Int):Option (Step ((List Int)×Int) (List Int)):=
 need (x12.length=data.length) (some (.next (x12,bE (x9 - 1))))
def dR(data x8:List Int)(x9:Int)(x11:Bool):Option (Step ((List Int)×Int) (List Int)):=
 need (x8.length=data.length) ((if x11 then(idx x8 (bE (x9 - 1))).bind fun x13=>(idx x8 x9).bind fun x14=>(idx (x8.set x9.toNat x13) (bE (x9 - 1))).bind fun x15=>jF data x9 ((x8.set x9.toNat x13).set ((bE (x9 - 1)).toNat) x14) else some (.stop (x8))))
def dS(data:List Int)(a_:Int):((List Int)×Int)->Option (Step ((List Int)×Int) (List Int))
 | (x8,x9)=>need (x8.length=data.length) ((if decide (a_<x9) then(idx x8 x9).bind fun x16=>(idx x8 (bE (x9 - 1))).bind fun x17=>(cmp_Less_int x16 x17).bind fun x18=>dR data x8 x9 x18 else dR data x8 x9 false))
def nW(data:List Int)(x4:Int):(List Int)->Option (Step ((List Int)×Int) (List Int))
 | x10=>nV data x4 x10
def cX(data:List Int)(a_ b:Int):((List Int)×Int)->Option (Step ((List Int)×Int) (List Int))
 | (x3,x4)=>need (x3.length=data.length) ((if decide (x4<b) then(loop (dS data a_) (x3,x4)).bind (nW data x4) else some (.stop (x3))))
def jG(data:List Int):(List Int)->Option (List Int)
 | x5=>jE data x5
def iG(data:List Int)(a_ b:Int):Option (List Int):=
 (loop (cX data a_ b) (data,bE (a_+1))).bind (jG data)
def tW(data:List Int)(a_ b limit:Int):Unit->Option (Step Unit (List Int))
 | ()=>(if decide ((bE (b - a_))<=12) then(iG data a_ b).bind fun x1=>some (.stop (x1)) else(if limit == 0 then none else none))
def I4:(List Int)->Option (List Int)
 | r=>some r
def oR(data:List Int)(a_ b limit:Int):Option (List Int):=
 (loop (tW data a_ b limit) ()).bind (I4)
def B6(x5 x6:Int):Option Int:=
 (idx ([0,1,2,2,3,3,3,3,4,4,4,4,4,4,4,4,5,5,5,5,5,5,5,5,5,5,5,5,5,5,5,5,6,6,6,6,6,6,6,6,6,6,6,6,6,6,6,6,6,6,6,6,6,6,6,6,6,6,6,6,6,6,6,6,7,7,7,7,7,7,7,7,7,7,7,7,7,7,7,7,7,7,7,7,7,7,7,7,7,7,7,7,7,7,7,7,7,7,7,7,7,7,7,7,7,7,7,7,7,7,7,7,7,7,7,7,7,7,7,7,7,7,7,7,7,7,7,7,8,8,8,8,8,8,8,8,8,8,8,8,8,8,8,8,8,8,8,8,8,8,8,8,8,8,8,8,8,8,8,8,8,8,8,8,8,8,8,8,8,8,8,8,8,8,8,8,8,8,8,8,8,8,8,8,8,8,8,8,8,8,8,8,8,8,8,8,8,8,8,8,8,8,8,8,8,8,8,8,8,8,8,8,8,8,8,8,8,8,8,8,8,8,8,8,8,8,8,8,8,8,8,8,8,8,8,8,8,8,8,8,8,8,8,8,8,8,8,8,8,8,8,8,8,8,8,8]:List UInt8) ((u8 x5).toNat:Int)).bind fun x7=>some (bE (x6+(x7.toNat:Int)))
def B7(x3 x4:Int):Option Int:=
 (if decide (256<=x3) then B6 (o9 .u64 x3 8) (bE (x4+8)) else B6 x3 x4)
def B8(x1 x2:Int):Option Int:=
 (if decide (65536<=x1) then B7 (o9 .u64 x1 16) (bE (x2+16)) else B7 x1 x2)
def TC(x:Int):Option Int:=
 (if decide (4294967296<=x) then B8 (o9 .u64 x 32) 32 else B8 x 0)
def zW(x:Int):Option Int:=
 (TC x).bind fun x1=>some x1
def A2(x:List Int):Option (List Int):=
 (zW (IntKind.u64.wrap (x.length:Int))).bind fun x1=>(oR x 0 (x.length:Int) x1).bind fun x2=>some x2
def I5(x5:List Int):Option (List Int):=
 (A2 x5).bind fun x6=>(slices_Compact_int x6).bind fun x7=>some x7
def A3(x4:Int)(x8:List Int):Option (Step ((List Int)×Int) (List Int)):=
 some (.next (x8,bE (x4+1)))
def I6(l:List aS):((List Int)×Int)->Option (Step ((List Int)×Int) (List Int))
 | (x3,x4)=>(if decide (x4<(l.length:Int)) then(idx l x4).bind fun x9=>(GC x9.Key).bind fun x10=>(if decide (0<=x10) then need (x3.length+([x10]).length<=1073741824) (A3 x4 (x3++([x10]))) else A3 x4 x3) else some (.stop (x3)))
def TD:(List Int)->Option (List Int)
 | x5=>I5 x5
def KJ(l:List aS):Option (List Int):=
 (loop (I6 l) (([]:List Int),0)).bind (TD)
def pL(x1:Bool):Option Bool:=
 some x1
def vI(s:Seen)(k0:Int)(k1:bY):Option Bool:=
 (if s.bY == k0 then pL (s.fX != k1.fX) else pL false)
def sS(t:Table)(w_:Int)(x3:List bY)(x4:List aE)(x5:aE):Option Table:=
 (idx x4 w_).bind fun x6=>some ({t with b8:=x3,aO:=x4.set w_.toNat ({x6 with Pc:=8,K:=0}:aE),Log:=t.Log++([(⟨2,w_,x5.aI,0,[],[]⟩:lV)])}:Table)
def nX(t:Table)(w_:Int)(x2:(List Int))(x3:List bY)(x4:List aE):Option Table:=
 (idx x4 w_).bind fun x5=>(if decide ((x2.length:Int)<=x5.K) then need (t.Log.length+([(⟨2,w_,x5.aI,0,[],[]⟩:lV)]).length<=1073741824)<|sS t w_ x3 x4 x5 else some ({t with b8:=x3,aO:=x4}:Table))
def nY(t:Table)(w_:Int)(x2:(List Int))(x7:Int)(x12:bY)(x15:List aE):Option Table:=
 (idx x15 w_).bind fun x16=>nX t w_ x2 (t.b8.set x7.toNat ({x12 with gP:=bE (w_+1)}:bY)) (x15.set w_.toNat ({x16 with K:=bE (x16.K+1)}:aE))
def B9(t:Table)(w_:Int)(x2:(List Int))(x7:Int)(x12:bY)(x17:aE):Option Table:=
 nY t w_ x2 x7 x12 (t.aO.set w_.toNat ({x17 with aQ:=x17.aQ++([x7])}:aE))
def iM(t:Table)(w_:Int)(x2:(List Int))(x7:Int)(x9:Bool):Option Table:=
 (if x9 then(idx t.aO w_).bind fun x10=>(cK x10 7).bind fun x11=>some ({t with aO:=t.aO.set w_.toNat x11}:Table) else(idx t.b8 x7).bind fun x12=>(if x12.fX == 1000000 then(idx t.aO w_).bind fun x13=>(cK x13 3).bind fun x14=>some ({t with aO:=t.aO.set w_.toNat x14}:Table) else(idx t.aO w_).bind fun x17=>(kE x17.aQ x7).bind fun x18=>(if !x18 then need (x17.aQ.length+([x7]).length<=1073741824)<|B9 t w_ x2 x7 x12 x17 else nY t w_ x2 x7 x12 t.aO)))
def A4(t:Table)(w_:Int):Option Table:=
 (idx t.aO w_).bind fun x1=>(KJ x1.aB).bind fun x2=>(if decide (x1.K<(x2.length:Int)) then(idx x2 x1.K).bind fun x7=>(idx t.b8 x7).bind fun x8=>(if x8.gP != 0 then iM t w_ x2 x7 true else(fM x1.Reads (fun y0=>vI y0 x7 x8)).bind fun x19=>iM t w_ x2 x7 x19) else nX t w_ x2 t.b8 t.aO)
def fI(t:Table)(w_:Int)(x8:Bool):Option Table:=
 (if x8 then(idx t.aO w_).bind fun x9=>(cK x9 7).bind fun x10=>some ({t with aO:=t.aO.set w_.toNat x10}:Table) else(idx t.aO w_).bind fun x11=>some ({t with aO:=t.aO.set w_.toNat ({x11 with K:=bE (x11.K+1)}:aE)}:Table))
def sU(t:Table)(w_ x4 x5 x6 x7:Int):Option Table:=
 (if x7 != 0 then(if x7 != (bE (w_+1)) then fI t w_ true else fI t w_ (x6 != x4)) else fI t w_ (x6 != x4))
def sV(t:Table)(w_ x3 x4:Int):Option Table:=
 (idx t.b8 x3).bind fun x12=>sU t w_ x4 x12.Head x12.fX x12.gP
def sW(t:Table)(w_:Int)(x1:aE):Option Table:=
 (if decide ((x1.Reads.length:Int)<=x1.K) then(idx t.aO w_).bind fun x2=>some ({t with aO:=t.aO.set w_.toNat ({x2 with Pc:=9,K:=0}:aE)}:Table) else(idx t.aO w_).bind fun x13=>(idx x13.Reads x13.K).bind fun x14=>sV t w_ x14.bY x14.fX)
def qQ(t:Table)(w_:Int):Option Table:=
 (idx t.aO w_).bind fun x1=>sW t w_ x1
def oY(j:aE)(x:aS):Option aE:=
 (if x.FR then some ({j with Pc:=9,K:=bE (j.K+1)}:aE) else some ({j with Pc:=12}:aE))
def zX(m:Mem)(h:Int):Option Int:=
 (wH m h).bind fun x1=>(if !x1 then some 4 else(ED m.Heap (Int.tmod h 32)).bind fun x2=>(if !x2 then some 2 else some 0))
def LU(x4:Int)(x5:Mem):Option (Mem×Int):=
 some (x5,x4)
def U4(x4:Int)(x6:Mem):Option (Mem×Int):=
 LU x4 x6
def EH(m:Mem)(h next_:Int)(x2:Bool)(x3:Mem):Option (Mem×Int):=
 (if x2 then some (x3,1) else(zX m h).bind fun x4=>(if x4 == 0 then(xT m.Heap (Int.tmod h 32)).bind fun x7=>(mL next_ 4).bind fun x8=>(nG x3.Heap.Bytes (bE (x7+6)) x8).bind fun x9=>U4 x4 (⟨(⟨x9,x3.Heap.Class⟩:Heap),x3.aD⟩:Mem) else LU x4 x3))
def NZ(m:Mem)(h next_:Int):Option (Mem×Int):=
 (pB m).bind fun x1=>(BV m).bind fun x10=>(if !x10 then EH m h next_ true x1 else(nE next_).bind fun x11=>EH m h next_ (!x11) x1)
def wN(x1:Bool):Option Bool:=
 some x1
def N0(n:gW):Option Bool:=
 (bP n.Key 0 99).bind fun x2=>(if x2 then(bP n.dO 0 65535).bind fun x3=>(if x3 then(nE n.Next).bind fun x4=>wN x4 else wN false) else wN false)
def I7(x4:Int)(x5:Mem):Option (Mem×Int):=
 some (x5,x4)
def TE(x4:Int)(x6:Mem):Option (Mem×Int):=
 I7 x4 x6
def A5(m:Mem)(h:Int)(n:gW)(x2:Bool)(x3:Mem):Option (Mem×Int):=
 (if x2 then some (x3,1) else(zX m h).bind fun x4=>(if x4 == 0 then(xT m.Heap (Int.tmod h 32)).bind fun x7=>(mL n.Key 2).bind fun x8=>(mL n.dO 4).bind fun x9=>need (x8.length+x9.length<=9223372036854775807)<|(mL n.Next 4).bind fun x10=>need ((x8++x9).length+x10.length<=9223372036854775807)<|(nG x3.Heap.Bytes x7 ((x8++x9)++x10)).bind fun x11=>TE x4 (⟨(⟨x11,x3.Heap.Class⟩:Heap),x3.aD⟩:Mem) else I7 x4 x3))
def KK(m:Mem)(h:Int)(n:gW):Option (Mem×Int):=
 (pB m).bind fun x1=>(BV m).bind fun x12=>(if !x12 then A5 m h n true x1 else(N0 n).bind fun x13=>A5 m h n (!x13) x1)
def CA(t:Table)(j:aE)(b:bY)(x3:Table):Option (Table×aE×bY):=
 some (({x3 with b8:=t.b8,aO:=t.aO}:Table),({j with Pc:=13}:aE),b)
def I8(t:Table)(j:aE)(x:aS)(b:bY):Option (Table×aE×bY):=
 (QT j.aB j.K).bind fun x1=>(if decide ((j.dF.length:Int)<=x1) then(cK j 1).bind fun x2=>some (t,x2,b) else(if j.Pc == 12 then(idx j.dF x1).bind fun x4=>(KK t.aC.Mem x4 ({x with Next:=b.Head}:gW)).bind fun x5=>CA t j b ({t with aC:=(⟨x5.1,t.aC.aA,t.aC.aN,t.aC.qH⟩:aC)}:Table) else(idx j.dF x1).bind fun x6=>some (t,({j with Pc:=9,K:=bE (j.K+1)}:aE),({b with Head:=x6}:bY))))
def y6(t:Table)(x13:List aE):Option Table:=
 some ({t with aO:=x13}:Table)
def mW(w_ x3:Int)(x4:Bool)(x5:Int)(x16:Table):Option Table:=
 (idx x16.aO w_).bind fun x17=>(oY x17 (⟨x3,x4,x5⟩:aS)).bind fun x18=>some ({x16 with aO:=x16.aO.set w_.toNat x18}:Table)
def y7(w_ x3:Int)(x4:Bool)(x5:Int)(x21:Table):Option Table:=
 mW w_ x3 x4 x5 x21
def qR(w_ x3:Int)(x4:Bool)(x5:Int)(x19:Bool)(x20:Table):Option Table:=
 (if x19 then(idx x20.aO w_).bind fun x22=>need (x22.bA.length+([x22.H]).length<=1073741824)<|y7 w_ x3 x4 x5 ({x20 with aO:=x20.aO.set w_.toNat ({x22 with bA:=x22.bA++([x22.H])}:aE)}:Table) else mW w_ x3 x4 x5 x20)
def mX(w_ x3:Int)(x4:Bool)(x5:Int)(x15:Table):Option Table:=
 (idx x15.aO w_).bind fun x23=>(gN x23.H).bind fun x24=>(if x24 then qR w_ x3 x4 x5 (decide ((x23.bA.length:Int)<6)) x15 else qR w_ x3 x4 x5 false x15)
def y8(w_ x3:Int)(x4:Bool)(x5:Int)(x26:Table):Option Table:=
 mX w_ x3 x4 x5 x26
def y9(t:Table)(w_ x3:Int)(x4:Bool)(x5:Int):Option Table:=
 (GC x3).bind fun x6=>(idx t.b8 x6).bind fun x7=>(idx t.aO w_).bind fun x8=>(if x8.Pc == 9 then(if x7.Head == 0 then(oY ({x8 with Pc:=10,H:=x7.Head,dB:=0}:aE) (⟨x3,x4,x5⟩:aS)).bind fun x9=>some ({t with aO:=t.aO.set w_.toNat x9}:Table) else some ({t with aO:=t.aO.set w_.toNat ({x8 with Pc:=10,H:=x7.Head,dB:=0}:aE)}:Table)) else(if x8.Pc == 10 then(H7 t.aC.Mem x8.H).bind fun x10=>(if x10.1.Key == x3 then some ({t with aO:=t.aO.set w_.toNat ({x8 with Pc:=11,Node:=x10.1}:aE)}:Table) else(iA x10.1).bind fun x11=>(if x11 == 0 then(oY ({x8 with Node:=x10.1}:aE) (⟨x3,x4,x5⟩:aS)).bind fun x12=>some ({t with aO:=t.aO.set w_.toNat x12}:Table) else(iA x10.1).bind fun x14=>y6 t (t.aO.set w_.toNat ({x8 with H:=x14,dB:=x8.H,Node:=x10.1}:aE)))) else(if x8.Pc == 11 then(if x8.dB == 0 then(iA x8.Node).bind fun x25=>mX w_ x3 x4 x5 ({t with b8:=t.b8.set x6.toNat ({x7 with Head:=x25}:bY)}:Table) else(iA x8.Node).bind fun x27=>(NZ t.aC.Mem x8.dB x27).bind fun x28=>y8 w_ x3 x4 x5 ({t with aC:=(⟨x28.1,t.aC.aA,t.aC.aN,t.aC.qH⟩:aC)}:Table)) else(I8 t x8 (⟨x3,x4,x5⟩:aS) x7).bind fun x29=>some (⟨x29.1.aC,t.b8.set x6.toNat x29.2.2,t.aO.set w_.toNat x29.2.1,x29.1.dU,x29.1.Log,x29.1.aI⟩:Table))))
def zA(t:Table)(w_:Int)(x1:aE):Option Table:=
 (if decide ((x1.aB.length:Int)<=x1.K) then(idx t.aO w_).bind fun x2=>some ({t with aO:=t.aO.set w_.toNat ({x2 with Pc:=14}:aE)}:Table) else(idx t.aO w_).bind fun x30=>(idx x30.aB x30.K).bind fun x31=>y9 t w_ x31.Key x31.FR x31.dO)
def xV(t:Table)(w_:Int):Option Table:=
 (idx t.aO w_).bind fun x1=>zA t w_ x1
def pM(s:List Int)(i j:Int):Option (List Int):=
 need (0<=(i:Int)/\(i:Int)<=(j:Int)/\(j:Int)<=((s.length:Int):Int)/\((s.length:Int):Int)<=(s.length:Int)) ((if i == j then some s else need (0<=(i:Int)/\(i:Int)<=(s.length:Int)) (need (0<=(j:Int)/\(j:Int)<=(s.length:Int)) (need (i.toNat<=j.toNat) (need (0<=(((((cT s i.toNat (s.drop j.toNat)).take (i.toNat+(s.length - j.toNat))).drop 0).length:Int):Int)/\(((((cT s i.toNat (s.drop j.toNat)).take (i.toNat+(s.length - j.toNat))).drop 0).length:Int):Int)<=((s.length:Int):Int)/\((s.length:Int):Int)<=((cT s i.toNat (s.drop j.toNat)).length:Int)) (some (((cT s i.toNat (s.drop j.toNat)).take (i.toNat+(s.length - j.toNat))).drop 0)))))))
def rO(x1:aE):Option aE:=
 some x1
def lQ(j:aE):Option aE:=
 (if decide (j.K<(j.bA.length:Int)) then(idx j.bA j.K).bind fun x2=>(lO 2 x2).bind fun x3=>rO ({j with Sub:=x3}:aE) else some j)
def lR(t:Table)(w_:Int)(x4:List bY):Option Table:=
 (idx t.aO w_).bind fun x5=>(pM x5.aQ 0 1).bind fun x6=>some ({t with b8:=x4,aO:=t.aO.set w_.toNat ({x5 with aQ:=x6}:aE)}:Table)
def vJ(t:Table)(w_:Int):Option Table:=
 (idx t.aO w_).bind fun x1=>(if decide (0<(x1.aQ.length:Int)) then(idx x1.aQ 0).bind fun x2=>(idx t.b8 x2).bind fun x3=>(if x1.Pc == 14 then lR t w_ (t.b8.set x2.toNat (⟨x3.Head,if 1000000<(bE (x3.fX+1)) then 1000000 else(bE (x3.fX+1)),0⟩:bY)) else lR t w_ (t.b8.set x2.toNat ({x3 with gP:=0}:bY))) else(if x1.Pc == 16 then some ({t with aO:=t.aO.set w_.toNat ({x1 with Pc:=17}:aE)}:Table) else(lQ ({x1 with Pc:=15,K:=0}:aE)).bind fun x7=>some ({t with aO:=t.aO.set w_.toNat x7}:Table)))
def wO(t:Table)(w_:Int)(x1:aE):Option Table:=
 (if decide ((x1.bA.length:Int)<=x1.K) then(idx t.aO w_).bind fun x2=>some ({t with aO:=t.aO.set w_.toNat ({x2 with Pc:=18}:aE)}:Table) else(idx t.aO w_).bind fun x3=>(qA x3.Sub t.aC w_).bind fun x4=>(if x4.1.cJ then(lQ ({x3 with K:=bE (x3.K+1),Sub:=x4.1}:aE)).bind fun x5=>some ({t with aC:=x4.2,aO:=t.aO.set w_.toNat x5}:Table) else some ({t with aC:=x4.2,aO:=t.aO.set w_.toNat ({x3 with Sub:=x4.1}:aE)}:Table)))
def vK(t:Table)(w_:Int):Option Table:=
 (idx t.aO w_).bind fun x1=>wO t w_ x1
def A6(m:Mem)(w_ h:Int)(x1:Bool):Option (Mem×Int):=
 (if x1 then(pB m).bind fun x2=>some (x2,1) else(wH m h).bind fun x3=>(if !x3 then(pB m).bind fun x4=>some (x4,4) else(LR m w_ h).bind fun x5=>some (x5,0)))
def KL(m:Mem)(w_ h:Int):Option (Mem×Int):=
 (BV m).bind fun x6=>(if !x6 then A6 m w_ h true else(g8 w_).bind fun x7=>A6 m w_ h (!x7))
def A7(t:Table)(w_:Int):Option Table:=
 (idx t.aO w_).bind fun x1=>(if(x1.dF.length:Int) == 0 then some ({t with aO:=t.aO.set w_.toNat ({x1 with Pc:=18}:aE)}:Table) else(idx x1.dF 0).bind fun x2=>(pM x1.dF 0 1).bind fun x3=>(D5 t.aC.aN (Int.tmod x2 32)).bind fun x4=>(if !x4 then(KL t.aC.Mem w_ x2).bind fun x5=>some ({t with aC:=(⟨x5.1,t.aC.aA,t.aC.aN,t.aC.qH⟩:aC),aO:=t.aO.set w_.toNat ({x1 with dF:=x3}:aE)}:Table) else some ({t with aO:=t.aO.set w_.toNat ({x1 with dF:=x3}:aE)}:Table)))
def zY(w_:Int)(x1:aA)(x2:Bool):Option (aA×Bool):=
 (if x2 then some (x1,false) else(idx x1.cH w_).bind fun x3=>some ((⟨x1.aG,x1.cH.set w_.toNat (⟨false,0,false,0⟩:vR)⟩:aA),true))
def RZ(c:aA)(w_:Int):Option (aA×Bool):=
 (lM c).bind fun x1=>(pG c).bind fun x4=>(if !x4 then zY w_ x1 true else(g8 w_).bind fun x5=>(if !x5 then zY w_ x1 true else(idx c.cH w_).bind fun x6=>zY w_ x1 (!x6.On)))
def A8(b:aC)(w_:Int):Option (Bool×aC):=
 (RZ b.aA w_).bind fun x1=>some (x1.2,({b with aA:=x1.1}:aC))
def FP(t:Table)(w_:Int)(x1:aE):Option Table:=
 some ({t with aO:=t.aO.set w_.toNat (⟨false,(⟨false,[]⟩:Batch),0,0,0,0,0,0,0,0,(⟨0,0,0⟩:gW),false,0,(⟨0,0,0,0,0,0,0,0,0,false⟩:Sub),[],[],[],[],[],[]⟩:aE),Log:=t.Log++([({x1 with Kind:=3,Who:=w_,aY:=[]}:lV)])}:Table)
def FQ(t:Table)(w_:Int)(x1:aE):Option Table:=
 some ({t with aO:=t.aO.set w_.toNat (⟨false,(⟨false,[]⟩:Batch),0,0,0,0,0,0,0,0,(⟨0,0,0⟩:gW),false,0,(⟨0,0,0,0,0,0,0,0,0,false⟩:Sub),[],[],[],[],[],[]⟩:aE),Log:=t.Log++([(⟨3,w_,x1.aI,x1.Code,[],[]⟩:lV)])}:Table)
def sY(t:Table)(w_:Int):Option Table:=
 (idx t.aO w_).bind fun x1=>(if x1.Code == 0 then need (t.Log.length+([({x1 with Kind:=3,Who:=w_,aY:=[]}:lV)]).length<=1073741824)<|FP t w_ x1 else need (t.Log.length+([(⟨3,w_,x1.aI,x1.Code,[],[]⟩:lV)]).length<=1073741824)<|FQ t w_ x1)
def kZ(t:Table)(w_:Int)(x1:aE)(x14:Bool):Option Table:=
 (if x14 then(vJ t w_).bind fun x15=>some x15 else(if x1.Pc == 15 then(vK t w_).bind fun x16=>some x16 else(if x1.Pc == 17 then(A7 t w_).bind fun x17=>some x17 else(if x1.Pc == 18 then(A8 t.aC w_).bind fun x18=>(idx t.aO w_).bind fun x19=>some ({t with aC:=x18.2,aO:=t.aO.set w_.toNat ({x19 with Pc:=19}:aE)}:Table) else(if x1.Pc == 19 then(sY t w_).bind fun x20=>some x20 else(idx t.aO w_).bind fun x21=>(cK x21 1).bind fun x22=>some ({t with aO:=t.aO.set w_.toNat x22}:Table))))))
def jH(t:Table)(w_:Int)(x1:aE)(x3:Bool):Option Table:=
 (if x3 then(sP t w_).bind fun x4=>some x4 else(if x1.Pc == 1 then(idx t.aO w_).bind fun x5=>(EC x5).bind fun x6=>some ({t with aO:=t.aO.set w_.toNat x6}:Table) else(bP x1.Pc 2 5).bind fun x7=>(if x7 then(A1 t w_).bind fun x8=>some x8 else(if x1.Pc == 6 then(xU t w_).bind fun x9=>some x9 else(if x1.Pc == 7 then(A4 t w_).bind fun x10=>some x10 else(if x1.Pc == 8 then(qQ t w_).bind fun x11=>some x11 else(bP x1.Pc 9 13).bind fun x12=>(if x12 then(xV t w_).bind fun x13=>some x13 else(if x1.Pc == 14 then kZ t w_ x1 true else kZ t w_ x1 (x1.Pc == 16)))))))))
def tX(t:Table)(w_:Int):Option Table:=
 (idx t.aO w_).bind fun x1=>(if !x1.bX then(xN t w_).bind fun x2=>some x2 else(if x1.Pc == 0 then jH t w_ x1 true else(if x1.Pc == 20 then jH t w_ x1 true else jH t w_ x1 (x1.Pc == 21))))
def GD(j:aE):Option Bool:=
 some j.bX
def GF(q:aL):Option Bool:=
 some (decide (0<(q.List.length:Int)))
def EI(x1:Bool):Option Bool:=
 some x1
def EJ(t:Table):Option Bool:=
 (g7 t.aO (fun y0=>GD y0)).bind fun x2=>(if !x2 then(j4 t.dU (fun y0=>GF y0)).bind fun x3=>EI (!x3) else EI false)
def sZ(j:aE):Option Bool:=
 (sB j).bind fun x1=>some (!x1)
def XT(x5:Table):Option Table:=
 some x5
def mY(x3:Int)(x6:Bool)(x7:Table):Option (Step (Int×Table) (Out Table Table)):=
 (if x6 then some (.stop (Out.ret x7)) else(tX x7 (Int.tmod x3 3)).bind fun x8=>some (.next (bE (x3+1),x8)))
def mZ(n:Int)(finish:Bool):(Int×Table)->Option (Step (Int×Table) (Out Table Table))
 | (x3,x4)=>(if decide (x3<n) then(if finish then(EJ x4).bind fun x9=>(if x9 then mY x3 true x4 else(g7 x4.aO (fun y0=>sZ y0)).bind fun x10=>mY x3 x10 x4) else(g7 x4.aO (fun y0=>sZ y0)).bind fun x11=>mY x3 x11 x4) else some (.stop (Out.brk x4)))
def JX:(Out Table Table)->Option Table
 | .brk x5=>XT x5
 | .ret r=>some r
def GG(t:Table)(n:Int)(finish:Bool):Option Table:=
 (loop (mZ n finish) (0,t)).bind (JX)
def zC(x2:Table):Option Table:=
 some x2
def jN(t:Table):Option Table:=
 (DP t).bind fun x1=>(D2 t).bind fun x3=>(if x3 then(GG x1 3000 true).bind fun x4=>zC x4 else zC x1)
def TF(x y:Int):Option (Int×Int):=
 some (IntKind.u64.wrap ((IntKind.u64.wrap ((IntKind.u64.wrap ((o9 .u64 x 32)*(o9 .u64 y 32)))+(o9 .u64 (IntKind.u64.wrap ((IntKind.u64.wrap ((o9 .u64 x 32)*(iI .and .u64 y 4294967295)))+(o9 .u64 (IntKind.u64.wrap ((iI .and .u64 x 4294967295)*(iI .and .u64 y 4294967295))) 32))) 32)))+(o9 .u64 (IntKind.u64.wrap ((iI .and .u64 (IntKind.u64.wrap ((IntKind.u64.wrap ((o9 .u64 x 32)*(iI .and .u64 y 4294967295)))+(o9 .u64 (IntKind.u64.wrap ((iI .and .u64 x 4294967295)*(iI .and .u64 y 4294967295))) 32))) 4294967295)+(IntKind.u64.wrap ((iI .and .u64 x 4294967295)*(o9 .u64 y 32))))) 32)),IntKind.u64.wrap (x*y))
def OX(x y:Int):Option (Int×Int):=
 (TF x y).bind fun x1=>some (x1.1,x1.2)
def U5(x7:List Int):Option (List Int):=
 some x7
def lS:((List Int)×Int)->Option (Step ((List Int)×Int) (List Int))
 | (x5,x6)=>(if decide (x6<(x5.length:Int)) then need (0<=(x6:Int)/\(x6:Int)<=(x5.length:Int)) (need (0<=(x6:Int)/\(x6:Int)<=(x5.length:Int)) (some (.next (cT x5 x6.toNat ((x5.take x6.toNat).drop 0),bE (x6+((min ((x5.take x6.toNat).drop 0).length (x5.length - x6.toNat):Nat):Int)))))) else some (.stop (x5)))
def U6:(List Int)->Option (List Int)
 | x7=>U5 x7
def pN(x:List Int)(x1:Int×Int)(x2:Bool):Option (List Int):=
 (if x2 then none else need (0<=(IntKind.i64.wrap x1.2:Int)/\(IntKind.i64.wrap x1.2:Int)<=4294967296) ((loop (lS) (cT (List.replicate ((IntKind.i64.wrap x1.2).toNat) 0) 0 x,((min x.length ((List.replicate ((IntKind.i64.wrap x1.2).toNat) 0:List Int).length - 0):Nat):Int))).bind (U6)))
def vL(x:List Int)(count:Int):Option (List Int):=
 (if decide (count<0) then none else(OX (IntKind.u64.wrap (x.length:Int)) (IntKind.u64.wrap count)).bind fun x1=>(if decide (0<x1.1) then pN x x1 true else pN x x1 (decide (9223372036854775807<x1.2))))
def TG(x1:List Int):Option Heap:=
 some (⟨List.replicate ((384:Int).toNat) 0,x1⟩:Heap)
def KM:Option Heap:=
 need (0<=(384:Int)/\(384:Int)<=4294967296)<|(vL ([(-1)]) 6).bind fun x2=>TG x2
def QU:Option aD:=
 some (⟨List.replicate ((3:Int).toNat) (⟨[]⟩:aW),List.replicate ((9:Int).toNat) (⟨[]⟩:aW)⟩:aD)
def OY:Option aD:=
 need (0<=(3:Int)/\(3:Int)<=4294967296)<|need (0<=(9:Int)/\(9:Int)<=4294967296)<|QU
def U7:Option Mem:=
 (KM).bind fun x1=>(OY).bind fun x2=>some (⟨x1,x2⟩:Mem)
def OZ:Option aA:=
 need (0<=(3:Int)/\(3:Int)<=4294967296) (some (⟨0,List.replicate ((3:Int).toNat) (⟨false,0,false,0⟩:vR)⟩:aA))
def O0:Option (List bI):=
 need (0<=(3:Int)/\(3:Int)<=4294967296) (some (List.replicate ((3:Int).toNat) (⟨[]⟩:bI)))
def U8:Option (List Int):=
 need (0<=(3:Int)/\(3:Int)<=4294967296) (some (List.replicate ((3:Int).toNat) 0))
def KN:Option aC:=
 (U7).bind fun x1=>(OZ).bind fun x2=>(O0).bind fun x3=>(U8).bind fun x4=>some (⟨x1,x2,x3,x4⟩:aC)
def QV(x2:Table):Option Table:=
 some ({x2 with Log:=[]}:Table)
def HF(todo:List aL):Option Table:=
 (D1 todo).bind fun x1=>(if !x1 then some (⟨(⟨(⟨(⟨[],[]⟩:Heap),(⟨[],[]⟩:aD)⟩:Mem),(⟨0,[]⟩:aA),[],[]⟩:aC),[],[],[],[],0⟩:Table) else(KN).bind fun x3=>need (0<=(2:Int)/\(2:Int)<=4294967296)<|need (0<=(3:Int)/\(3:Int)<=4294967296)<|(v7 todo).bind fun x4=>QV (⟨x3,List.replicate ((2:Int).toNat) (⟨0,0,0⟩:bY),List.replicate ((3:Int).toNat) (⟨false,(⟨false,[]⟩:Batch),0,0,0,0,0,0,0,0,(⟨0,0,0⟩:gW),false,0,(⟨0,0,0,0,0,0,0,0,0,false⟩:Sub),[],[],[],[],[],[]⟩:aE),x4,[],0⟩:Table))
def aA2(x6:Table):Option Table:=
 some x6
def vM(x4:Int)(x7:Table):Option (Step (Int×Table) Table):=
 some (.next (bE (x4+1),x7))
def pO(x:vC):(Int×Table)->Option (Step (Int×Table) Table)
 | (x4,x5)=>(if decide (x4<(((x.j7.take ((if 400<(x.j7.length:Int) then 400 else(x.j7.length:Int)).toNat)).drop 0).length:Int)) then(idx ((x.j7.take ((if 400<(x.j7.length:Int) then 400 else(x.j7.length:Int)).toNat)).drop 0) x4).bind fun x8=>(g8 x8).bind fun x9=>(if x9 then(tX x5 x8).bind fun x10=>vM x4 x10 else vM x4 x5) else some (.stop (x5)))
def aA3:Table->Option Table
 | x6=>aA2 x6
def nZ(x:vC):Option Table:=
 (HF x.dU).bind fun x1=>(if(x1.aO.length:Int) == 0 then some x1 else need (0<=(if 400<(x.j7.length:Int) then 400 else(x.j7.length:Int):Int)/\(if 400<(x.j7.length:Int) then 400 else(x.j7.length:Int):Int)<=(x.j7.length:Int)) ((loop (pO x) (0,x1)).bind (aA3)))
def ZA(x5:List lV):Option (List lV):=
 some x5
def tC(x4:Int)(x6:List lV):Option (Step ((List lV)×Int) (List lV)):=
 some (.next (x6,bE (x4+1)))
def oA(t:Table):((List lV)×Int)->Option (Step ((List lV)×Int) (List lV))
 | (x3,x4)=>(if decide (x4<(t.Log.length:Int)) then(idx t.Log x4).bind fun x7=>(if x7.Kind == 3 then(DD x7).bind fun x8=>need (x3.length+([x8]).length<=1073741824) (tC x4 (x3++([x8]))) else tC x4 x3) else some (.stop (x3)))
def ZB:(List lV)->Option (List lV)
 | x5=>ZA x5
def A9(t:Table):Option (List lV):=
 (loop (oA t) (([]:List lV),0)).bind (ZB)
def aER:Option Int:=
 some (-1)
def BA(x2:Int)(x3:Bool):Option (Step Int (Out Unit Int)):=
 (if x3 then some (.stop (Out.ret x2)) else some (.next (bE (x2+1))))
def TH(l:List lV)(kind serial:Int):Int->Option (Step Int (Out Unit Int))
 | x2=>(if decide (x2<(l.length:Int)) then(idx l x2).bind fun x4=>(if x4.Kind == kind then(idx l x2).bind fun x5=>BA x2 (x5.aI == serial) else BA x2 false) else some (.stop (Out.brk ())))
def aES:(Out Unit Int)->Option Int
 | .brk ()=>aER
 | .ret r=>some r
def KO(l:List lV)(kind serial:Int):Option Int:=
 (loop (TH l kind serial) 0).bind (aES)
def aA4:Option Bool:=
 some true
def mC(t:Table):Int->Option (Step Int (Out Unit Bool))
 | x4=>(if decide (x4<(t.dU.length:Int)) then(idx t.dU x4).bind fun x5=>(if decide (0<(x5.List.length:Int)) then some (.stop (Out.ret false)) else some (.next (bE (x4+1)))) else some (.stop (Out.brk ())))
def N2:(Out Unit Bool)->Option Bool
 | .brk ()=>aA4
 | .ret r=>some r
def aA5(t:Table):Option Bool:=
 (loop (mC t) 0).bind (N2)
def pP(t:Table):Int->Option (Step Int (Out Unit Bool))
 | x2=>(if decide (x2<(t.aO.length:Int)) then(idx t.aO x2).bind fun x6=>(if x6.bX then some (.stop (Out.ret false)) else some (.next (bE (x2+1)))) else some (.stop (Out.brk ())))
def aA6(t:Table):(Out Unit Bool)->Option Bool
 | .brk ()=>aA5 t
 | .ret r=>some r
def EK(t:Table):Option Bool:=
 (loop (pP t) 0).bind (aA6 t)
def aKN(x5:Int):Option Int:=
 some x5
def HH(x4 x6:Int):Option (Step (Int×Int) Int):=
 some (.next (x6,bE (x4+1)))
def HI(x3 x4:Int)(x8:Bool):Option (Step (Int×Int) Int):=
 (if x8 then HH x4 (bE (x3+1)) else HH x4 x3)
def zZ(l:List lV)(code:Int):(Int×Int)->Option (Step (Int×Int) Int)
 | (x3,x4)=>(if decide (x4<(l.length:Int)) then(idx l x4).bind fun x7=>(if x7.Kind == 3 then HI x3 x4 (x7.Code == code) else HI x3 x4 false) else some (.stop (x3)))
def aKO:Int->Option Int
 | x5=>aKN x5
def CB(l:List lV)(code:Int):Option Int:=
 (loop (zZ l code) (0,0)).bind (aKO)
def lT(x20:Bool):Option Bool:=
 some x20
def H8(x8:(List lV))(x13:Int)(x19:Table):Option Bool:=
 (EK x19).bind fun x21=>(if x21 then(if(x8.length:Int) == x13 then(CB x19.Log 0).bind fun x22=>(CB x19.Log 7).bind fun x23=>(CB x19.Log 6).bind fun x24=>(CB x19.Log 3).bind fun x25=>lT ((bE ((bE ((bE (x22+x23))+x24))+x25)) == x13) else lT false) else lT false)
def wP(x17:Int)(x28:Bool)(x29:Table):Option (Step (Int×Table) (Out Table Bool)):=
 (if x28 then some (.stop (Out.ret false)) else some (.next (bE (x17+1),x29)))
def gQ(x17:Int)(x30:Bool)(x31:Table):Option (Step (Int×Table) (Out Table Bool)):=
 wP x17 x30 x31
def lU(x8:(List lV)):(Int×Table)->Option (Step (Int×Table) (Out Table Bool))
 | (x17,x18)=>(if decide (x17<(x8.length:Int)) then(idx x8 x17).bind fun x26=>(KO x18.Log 1 x26.aI).bind fun x27=>(if decide (x27<0) then gQ x17 true x18 else(if x26.Code == 0 then(idx x18.Log x27).bind fun x32=>(if(x26.dJ.length:Int) != (x32.aY.length:Int) then gQ x17 true x18 else(if x26.Code != 0 then gQ x17 ((x26.dJ.length:Int) != 0) x18 else gQ x17 false x18)) else(if x26.Code != 0 then gQ x17 ((x26.dJ.length:Int) != 0) x18 else gQ x17 false x18))) else some (.stop (Out.brk x18)))
def H9(x8:(List lV))(x13:Int):(Out Table Bool)->Option Bool
 | .brk x19=>H8 x8 x13 x19
 | .ret r=>some r
def IA(x8:(List lV))(x13:Int)(x14:Table):Option Bool:=
 (loop (lU x8) (0,x14)).bind (H9 x8 x13)
def jO(x2:vC)(x7:Table):(Int×Int)->Option (Step (Int×Int) (Int×Table))
 | (x11,x12)=>(if decide (x12<3) then(idx x2.dU x12).bind fun x33=>some (.next (bE (x11+(x33.List.length:Int)),bE (x12+1))) else some (.stop ((x11,x7))))
def IB(x8:(List lV)):(Int×Table)->Option Bool
 | (x13,x14)=>IA x8 x13 x14
def EL(code:List UInt8):Option Bool:=
 (aHV code).bind fun x1=>(if x1 then some true else(sH code).bind fun x2=>(NP x2).bind fun x3=>(if !x3 then(nZ x2).bind fun x4=>(jN x4).bind fun x5=>some ((x5.aO.length:Int) == 0) else(nZ x2).bind fun x6=>(jN x6).bind fun x7=>(A9 x7).bind fun x8=>(loop (jO x2 x7) (0,0)).bind (IB x8)))
def TJ:Option Bool:=
 some true
def oZ(x3:Int)(x5:Bool):Option (Step Int (Out Unit Bool)):=
 (if x5 then some (.stop (Out.ret false)) else some (.next (bE (x3+1))))
def tY(c:aA):Int->Option (Step Int (Out Unit Bool))
 | x3=>(if decide (x3<3) then(idx c.cH x3).bind fun x4=>(if !x4.On then(if !(decide (x4=(⟨false,0,false,0⟩:vR))) then oZ x3 true else(dE x4.aG 0 c.aG).bind fun x6=>(if !x6 then oZ x3 true else(dE x4.Seen 0 2).bind fun x7=>oZ x3 (!x7))) else(dE x4.aG 0 c.aG).bind fun x8=>(if !x8 then oZ x3 true else(dE x4.Seen 0 2).bind fun x9=>oZ x3 (!x9))) else some (.stop (Out.brk ())))
def I9:(Out Unit Bool)->Option Bool
 | .brk ()=>TJ
 | .ret r=>some r
def tZ(c:aA)(x1:Bool):Option Bool:=
 (if x1 then some false else(loop (tY c) 0).bind (I9))
def xW(c:aA):Option Bool:=
 (dE c.aG 0 100000).bind fun x10=>(if !x10 then tZ c true else tZ c ((c.cH.length:Int) != 3))
def aH0(x5:Int):Option Int:=
 some x5
def wQ(b:List Int)(at_ width:Int):(Int×Int)->Option (Step (Int×Int) Int)
 | (x3,x4)=>(if decide (x4<width) then(idx b (bE (at_+x4))).bind fun x6=>some (.next (bE ((bE (x3*256))+x6),bE (x4+1))) else some (.stop (x3)))
def aH1:Int->Option Int
 | x5=>aH0 x5
def U9(b:List Int)(at_ width:Int):Option Int:=
 (loop (wQ b at_ width) (0,0)).bind (aH1)
def N3(c:Int):Option Int:=
 (if c == 0 then some 8 else(if c == 1 then some 16 else(if c == 2 then some 40 else some 0)))
def HJ(c:Int):Option Int:=
 (dE c 0 2).bind fun x1=>(if !x1 then some 0 else(N3 c).bind fun x2=>some (bE (4+x2)))
def xX(c:Int):Option Int:=
 (dE c 0 2).bind fun x1=>(if !x1 then some 0 else(HJ c).bind fun x2=>need (x2≠0) (some (bE (Int.tdiv 56 x2))))
def IC(slot:Int):Option Int:=
 (dE slot 0 23).bind fun x1=>(if !x1 then some (-1) else some (bE (Int.tdiv slot 4)))
def EM(slot:Int):Option Int:=
 (dE slot 0 23).bind fun x1=>(if !x1 then some (-1) else some (Int.tmod slot 4))
def O1(slot c:Int)(x1:Bool):Option Int:=
 (if x1 then some (-1) else(IC slot).bind fun x2=>(EM slot).bind fun x3=>(HJ c).bind fun x4=>some (bE ((bE ((bE (x2*64))+8))+(bE (x3*x4)))))
def GH(slot c:Int):Option Int:=
 (IC slot).bind fun x5=>(if decide (x5<0) then O1 slot c true else(EM slot).bind fun x6=>(xX c).bind fun x7=>(dE x6 0 (bE (x7 - 1))).bind fun x8=>O1 slot c (!x8))
def LV(page index:Int)(x1:Bool):Option Int:=
 (if x1 then some (-1) else some (bE ((bE (page*4))+index)))
def N4(page index:Int):Option Int:=
 (dE page 0 5).bind fun x2=>(if !x2 then LV page index true else(dE index 0 3).bind fun x3=>LV page index (!x3))
def aKP:Option Bool:=
 some false
def uO(l:List Int)(x:Int):Int->Option (Step Int (Out Unit Bool))
 | x2=>(if decide (x2<(l.length:Int)) then(idx l x2).bind fun x3=>(if x3 == x then some (.stop (Out.ret true)) else some (.next (bE (x2+1)))) else some (.stop (Out.brk ())))
def aKQ:(Out Unit Bool)->Option Bool
 | .brk ()=>aKP
 | .ret r=>some r
def ZC(l:List Int)(x:Int):Option Bool:=
 (loop (uO l x) 0).bind (aKQ)
def aKR(x10:List Int):Option (List Int):=
 some x10
def z6(l:aD):((List Int)×Int)->Option (Step ((List Int)×Int) (List Int))
 | (x8,x9)=>(if decide (x9<(l.Own.length:Int)) then(idx l.Own x9).bind fun x11=>need (x8.length+x11.aT.length<=1073741824) (some (.next (x8++x11.aT,bE (x9+1)))) else some (.stop (x8)))
def aKS:(List Int)->Option (List Int)
 | x10=>aKR x10
def YF(l:aD)(x5:List Int):Option (List Int):=
 (loop (z6 l) (x5,0)).bind (aKS)
def z7(l:aD):((List Int)×Int)->Option (Step ((List Int)×Int) (List Int))
 | (x3,x4)=>(if decide (x4<(l.Global.length:Int)) then(idx l.Global x4).bind fun x12=>need (x3.length+x12.aT.length<=1073741824) (some (.next (x3++x12.aT,bE (x4+1)))) else some (.stop (x3)))
def YG(l:aD):(List Int)->Option (List Int)
 | x5=>YF l x5
def ZD(l:aD):Option (List Int):=
 (loop (z7 l) (([]:List Int),0)).bind (YG l)
def BC(h:Heap)(x1:Int)(x2:Bool):Option Int:=
 (if x2 then some (-1) else(idx h.Class x1).bind fun x3=>some x3)
def EN(h:Heap)(slot:Int):Option Int:=
 (IC slot).bind fun x1=>(if decide (x1<0) then BC h x1 true else(idx h.Class x1).bind fun x4=>(if decide (x4<0) then BC h x1 true else(idx h.Class x1).bind fun x5=>(EM slot).bind fun x6=>(xX x5).bind fun x7=>BC h x1 (decide (x7<=x6))))
def GI(h:Heap)(slot:Int):Option Int:=
 (EN h slot).bind fun x1=>(GH slot x1).bind fun x2=>(U9 h.Bytes x2 4).bind fun x3=>some x3
def O2(w_ c:Int)(x1:Bool):Option Int:=
 (if x1 then some (-1) else some (bE ((bE (w_*3))+c)))
def R0(w_ c:Int):Option Int:=
 (dE w_ 0 2).bind fun x2=>(if !x2 then O2 w_ c true else(dE c 0 2).bind fun x3=>O2 w_ c (!x3))
def aH2(x5:List eE):Option (List eE):=
 some x5
def wR(l:List bI):((List eE)×Int)->Option (Step ((List eE)×Int) (List eE))
 | (x3,x4)=>(if decide (x4<(l.length:Int)) then(idx l x4).bind fun x6=>need (x3.length+x6.Rows.length<=1073741824) (some (.next (x3++x6.Rows,bE (x4+1)))) else some (.stop (x3)))
def aH3:(List eE)->Option (List eE)
 | x5=>aH2 x5
def VA(l:List bI):Option (List eE):=
 (loop (wR l) (([]:List eE),0)).bind (aH3)
def GJ(x1:Bool):Option Bool:=
 some x1
def uP(h:Int):Option Bool:=
 (dE h 32 223).bind fun x2=>(if x2 then GJ (decide ((Int.tmod h 32)<24)) else GJ false)
def mM(h:Int):Option Int:=
 (uP h).bind fun x1=>(if !x1 then some (-1) else some (Int.tmod h 32))
def VB(l:aD)(slot:Int):Option Bool:=
 (ZD l).bind fun x1=>(ZC x1 slot).bind fun x2=>some x2
def R1(m:Mem)(slot:Int):Option Int:=
 (EN m.Heap slot).bind fun x1=>(if decide (x1<0) then some 0 else(VB m.aD slot).bind fun x2=>(if x2 then some 1 else(GI m.Heap slot).bind fun x3=>(if decide (6<x3) then some 2 else some 3)))
def LW(h:Int):Option Int:=
 (uP h).bind fun x1=>(if !x1 then some 0 else some (bE (Int.tdiv h 32)))
def BD(x1:Bool):Option Bool:=
 some x1
def R3(m:Mem)(h:Int):Option Bool:=
 (uP h).bind fun x2=>(if x2 then(mM h).bind fun x3=>(R1 m x3).bind fun x4=>(if x4 == 3 then(mM h).bind fun x5=>(GI m.Heap x5).bind fun x6=>(LW h).bind fun x7=>BD (x6 == x7) else BD false) else BD false)
def aET:Option Bool:=
 some false
def BE(x3:Int)(x4:Bool):Option (Step Int (Out Unit Bool)):=
 (if x4 then some (.stop (Out.ret true)) else some (.next (bE (x3+1))))
def o4(slot:Int)(x1:(List eE)):Int->Option (Step Int (Out Unit Bool))
 | x3=>(if decide (x3<(x1.length:Int)) then(idx x1 x3).bind fun x5=>(uP x5.Handle).bind fun x6=>(if x6 then(mM x5.Handle).bind fun x7=>BE x3 (x7 == slot) else BE x3 false) else some (.stop (Out.brk ())))
def aEU:(Out Unit Bool)->Option Bool
 | .brk ()=>aET
 | .ret r=>some r
def R4(l:List bI)(slot:Int):Option Bool:=
 (VA l).bind fun x1=>(loop (o4 slot x1) 0).bind (aEU)
def aEV:Option Int:=
 some (-1)
def fY(size:Int):Int->Option (Step Int (Out Unit Int))
 | x2=>(if decide (x2<3) then(N3 x2).bind fun x3=>(dE size 1 x3).bind fun x4=>(if x4 then some (.stop (Out.ret x2)) else some (.next (bE (x2+1)))) else some (.stop (Out.brk ())))
def aEW:(Out Unit Int)->Option Int
 | .brk ()=>aEV
 | .ret r=>some r
def EO(size:Int):Option Int:=
 (loop (fY size) 0).bind (aEW)
def aA7(slot c:Int):Option Int:=
 (GH slot c).bind fun x1=>(if decide (x1<0) then some (-1) else some (bE (x1+4)))
def O3(s:aW)(x1:Int):Option (aW×Int):=
 some ((⟨(s.aT.take ((bE ((s.aT.length:Int) - 1)).toNat)).drop 0⟩:aW),x1)
def tD(s:aW):Option (aW×Int):=
 (if(s.aT.length:Int) == 0 then some (s,(-1)) else need (0<=(bE ((s.aT.length:Int) - 1):Int)/\(bE ((s.aT.length:Int) - 1):Int)<=(s.aT.length:Int)) ((idx s.aT (bE ((s.aT.length:Int) - 1))).bind fun x2=>O3 s x2))
def aEX(x7:List Int):Option (List Int):=
 some x7
def BF(at_:Int):((List Int)×Int×Int)->Option (Step ((List Int)×Int×Int) (List Int))
 | (x4,x5,x6)=>(if decide (0<=x6) then(idx x4 (bE (at_+x6))).bind fun x8=>some (.next (x4.set ((bE (at_+x6)).toNat) (Int.tmod x5 256),bE (Int.tdiv x5 256),bE (x6 - 1))) else some (.stop (x4)))
def aEY:(List Int)->Option (List Int)
 | x7=>aEX x7
def EP(b:List Int)(at_ width n:Int):Option (List Int):=
 (loop (BF at_) (b,n,bE (width - 1))).bind (aEY)
def aEZ(h:Heap):Option (Heap×(List Int)):=
 some (h,([]:List Int))
def JA(x2:Int):Option (Step Int (Out Unit (Heap×(List Int)))):=
 some (.next (bE (x2+1)))
def aE0(h:Heap)(c x2:Int)(x14 x15:List Int):Option (Step Int (Out Unit (Heap×(List Int)))):=
 some (.stop (Out.ret ((⟨x15,h.Class.set x2.toNat c⟩:Heap),x14)))
def TL(x2:Int)(x11:List Int)(x12:Int)(x17:List Int):Option (Step ((List Int)×Int×(List Int)) ((List Int)×(List Int))):=
 (N4 x2 x12).bind fun x18=>need (x11.length+([x18]).length<=1073741824) (some (.next (x11++([x18]),bE (x12+1),x17)))
def BG(c x2:Int):((List Int)×Int×(List Int))->Option (Step ((List Int)×Int×(List Int)) ((List Int)×(List Int)))
 | (x11,x12,x13)=>(xX c).bind fun x16=>(if decide (x12<x16) then(N4 x2 x12).bind fun x19=>(GH x19 c).bind fun x20=>(EP x13 x20 4 1).bind fun x21=>TL x2 x11 x12 x21 else some (.stop ((x11,x13))))
def aE1(h:Heap)(c x2:Int):((List Int)×(List Int))->Option (Step Int (Out Unit (Heap×(List Int))))
 | (x14,x15)=>aE0 h c x2 x14 x15
def fC(h:Heap)(c:Int):Int->Option (Step Int (Out Unit (Heap×(List Int))))
 | x2=>(if decide (x2<6) then(idx h.Class x2).bind fun x3=>(if x3 != (-1) then JA x2 else(idx h.Bytes (bE (x2*64))).bind fun x4=>(idx (h.Bytes.set ((bE (x2*64)).toNat) 171) (bE ((bE (x2*64))+1))).bind fun x5=>(xX c).bind fun x6=>(idx ((h.Bytes.set ((bE (x2*64)).toNat) 171).set ((bE ((bE (x2*64))+1)).toNat) c) (bE ((bE (x2*64))+2))).bind fun x7=>(loop (BG c x2) (([]:List Int),0,((h.Bytes.set ((bE (x2*64)).toNat) 171).set ((bE ((bE (x2*64))+1)).toNat) c).set ((bE ((bE (x2*64))+2)).toNat) x6)).bind (aE1 h c x2)) else some (.stop (Out.brk ())))
def aE2(h:Heap):(Out Unit (Heap×(List Int)))->Option (Heap×(List Int))
 | .brk ()=>aEZ h
 | .ret r=>some r
def tE(h:Heap)(c:Int):Option (Heap×(List Int)):=
 (loop (fC h c) 0).bind (aE2 h)
def JC(m:Mem)(c:Int)(x1:Heap×(List Int))(x2:aW)(x3:Int):Option (Mem×Int):=
 some ((⟨x1.1,(⟨m.aD.Global.set c.toNat (⟨x2.aT++((x1.2.take x1.2.length).drop ((1:Int).toNat))⟩:aW),m.aD.Own⟩:aD)⟩:Mem),x3)
def ER(m:Mem)(c:Int):Option (Mem×Int):=
 (tE m.Heap c).bind fun x1=>(if(x1.2.length:Int) == 0 then some ((⟨x1.1,m.aD⟩:Mem),(-1)) else(idx m.aD.Global c).bind fun x2=>need (0<=(1:Int)/\(1:Int)<=(x1.2.length:Int)) (need (x2.aT.length+((x1.2.take x1.2.length).drop ((1:Int).toNat)).length<=1073741824) ((idx x1.2 0).bind fun x4=>JC m c x1 x2 x4)))
def xY(slot gen:Int)(x1:Bool):Option Int:=
 (if x1 then some 0 else some (bE ((bE (gen*32))+slot)))
def O4(slot gen:Int):Option Int:=
 (dE slot 0 23).bind fun x2=>(if !x2 then xY slot gen true else(dE gen 1 6).bind fun x3=>xY slot gen (!x3))
def z8(m:Mem)(slot:Int):Option Int:=
 (GI m.Heap slot).bind fun x1=>(O4 slot x1).bind fun x2=>some x2
def LX(x2 x3:List aW):Option aD:=
 some (⟨x2,x3⟩:aD)
def VC(x:aD)(slot x1:Int)(x4:aW):Option aD:=
 LX x.Global (x.Own.set x1.toNat (⟨x4.aT++([slot])⟩:aW))
def VD(x:aD)(x5:List aW):Option aD:=
 LX x5 x.Own
def VE(x:aD)(w_ c slot:Int):Option aD:=
 (R0 w_ c).bind fun x1=>(idx x.Own x1).bind fun x4=>(if decide ((x4.aT.length:Int)<2) then need (x4.aT.length+([slot]).length<=1073741824)<|VC x slot x1 x4 else(idx x.Global c).bind fun x6=>need (x6.aT.length+([slot]).length<=1073741824)<|VD x (x.Global.set c.toNat (⟨x6.aT++([slot])⟩:aW)))
def LY(x:Mem)(x3:List Int)(x4 x5:List aW):Option Mem:=
 some (⟨(⟨x3,x.Heap.Class⟩:Heap),(⟨x4,x5⟩:aD)⟩:Mem)
def LZ(x:Mem)(w_ slot x1 x2:Int)(x3:List Int):Option Mem:=
 (if decide ((bE (x2+1))<=6) then(VE x.aD w_ x1 slot).bind fun x6=>LY x x3 x6.Global x6.Own else LY x x3 x.aD.Global x.aD.Own)
def ID(x:Mem)(w_ slot:Int):Option Mem:=
 (EN x.Heap slot).bind fun x1=>(GI x.Heap slot).bind fun x2=>(GH slot x1).bind fun x7=>(EP x.Heap.Bytes x7 4 (bE (x2+1))).bind fun x8=>LZ x w_ slot x1 x2 x8
def xZ(c:aA):Option aA:=
 need (([]:List vR).length+c.cH.length<=1073741824) (some (⟨c.aG,([]:List vR)++c.cH⟩:aA))
def bQ(s:Sub)(code:Int):Option Sub:=
 some ({s with Code:=code,cJ:=true}:Sub)
def R5(b:aC)(s:Sub)(slot pc:Int):Option Sub:=
 (if decide (0<=slot) then(z8 b.Mem slot).bind fun x1=>(bQ ({s with Out:=x1}:Sub) 0).bind fun x2=>some x2 else some ({s with Pc:=pc}:Sub))
def yA(s:Sub)(x3:Int)(x5:Bool)(x6:aC):Option (aC×Sub):=
 (if x5 then(bQ s 3).bind fun x7=>some (x6,x7) else(R5 x6 s x3 (bE (s.Pc+1))).bind fun x8=>some (x6,x8))
def jP(s:Sub)(x3:Int)(x4:aC):Option (aC×Sub):=
 (if decide (x3<0) then yA s x3 (s.Pc == 3) x4 else yA s x3 false x4)
def yC(b:aC)(s:Sub)(x1:Int)(x12:Bool):Option (aC×Sub):=
 (if x12 then(idx b.Mem.aD.Global x1).bind fun x13=>(tD x13).bind fun x14=>jP s x14.2 ({b with Mem:=(⟨b.Mem.Heap,(⟨b.Mem.aD.Global.set x1.toNat x14.1,b.Mem.aD.Own⟩:aD)⟩:Mem)}:aC) else(if s.Pc == 2 then(ER b.Mem x1).bind fun x15=>jP s x15.2 ({b with Mem:=x15.1}:aC) else(bQ s 1).bind fun x16=>some (b,x16)))
def AA(b:aC)(w_:Int)(s:Sub):Option (aC×Sub):=
 (EO s.A).bind fun x1=>(if decide (x1<0) then(bQ s 2).bind fun x2=>some (b,x2) else(if s.Pc == 0 then(R0 w_ x1).bind fun x9=>(idx b.Mem.aD.Own x9).bind fun x10=>(tD x10).bind fun x11=>jP s x11.2 ({b with Mem:=(⟨b.Mem.Heap,(⟨b.Mem.aD.Global,b.Mem.aD.Own.set x9.toNat x11.1⟩:aD)⟩:Mem)}:aC) else(if s.Pc == 1 then yC b s x1 true else yC b s x1 (s.Pc == 3))))
def ES(b:aC)(s:Sub)(x5:List bI):Option (aC×Sub):=
 (bQ s 0).bind fun x6=>some (({b with aN:=x5}:aC),x6)
def vN(b:aC)(w_:Int)(s:Sub)(x3:Bool):Option (aC×Sub):=
 (if x3 then(bQ s 4).bind fun x4=>some (b,x4) else(idx b.aN w_).bind fun x7=>need (x7.Rows.length+([(⟨s.A,s.E⟩:eE)]).length<=1073741824)<|ES b s (b.aN.set w_.toNat (⟨x7.Rows++([(⟨s.A,s.E⟩:eE)])⟩:bI)))
def wS(b:aC)(w_:Int)(s:Sub):Option (aC×Sub):=
 (if s.Pc == 0 then some (b,({s with Pc:=1,E:=b.aA.aG}:Sub)) else(if s.Pc == 1 then(dE s.E 0 b.aA.aG).bind fun x1=>(if !x1 then(bQ s 1).bind fun x2=>some (b,x2) else(R3 b.Mem s.A).bind fun x8=>(if !x8 then vN b w_ s true else(mM s.A).bind fun x9=>(R4 b.aN x9).bind fun x10=>vN b w_ s x10)) else(bQ s 1).bind fun x11=>some (b,x11)))
def rP(w_:Int)(x1:aA)(x3:vR)(x4:Bool):Option (aA×Bool):=
 (if x4 then some (x1,true) else(if x3.Seen == 2 then(idx x1.cH w_).bind fun x5=>some ((⟨x1.aG,x1.cH.set w_.toNat ({x5 with fU:=true,Seen:=0}:vR)⟩:aA),true) else(idx x1.cH w_).bind fun x6=>some ((⟨x1.aG,x1.cH.set w_.toNat ({x6 with Seen:=bE (x3.Seen+1)}:vR)⟩:aA),false)))
def ET(c:aA)(w_ e_:Int)(x1:aA)(x2:Bool):Option (aA×Bool):=
 (if x2 then some (x1,false) else(idx c.cH w_).bind fun x3=>(if !x3.On then rP w_ x1 x3 true else(if x3.fU then rP w_ x1 x3 true else rP w_ x1 x3 (x3.aG == e_))))
def IE(c:aA)(w_ e_:Int):Option (aA×Bool):=
 (xZ c).bind fun x1=>(xW c).bind fun x7=>(if !x7 then ET c w_ e_ x1 true else(dE w_ 0 2).bind fun x8=>ET c w_ e_ x1 (!x8))
def EU(e_:Int)(x1:aA)(x2:Bool):Option (aA×Bool):=
 (if x2 then some (x1,false) else some ((⟨bE (e_+1),x1.cH⟩:aA),true))
def QW(c:aA)(e_:Int):Option (aA×Bool):=
 (xZ c).bind fun x1=>(xW c).bind fun x3=>(if !x3 then EU e_ x1 true else(if c.aG != e_ then EU e_ x1 true else EU e_ x1 (e_ == 100000)))
def tF(b:aC)(s:Sub)(x3:aA×Bool)(x5:Int):Option (aC×Sub):=
 some (({b with aA:=x3.1}:aC),({s with Pc:=x5,B:=bE (s.B+1)}:Sub))
def tG(b:aC)(s:Sub)(x6:aA×Bool)(x7:Int):Option (aC×Sub):=
 (bQ ({s with Out:=x7}:Sub) 0).bind fun x8=>some (({b with aA:=x6.1}:aC),x8)
def uA(b:aC)(s:Sub):Option (aC×Sub):=
 (if s.Pc == 0 then some (b,({s with Pc:=1,E:=b.aA.aG,B:=0}:Sub)) else(if s.Pc == 1 then(dE s.B 0 2).bind fun x1=>(if !x1 then(bQ s 1).bind fun x2=>some (b,x2) else(IE b.aA s.B s.E).bind fun x3=>(if !x3.2 then(bQ s 8).bind fun x4=>some (({b with aA:=x3.1}:aC),x4) else(if(bE (s.B+1)) == 3 then tF b s x3 2 else tF b s x3 s.Pc))) else(if s.Pc == 2 then(QW b.aA s.E).bind fun x6=>(if x6.2 then tG b s x6 1 else tG b s x6 s.Out) else(bQ s 1).bind fun x9=>some (b,x9))))
def KP(x1:Bool):Option Bool:=
 some x1
def K2(r_:eE)(e_:Int):Option Bool:=
 (if decide (2<=e_) then KP (decide (r_.aG<=(bE (e_ - 2)))) else KP false)
def aE3:Option Int:=
 some (-1)
def fE(l:List eE)(e_:Int):Int->Option (Step Int (Out Unit Int))
 | x2=>(if decide (x2<(l.length:Int)) then(idx l x2).bind fun x3=>(K2 x3 e_).bind fun x4=>(if x4 then some (.stop (Out.ret x2)) else some (.next (bE (x2+1)))) else some (.stop (Out.brk ())))
def aE4:(Out Unit Int)->Option Int
 | .brk ()=>aE3
 | .ret r=>some r
def yD(l:List eE)(from_ e_:Int):Option Int:=
 (loop (fE l e_) (if 0<from_ then from_ else 0)).bind (aE4)
def tH(b:aC)(s:Sub)(x8:Int):Option (aC×Sub):=
 some (b,({s with Pc:=x8,B:=bE (s.B+1)}:Sub))
def fN(b:aC)(s:Sub)(x5:Bool):Option (aC×Sub):=
 (if x5 then(bQ s 1).bind fun x6=>some (b,x6) else(idx b.qH s.B).bind fun x7=>(if x7 == s.H then some (b,({s with Pc:=1,Row:=bE (s.Row+1)}:Sub)) else(if(bE (s.B+1)) == 3 then tH b s 3 else tH b s s.Pc)))
def CC(s:Sub)(x14:aC):Option (aC×Sub):=
 some (x14,({s with Pc:=1,Out:=bE (s.Out+1)}:Sub))
def fO(b:aC)(w_:Int)(s:Sub)(x1:bI)(x12:Bool):Option (aC×Sub):=
 (if x12 then(bQ s 1).bind fun x13=>some (b,x13) else need (0<=(s.Row:Int)/\(s.Row:Int)<=(x1.Rows.length:Int)) (need (0<=(bE (s.Row+1):Int)/\(bE (s.Row+1):Int)<=(x1.Rows.length:Int)) (need (s.Row.toNat<=(bE (s.Row+1)).toNat) ((mM s.H).bind fun x15=>(ID b.Mem w_ x15).bind fun x16=>CC s ({b with Mem:=x16,aN:=b.aN.set w_.toNat (⟨((cT x1.Rows s.Row.toNat (x1.Rows.drop ((bE (s.Row+1)).toNat))).take (s.Row.toNat+(x1.Rows.length - ((bE (s.Row+1)).toNat)))).drop 0⟩:bI)}:aC)))))
def uB(b:aC)(w_:Int)(s:Sub):Option (aC×Sub):=
 (idx b.aN w_).bind fun x1=>(if s.Pc == 0 then some (b,({s with Pc:=1,E:=b.aA.aG,Row:=0}:Sub)) else(if s.Pc == 1 then(yD x1.Rows s.Row s.E).bind fun x2=>(if decide (x2<0) then(bQ s 0).bind fun x3=>some (b,x3) else(idx x1.Rows x2).bind fun x4=>some (b,({s with Pc:=2,Row:=x2,B:=0,H:=x4.Handle}:Sub))) else(if s.Pc == 2 then(dE s.B 0 2).bind fun x9=>(if !x9 then fN b s true else(dE s.Row 0 (bE ((x1.Rows.length:Int) - 1))).bind fun x10=>(if !x10 then fN b s true else(idx x1.Rows s.Row).bind fun x11=>fN b s (x11.Handle != s.H))) else(if s.Pc == 3 then(dE s.Row 0 (bE ((x1.Rows.length:Int) - 1))).bind fun x17=>(if !x17 then fO b w_ s x1 true else(idx x1.Rows s.Row).bind fun x18=>(if x18.Handle != s.H then fO b w_ s x1 true else(K2 x18 s.E).bind fun x19=>fO b w_ s x1 (!x19))) else(bQ s 1).bind fun x20=>some (b,x20)))))
def AB(w_ e_:Int)(x1:aA)(x2:Bool):Option (aA×Bool):=
 (if x2 then some (x1,false) else(idx x1.cH w_).bind fun x3=>some ((⟨x1.aG,x1.cH.set w_.toNat (⟨true,e_,false,0⟩:vR)⟩:aA),true))
def L4(c:aA)(w_ e_:Int):Option (aA×Bool):=
 (xZ c).bind fun x1=>(xW c).bind fun x4=>(if !x4 then AB w_ e_ x1 true else(dE w_ 0 2).bind fun x5=>(if !x5 then AB w_ e_ x1 true else(dE e_ 0 c.aG).bind fun x6=>AB w_ e_ x1 (!x6)))
def IF(b:aC)(w_:Int)(s:Sub):Option (aC×Sub):=
 (if s.Pc == 0 then some (b,({s with Pc:=1,E:=b.aA.aG}:Sub)) else(if s.Pc == 1 then(L4 b.aA w_ s.E).bind fun x1=>(if !x1.2 then(bQ s 1).bind fun x2=>some (({b with aA:=x1.1}:aC),x2) else some (({b with aA:=x1.1}:aC),({s with Pc:=2}:Sub))) else(if s.Pc == 2 then(if b.aA.aG == s.E then(bQ s 0).bind fun x3=>some (b,x3) else some (b,({s with Pc:=0}:Sub))) else(bQ s 1).bind fun x4=>some (b,x4))))
def R6(b:aC)(w_:Int)(s:Sub):Option (aC×Sub):=
 (if s.cJ then some (b,s) else(if s.Kind == 1 then(AA b w_ s).bind fun x1=>some (x1.1,x1.2) else(if s.Kind == 2 then(wS b w_ s).bind fun x2=>some (x2.1,x2.2) else(if s.Kind == 3 then(uA b s).bind fun x3=>some (x3.1,x3.2) else(if s.Kind == 4 then(uB b w_ s).bind fun x4=>some (x4.1,x4.2) else(if s.Kind == 5 then(IF b w_ s).bind fun x5=>some (x5.1,x5.2) else(bQ s 1).bind fun x6=>some (b,x6)))))))
def AD(w_:Int)(x1:aA)(x2:Bool):Option (aA×Bool):=
 (if x2 then some (x1,false) else(idx x1.cH w_).bind fun x3=>some ((⟨x1.aG,x1.cH.set w_.toNat (⟨false,0,false,0⟩:vR)⟩:aA),true))
def R7(c:aA)(w_:Int):Option (aA×Bool):=
 (xZ c).bind fun x1=>(xW c).bind fun x4=>(if !x4 then AD w_ x1 true else(dE w_ 0 2).bind fun x5=>(if !x5 then AD w_ x1 true else(idx c.cH w_).bind fun x6=>AD w_ x1 (!x6.On)))
end
end Go.Gv
end
