import Derived.Test.YtfaippimkklgfaaGreatXZB
import Derived.Shelf.Slices.CompactI
import Derived.Shelf.Spec.SlicesInsertGrow
set_option linter.unusedVariables false
set_option linter.unusedSimpArgs false
set_option linter.unusedSectionVars false
set_option linter.constructorNameAsVariable false
set_option linter.unnecessarySimpa false
noncomputable section
namespace Go.Gv
noncomputable section
variable {P:Program} {T:TT} {hT:H3 P T} {n:Nat} {c:Ctx} {B0:Bl} {N:Act->World->Prop} {X:Nat->Act->World->Prop} {Q:Act->World->Prop} {K K':List Fr} {m m':Nat} {e e':SE} {L L' Lv:List Ch} {cf cf' cf1 cf2:wG} {o:Oper}
theorem aS9{α β:Type}{f:α->Option β}:∀{xs ys:List α} {vs:List β},aZ f (xs++ys)=some vs->∃v1 v2,aZ f xs=some v1/\aZ f ys=some v2/\vs=v1++v2
 | [],ys,vs,h=>⟨[],vs,rfl,h,rfl⟩
 | x :: xs, ys, vs, h => by
  simp only[ZY,aZ] at h;split at h
  ·cases h
  ·rename_i h1;split at h
   ·cases h
   ·rename_i h2;cases h;obtain⟨v1,v2,q1,q2,rfl⟩:=aS9 h2;grind[aZ]
theorem aTA{α β:Type}{f:α->Option β}:∀{xs ys:List α} {v1 v2:List β},aZ f xs=some v1->aZ f ys=some v2->aZ f (xs++ys)=some (v1++v2)
 | [],ys,v1,v2,h1,h2=>by cases h1;exact h2
 | x :: xs, ys, v1, v2, h1, h2 => by
  simp only[aZ] at h1;split at h1
  ·cases h1
  ·rename_i g1;split at h1
   ·cases h1
   ·rename_i g2;cases h1;simp[aZ,g1,aTA g2 h2]
theorem bE8{α β:Type}{iR:aJ α}{C:EG α}{sr:β->SV}{g:FuncId}{κ:Ctx}{b1:Nat×Nat}{c1:List SV}{p:α->Option β}(hc:∀args w,(callFunc g args).run P w=.ok (.enter g args) w)(hB:∀w1,eT κ.W κ.w0 w1->nC (cL w1) w1 [b1] [.ro 0 c1])
  (hn:∀{w1 x y},C.sub (R1 w1) w1 x y->VS P (cL w1) g (p x) [C.sv x y,.p 0 0] [b1] [.ro 0 c1] (fun r (_:Unit)=>sr r) (fun _ _=>[])) (hz:∀q,yY 0 (sr q)=true:=by exact fun _=>rfl):ZO P κ C sr g (SH [b1]) p:=
 ⟨hc,fun w1 hk x y hy q hq v hv=>by
  have hv':fS [b1] (C.sv x y)=some v:=by simpa using wH (B:=[]) [b1] hv
  have hl:fS [b1] (.p 0 0)=some (.pointer (some ⟨b1.1,b1.2,none⟩)):=by simp[fS,gV,bT]
  refine Calls.mono ((hn hy _ hq).run (v :: SH [b1]) (by grind[aZ,SH]) (hB w1 hk)) fun en w' ⟨v',h1,y',h2,h3⟩=>⟨v',h1,?_,?_⟩
  ·grind[aO0]
  ·simpa using aB7 (m:=0) h3 rfl⟩
theorem bE9{α β ex:Type}{fo:Option α}{kf:α->Option β}{q:β}{d:Option Nat}{f g:FuncId}{xs xs0:List SV}{M:List Ch}{sv:α->ex->SV}{Lr:α->ex->List Ch}{n1:Nat}{c1:List SV}(jc:Nat)(is:List Nat)
  (hs:cpS (kI T n K cf m e L)=some (o,d,f,xs,cf1,cf2,K',m',e',L')) (hro:L'[jc]?=some (.ro n1 c1)) (hi:aZ (fun i=>L'[i]?) is=some M) (hxl:xs=xs.dropLast ++ [.f g [n1]]) (hx:aZ (rnP [] 0) xs.dropLast=some xs0)
  (hk:(yY.okC 0 c1 && (JS M && (dQ is && is.all fun j=>gC j cf1.yZ)))=true)
  (hc:∀{κ:Ctx},HG c κ L' is->∀{b1:Nat×Nat},(∀w1,eT κ.W κ.w0 w1->nC (cL w1) w1 [b1] [.ro 0 c1])->VS P κ f fo (xs0 ++ [.k (.func (.func g) #[] (SH [b1]).toArray)]) [] M sv Lr)
  (k:∀x,∀y:ex,W (G (.mk P T hT n c B0 N X Q) K' m' (dse d (sv x y) e') (KJ L' is++Lr x y) cf2) q (kf x)) (hn:∀x y,(JS (Lr x y) && yY 0 (sv x y))=true:=by exact fun _ _=>rfl):W (G (.mk P T hT n c B0 N X Q) K m e L cf) q (fo.bind kf):=fun hF=>by
 refine iD (g:=.mk P T hT n c B0 N X Q) (a3R hs ?_);intro fo' args ats ho hd hf ⟨ys,hys,hxs⟩ hdn hE;simp only[C8] at hk hn;obtain⟨hk1,hkM,hka,hkz⟩:=hk;cases hfo:fo with
 | none=>grind
 | some x =>
  rw[hfo] at hF;refine hE ex (fun _=>m') (fun y=>dse d (sv x y) e') (fun y=>KJ L' is++Lr x y) (fun y=>T9 _ hkz) (fun B a w next Q' hm hA hS hnext=>?_) (fun y=>k x y hF);generalize hBB:B0S (.mk P T hT n c B0 N X Q) cf1++B=BB at hm hA hS hnext;obtain⟨⟨R,s1,s2⟩,s0⟩:=hS;have f1:=s1.front is hka;rw[PA hi] at f1;obtain⟨κ,k1,k2,k3,k4,k5,k6,k7⟩:=f1.a9O s0;subst k1;have hHG:HG c κ L' is:=by
   refine⟨fun{α} _ {s d} h=>k4 (C9 [s.v d.length] d) h,fun{α} _ {s d} i hi hj=>?_,fun{α} _ {s d} i hi=>k5 _ (s2 _ (A6 hi))⟩;have:(blank (L'.map (lD BB)) is)[i]?=some (bL [s.v d.length] d):=by rw[aEK (aER hj),JN,hi];rfl
   exact k6 _ (A6 this) (C9 [s.v d.length] d) fun w F h=>aJ.own_rd h
  obtain⟨b,z,vs1,g1,g2,g3⟩:=s2 _ (A6 hro);have hc0:=B9 hk1 g2;rw[List.take_zero] at hc0;have hB:∀w1,eT κ.W κ.w0 w1->nC (cL w1) w1 [(b,z)] [.ro 0 c1]:=fun w1 hkp=>by have h1:=k5 _ g3;have h2:(fAt b z vs1).P κ.S0 w1:=(fAt b z vs1).agree h1 fun b' o' hS=>hkp.cell b' o' (k2 b' o' hS) fun hw=>k3.apart b' o' hw hS;have h3:(fAt b z vs1).P (R1 w1) w1:=(fAt b z vs1).mono h2 fun b' o' hS=>R0 (k2 b' o' hS) hkp.size;have h4:St (cL w1) w1 [] [fAt b z vs1]:=St.enter (by grind);refine⟨⟨[fAt b z vs1],St.more (ch:=K9) h4 (eT.refl _ _) ⟨F0,fun _ _ h=>h,fun _ _ h=>h.elim⟩,fun x hx=>?_⟩,fun _ _ h=>h⟩;simp at hx;subst hx;exact⟨b,z,vs1,by simp,eZ (fun x v h=>by simpa using gL (B:=[]) _ h) hc0,by simp⟩
  obtain⟨hcall,hrun⟩:=hc hHG hB x hfo;obtain⟨vs,h1,h2⟩:=Z3 hA hys;obtain⟨v,h3,h4⟩:=fT hA hf;simp[fS,aZ] at h3;subst h3;have h1':aZ (fS BB) xs=some vs:=by grind[O8]
  have hvs:aZ (fS []) (xs0 ++ [.k (.func (.func g) #[] (SH [(b,z)]).toArray)])=some vs:=by rw[hxl] at h1';obtain⟨va,vb,q1,q2,rfl⟩:=aS9 h1';have q3:=aQO (Bs:=[]) (ps:=[]) (ds:=[]) (pv:=[]) (L:=L') (B:=BB) trivial (fun i=>by simp[blP]) hx q1;simp only[aZ,fS,gV,WV,g1] at q2;cases q2;exact aTA q3 (by simp[aZ,fS,gV,bT,SH];rfl)
  have hst:nC κ κ.w0 [] M:=by
   refine⟨⟨[],?_,fun x hx=>?_⟩,k2⟩
   ·rw[XE (B':=BB) hkM];exact k3
   ·exact XF hkM x hx
  have h5:=hrun vs hvs hst;have h6:=SG (w:=κ.w0) hcall ho h4 h2;unfold Oper.wp;rw[h6 _ a hA.env,Oper.upon_enter];refine Calls.mono h5 fun en w' ⟨v,hv,y,g1,g2⟩=>?_;subst hv;obtain⟨n3,n4⟩:=hn x y;have g3:=wH BB (aO0 n4 g1);rw[aSF] at g3;obtain⟨⟨R',t1,t2⟩,t0⟩:=g2;have t3:St κ w' ((Lr x y).map (lD BB)) R':=by grind[XE]
  have t4:=k7 w' _ R' t3;have t6:nC c w' BB (KJ L' is++Lr x y):=by
   refine⟨⟨R,?_,fun z hz=>?_⟩,s0⟩
   ·rw[A5,IJ];exact t4.rot
   ·rcases jB.1 hz with hz | hz
    ·rcases O9 _ _ hz with hz | hz
     ·grind
     ·subst hz;trivial
    grind[XF]
  rw[hd];cases d with
  | none=>exact hnext y _ _ ⟨[],by grind,by grind[dse,Act.put],by grind⟩
  | some d=>exact hnext y _ _ ⟨[],by grind,by simpa[dse] using hA.of g3 (hA.env.put (by grind[rS,wY]) v),by grind⟩
theorem paW{α β:Type}{p:Prop}[Decidable p]{v:α}{F:Option β}{q:β}{sv:α->SV}{d:Nat}{f:FuncId}{xs:List SV}(hs:kI T n K cf m e L=.call o (some d) f xs cf1 cf2 K' m' e' L')
  (hc:∀{w},HS c w L'->V0 P (cL w) f (need p (some v)) xs sv) (k:p->W (G (.mk P T hT n c B0 N X Q) K' m' ((d,sv v) :: e') L' cf2) q F):W (G (.mk P T hT n c B0 N X Q) K m e L cf) q (need p F):=fun hF=>by
 obtain⟨hp,hF⟩:=kG hF;have h0:need p (some v)=some v:=by simp[need,hp]
 exact cl0 (fo:=need p (some v)) (kf:=fun _=>F) hs (fun h _ hx=>hc h _ hx) (by rw[h0];exact hF) (fun x hx h=>by rw[h0] at hx;cases hx;exact k hp h)
theorem LJ{j:Int}{n:Nat}(h:0<=j/\j<=(n:Int)):0<=j.toNat/\j.toNat<=n:=by omega
end
end Go.Gv
end
noncomputable section
namespace Go.Gv
def EH(l:List Int):List Int:=l.foldl (fun a x=>if a.getLast?=some x then a else a ++ [x]) []
theorem aET(l:List Int)(x:Int):EH (l ++ [x])=if(EH l).getLast?=some x then EH l else EH l ++ [x]:=by unfold EH;rw[List.foldl_append];rfl
theorem aZR:∀(l:List Int),(EH l).getLast?=l.getLast?:=by
 intro l;rcases aSB l with rfl | ⟨l,x,rfl⟩
 ·rfl
 ·rw[aSA,aET];split
  ·rename_i h;rw[h];simp
  ·simp
theorem a7W(l:List Int):(EH l).length<=l.length:=by
 suffices h:∀(l a:List Int),(l.foldl (fun a x=>if a.getLast?=some x then a else a ++ [x]) a).length<=a.length+l.length by have:=h l [];rw[List.length_nil,VJ] at this;exact this
 intro l;induction l with
 | nil=>intro a;simp
 | cons x l ih =>
  intro a;rw[List.foldl_cons];refine tG (ih _) ?_;split
  ·simp
  ·simp;omega
def slices_Compact_int(s:List Int):Option (List Int):=some (EH s)
end Go.Gv
end
noncomputable section
namespace Go.Gv
theorem aYM(l:List Int):Lib.compact l=EH l:=by
 have h:∀m,m<=l.length->Lib.compactUpTo l.toArray m=EH (l.take m):=by
  intro m;induction m with
  | zero=>intro _;rfl
  | succ m ih =>
   intro hm;have hm':m<l.length:=hm;rw[Lib.compactUpTo_succ,ih (by omega),W6 hm',aET,aZR];have e1:l.toArray[m]! = l[m]:=by simp[hm']
   have key:(Lib.keeps l.toArray m=true)↔¬(l.take m).getLast?=some l[m]:=by
    cases m with
    | zero=>simp[Lib.keeps]
    | succ k =>
     have e2:l.toArray[k]! = l[k]:=by grind
     rw[W6 (by omega:k<l.length),List.getLast?_concat];simp only[Lib.keeps,decide_eq_true_eq,e1,Nat.add_sub_cancel,e2];grind
   grind
 have:=h l.length (kX _);rw[List.take_length] at this;exact this
open Go.Sort in
theorem aTB{w:World}{b off q:Nat}{d0 d:Array Int}(h0:Holds (Value.int .i64) w b off d0)(hs:d.size=d0.size):eT (eS b off d.size) w (putRow (Value.int .i64) (Sort.ahead w q) b off d):=by
 have hc:∀b' o,b'<w.heap.size->¬eS b off d.size b' o->(putRow (Value.int .i64) (Sort.ahead w q) b off d).cell? ⟨b',o,none⟩=w.cell? ⟨b',o,none⟩:=fun b' o _ hn=>by
  rw[cell?_putRow_other _ _ _ _ _ _ (by
   by_cases e:b'=b
   ·right;by_cases h1:o<off
    ·grind
    ·right;by_cases h2:o<off+d.size
     ·exact absurd ⟨e,by omega,h2⟩ hn
     grind
   grind)]
  rfl
 refine⟨rfl,rfl,rfl,by simp,fun b' hb hn=>?_,hc,fun b' o _=>by simp,fun b' o h=>?_⟩
 ·show(w.heap.modify b _)[b']? = _;rw[Array.getElem?_modify];split
  ·rename_i e;subst e;have hz:d.size=0:=by
    rcases Nat.eq_zero_or_pos d.size with h | h
    ·exact h
    ·exact absurd ⟨rfl,kX _,by omega⟩ (hn off)
   cases hh:w.heap[b]? with
   | none=>rfl
   | some o =>
    cases o with
    | cells c e fr =>
     simp only[Option.map_some,onCells];have:putCells (Value.int .i64) off d c=c:=by apply Array.ext_getElem?;intro k;simp only[putCells,Array.getElem?_mapIdx,hz];grind
     rw[this]
    | _=>rfl
  ·rfl
 ·by_cases hn:eS b off d.size b' o
  ·obtain⟨rfl,h1,h2⟩:=hn;have:=cell?_putRow (Value.int .i64) (Sort.ahead w q) b' off d0 d h0 hs (o - off) (by omega);grind
  grind[kK]
open Go.Proofs in
theorem bFA{P:Program}{ρ:_}{κ:Ctx}(Ly:Lays2.n20 P ρ)(hcall:∀args w,(callFunc (ρ.f 20) args).run P w=.ok (.enter (ρ.f 20) args) w){s:List Int}{s1:AC}:VS P κ (ρ.f 20) (slices_Compact_int s) [.h s1 s.length] [] [ow s1 s] (fun r (y:AC)=>.h y r.length) (fun r y=>[ow y r]):=fun r hr=>by
 cases hr;refine⟨hcall,fun vs hv hS=>?_⟩;simp[aZ,fS,gV,bT] at hv;subst hv;obtain⟨⟨R,h1,h2⟩,h0⟩:=hS;have h1:St κ κ.w0 [bL [s1.v s.length] s] R:=by grind[lD]
 obtain⟨F,hF⟩:=h1.chunk 0 rfl;have hF:aJ.own κ.w0 [s1.v s.length] s F:=hF;obtain⟨a,cp,he,hl1,hl2,hrest⟩:=(show JQ κ.w0 _ s F from hF);obtain⟨sa,sc⟩:=s1;simp only[AC.v,List.cons.injEq,Value.slice.injEq,and_true,true_and] at he;obtain⟨rfl,rfl⟩:=he;rcases hrest with ⟨rfl,rfl,hno⟩ | ⟨b,off,Fs,rfl,hrow,hel,hdj,hdr,hFF⟩
 ·have hs:s=[]:=AD (by omega);subst hs;refine(Any.slices_Compact_int_empty Ly none 0 κ.w0).mono ?_;rintro e w' ⟨rfl,rfl⟩;exact⟨_,rfl,⟨none,0⟩,by grind[fS,gV,bT,EH],⟨R,by grind[EH],fun x hx=>by simp at hx;subst hx;trivial⟩,h0⟩
 ·have hn:aJ.n Int=1:=rfl;have hH:Sort.Holds (Value.int .i64) κ.w0 b off s.toArray:=fun j hj=>by
   have hj':j<s.length:=by omega
   obtain⟨ec,c1,c2⟩:=hel j hj';have c3:ec=[Value.int .i64 s[j]]:=(show _=_/\_ from c2).1;have:=c1 0 (.int .i64 s[j]) (by rw[c3];rfl);rw[hn,Nat.mul_one,Z2] at this;refine⟨by grind,(hrow (off+j) ⟨rfl,by omega,by grind⟩).2⟩
  have hlen:(Lib.compact s).length<=s.length:=by grind[aYM,a7W]
  refine(Any.slices_Compact_int Ly b off sc s κ.w0 hH (tG hl1 (tG hl2 (by decide))) hl1).mono ?_;rintro e w' ⟨rfl,q,rfl⟩;rw[aYM] at hlen ⊢;have hsz:(EH s++List.replicate (s.length - (EH s).length) 0).toArray.size=s.toArray.size:=by simp;omega
  have hsa:s.toArray.size=s.length:=by simp
  have hK:=aTB (q:=q) hH hsz;refine⟨_,rfl,⟨some ⟨b,off,none⟩,sc⟩,by grind[fS,gV,bT],⟨R,?_,by simp[roF]⟩,h0⟩;have := h1.aB1 (w' := Sort.putRow (Value.int .i64) (Sort.ahead κ.w0 q) b off (EH s ++ List.replicate (s.length - (EH s).length) 0).toArray) (ch' := bL [(⟨some ⟨b, off, none⟩, sc⟩ : AC).v (EH s).length] (EH s)) 0 rfl fun F2 hF2 => by
   have hF2:aJ.own κ.w0 [_] s F2:=hF2;obtain⟨a',cp',he',_,_,hrest'⟩:=(show JQ κ.w0 _ s F2 from hF2);simp only[AC.v,List.cons.injEq,Value.slice.injEq,and_true,true_and] at he';obtain⟨rfl,rfl⟩:=he';rcases hrest' with ⟨h,_⟩ | ⟨b',off',Fs',h,hrow',hel',hdj',hdr',hFF'⟩
   ·cases h
   ·cases h;have hemp:∀i (hi:i<s.length) b' o,¬Fs' i b' o:=fun i hi b' o h=>by obtain⟨ec,_,c2⟩:=hel' i hi;exact(show _/\∀b o,¬Fs' i b o from c2).2 b' o h
    refine⟨eS b off (sc*1),eS b off (EH s++List.replicate (s.length - (EH s).length) 0).toArray.size,hK,fun b' o h=>(hFF' b' o).2 (.inl ?_),?_,fun b' o h=>.inl ((hFF' b' o).2 (.inl h))⟩
    ·obtain⟨h3,h4,h5⟩:=h;exact⟨h3,h4,by grind⟩
    ·refine⟨_,sc,rfl,by omega,hl2,.inr ⟨b,off,fun _=>F0,rfl,fun o ho=>?_,fun i hi=>?_,fun _ _ _ _ _ _ _ h _=>h,fun _ _ _ _ h _=>h,fun b' o=>by simp[F0,hn]⟩⟩
     ·have:=hrow' o ho;exact⟨hK.stay b o this.1,(hK.yZ b o (kK this.1)).trans this.2⟩
     ·refine⟨[.int .i64 (EH s)[i]],fun j v hj=>?_,rfl,fun _ _ h=>h⟩;have hj0:j=0:=by grind
      subst hj0;simp at hj;subst hj;rw[hn,Nat.mul_one,Z2];have:=Sort.cell?_putRow (Value.int .i64) (Sort.ahead κ.w0 q) b off s.toArray (EH s++List.replicate (s.length - (EH s).length) 0).toArray hH hsz i (by omega);grind
  grind[lD]
end Go.Gv
end
noncomputable section
namespace Go.Gv
theorem fkP{P:Program}{α β:Type}{iR:aJ α}{C:EG α}{sr:β->SV}{g:FuncId}{w:World}{Bs:Bl}{L0:List Ch}{xs:List SV}{cap:List Value}{p:α->Option β}(hc:∀args w,(callFunc g args).run P w=.ok (.enter g args) w)(hB:∀w1,eT F0 w w1->nC (cL w1) w1 Bs L0)(hl:aZ (fS Bs) xs=some cap)
  (hn:∀{w1 x y},eT F0 w w1->C.sub (R1 w1) w1 x y->VS P (cL w1) g (p x) (C.sv x y :: xs) Bs L0 (fun r (_:Unit)=>sr r) (fun _ _=>[])) (hz:∀q,yY 0 (sr q)=true:=by exact fun _=>rfl):ZO P (cL w) C sr g cap p:=
 ⟨hc,fun w1 hk x y hy q hq v hv=>by
  have hv':fS Bs (C.sv x y)=some v:=by simpa using wH (B:=[]) Bs hv
  refine Calls.mono ((hn hk hy q hq).run (v :: cap) (by grind[aZ]) (hB w1 hk)) fun en w' ⟨v',h1,y',h2,h3⟩=>⟨v',h1,?_,?_⟩
  ·grind[aO0]
  ·simpa using aB7 (m:=0) h3 rfl⟩
theorem a7X{c:Ctx}{w:World}{B:Bl}{L:List Ch}{n1 n2 n3:Nat}{c1 c3:List SV}{b1 b2:Nat×Nat}(hS:nC c w B L)(h1:Ch.ro n1 c1∈L)(h2:Ch.ro n2 [.p n3 0]∈L)(h3:Ch.ro n3 c3∈L)(o1:yY.okC 0 c1=true)(o3:yY.okC 0 c3=true)(g1:B[n1]?=some b1)(g2:B[n2]?=some b2) :
  ∃b3:Nat×Nat,∀w1,eT F0 w w1->nC (cL w1) w1 [b1,b2,b3] [.ro 0 c1,.ro 1 [.p 2 0],.ro 2 c3]:=by
 obtain⟨⟨R,s1,s2⟩,s0⟩:=hS;obtain⟨p1,z1,v1,e1,m1,f1⟩:=s2 _ h1;obtain⟨p2,z2,v2,e2,m2,f2⟩:=s2 _ h2;obtain⟨p3,z3,v3,e3,m3,f3⟩:=s2 _ h3;rw[g1] at e1;cases e1;rw[g2] at e2;cases e2;simp only[aZ,bT,e3] at m2;cases m2;have q1:=B9 o1 m1;have q3:=B9 o3 m3;rw[List.take_zero] at q1 q3;refine⟨(p3,z3),fun w1 hkp=>?_⟩;have fct:∀f∈R,f.P (R1 w1) w1:=fun f hf=>by obtain⟨i,hi⟩:=aI9 hf;exact a9C (s1.fact i hi) hkp
 refine⟨⟨[fAt p1 z1 v1,fAt p2 z2 [.pointer (some ⟨p3,z3+0,none⟩)],fAt p3 z3 v3],?_,?_⟩,fun _ _ h=>h⟩
 ·have h4:St (cL w1) w1 [] [fAt p1 z1 v1,fAt p2 z2 [.pointer (some ⟨p3,z3+0,none⟩)],fAt p3 z3 v3]:=St.enter (by
   grind)
  have more:∀{M:List Chunk} {R:List Fact},St (cL w1) w1 M R->St (cL w1) w1 (M ++ [K9]) R:=fun h=>St.more (ch:=K9) h (eT.refl _ _) ⟨F0,fun _ _ h=>h,fun _ _ h=>h.elim⟩;exact more (more (more h4))
 ·intro x hx;simp only[mA,VI,or_false] at hx;rcases hx with rfl | rfl | rfl
  ·exact⟨p1,z1,v1,rfl,eZ (fun x v h=>by simpa using gL (B:=[]) [(p1,z1),(p2,z2),(p3,z3)] h) q1,by simp⟩
  ·exact⟨p2,z2,_,rfl,rfl,by simp⟩
  ·exact⟨p3,z3,v3,rfl,eZ (fun x v h=>by simpa using gL (B:=[]) [(p1,z1),(p2,z2),(p3,z3)] h) q3,by simp⟩
noncomputable section
variable {P:Program} {T:TT} {hT:H3 P T} {n:Nat} {c:Ctx} {B0:Bl} {N:Act->World->Prop} {X:Nat->Act->World->Prop} {Q:Act->World->Prop} {K K':List Fr} {m m':Nat} {e e':SE} {L L':List Ch} {cf cf1 cf2:wG} {o:Oper} {Lv:List Ch} {d:Nat}
theorem bFB{α β:Type}{fo:Option α}{kf:α->Option β}{q:β}{f g:FuncId}{xs:List SV}{sv:α->SV}{n1 n2 n3:Nat}{c1 c3:List SV}(is:List Nat)(hs:kI T n K cf m e L=.callp o (some d) f xs cf1 cf2 K' m' e' L')(hk:kl (shr [n3] L') is=[.ro n1 c1,.ro n2 [.p n3 0],.ro n3 c3])(ho:((yY.okC 0 c1 && yY.okC 0 c3) && okA xs.dropLast)=true)(hx:xs=xs.dropLast ++ [.f g [n1,n2]])
  (hc:∀{w},HS c w L'->∀{b1 b2 b3:Nat×Nat},(∀w1,eT F0 w w1->nC (cL w1) w1 [b1,b2,b3] [.ro 0 c1,.ro 1 [.p 2 0],.ro 2 c3])->∀{x},fo=some x->Fn0 P f (cL w) (xs.dropLast ++ [.k (.func (.func g) #[] (SH [b1,b2]).toArray)]) sv x) (hF:fo.bind kf=some q)
  (k:∀x,fo=some x->kf x=some q->G (.mk P T hT n c B0 N X Q) K' m' ((d,sv x) :: e') L' cf2):G (.mk P T hT n c B0 N X Q) K m e L cf:=by
 refine iD (g:=.mk P T hT n c B0 N X Q) ?_;rw[hs];intro fo' args ats ho' hd hf ⟨ys,hys,hxs⟩ hdn hE;rw[C8] at ho;cases hfo:fo with
 | none=>grind
 | some x =>
  rw[hfo] at hF;refine hE Unit (fun _=>m') (fun _=>(d,sv x) :: e') (fun _=>L') (fun _=>by simpa using wI (L:=L') []) (fun B a w next Q' hm hA hS hnext=>?_) (fun _=>k x hfo hF);obtain⟨vs,h1,h2⟩:=Z3 hA hys;obtain⟨v,h3,h4⟩:=fT hA hf;simp[fS,aZ] at h3;subst h3;rw[<-O8,hxs] at h1;rw[hx] at h1;have split:∀{qs:List SV} {b:SV} {vs:List Value} {B:Bl},aZ (fS B) (qs ++ [b])=some vs->∃us v,aZ (fS B) qs=some us/\fS B b=some v/\vs=us ++ [v]:=by
   intro qs;induction qs with
   | nil =>
    grind[aZ]
   | cons a qs ih =>
    intro b vs B h;simp only[ZY,aZ] at h;grind[aZ]
  obtain⟨us,fv,g1,g2,rfl⟩:=split h1;simp only[fS] at g2;split at g2
  ·rename_i cap hcap;cases g2;obtain⟨Bs,b1,b2,b3⟩:=a3F (cs:=[(n1,c1),(n2,[.p n3 0])]) hcap;subst b1;obtain⟨d1,d2,rfl⟩:∃d1 d2,Bs=[d1,d2]:=by
    match Bs,b2 with
    | [d1,d2],_=>simp
   have hmem:∀x∈[Ch.ro n1 c1,.ro n2 [.p n3 0],.ro n3 c3],x∈shr [n3] L':=fun x hx=>aJV (is:=is) (by grind);rw[C8] at ho;obtain⟨q1,y1,y2⟩:=b3 0 n1 c1 rfl;obtain⟨q2,y3,y4⟩:=b3 1 n2 _ rfl;simp at y1 y3;subst y1 y3;obtain⟨d3,hst⟩:=a7X (n3:=n3) (c1:=c1) (c3:=c3) (aQK [n3] [] L' hS) (hmem (.ro n1 c1) (by simp)) (hmem (.ro n2 [.p n3 0]) (by simp)) (hmem (.ro n3 c3) (by simp)) ho.1.1 ho.1.2 y2 y4;obtain⟨hcall,hrun⟩:=hc ⟨_,hS⟩ hst hfo;have join:∀{qs:List SV} {us:List Value} {b:SV} {v:Value},aZ (fS []) qs=some us->fS [] b=some v->aZ (fS []) (qs ++ [b])=some (us ++ [v]):=by
    intro qs;induction qs with
    | nil=>grind[aZ]
    | cons a qs ih =>
     intro us b v h hb;simp only[aZ] at h;split at h
     ·cases h
     ·rename_i u hu;split at h
      ·cases h
      ·rename_i us' hus;cases h;simp[aZ,hu,ih hus hb]
   have h5:=hrun (us ++ [.func (.func g) #[] (SH [d1,d2]).toArray]) (join (aCA ho.2 g1) (by simp[fS,gV,bT,Value.oneCell'])) (aZM w);have h6:=SG (w:=w) hcall ho' h4 h2;unfold Oper.wp;rw[h6 _ a hA.env,Oper.upon_enter];refine Calls.mono h5 fun en w' ⟨v,hv,y,e1,e2⟩=>?_;subst hv;rw[hd];have g3:=wH (B0S (.mk P T hT n c B0 N X Q) cf1++B) e1;exact hnext () _ _ ⟨[],by grind,by simpa using hA.of (by grind) (hA.env.put (by grind[rS,wY]) v),by simpa using hS.after (L2:=[]) rfl e2⟩
  ·cases g2
theorem clP{α β:Type}{fo:Option α}{kf:α->Option β}{q:β}{f g:FuncId}{xs:List SV}{sv:α->SV}{n1 n2 n3:Nat}{c1 c3:List SV}(is:List Nat)(hs:kI T n K cf m e L=.callp o (some d) f xs cf1 cf2 K' m' e' L')(hk:kl (shr [n3] L') is=[.ro n1 c1,.ro n2 [.p n3 0],.ro n3 c3])(ho:((yY.okC 0 c1 && yY.okC 0 c3) && okA xs.dropLast)=true)(hx:xs=xs.dropLast ++ [.f g [n1,n2]])
  (hc:∀{w},HS c w L'->∀{b1 b2 b3:Nat×Nat},(∀w1,eT F0 w w1->nC (cL w1) w1 [b1,b2,b3] [.ro 0 c1,.ro 1 [.p 2 0],.ro 2 c3])->V0 P (cL w) f fo (xs.dropLast ++ [.k (.func (.func g) #[] (SH [b1,b2]).toArray)]) sv)
  (k:∀x,W (G (.mk P T hT n c B0 N X Q) K' m' ((d,sv x) :: e') L' cf2) q (kf x)):W (G (.mk P T hT n c B0 N X Q) K m e L cf) q (fo.bind kf):=fun hF=>
 bFB is hs hk ho hx (fun h _ _ _ h2 _ hx=>hc h h2 _ hx) hF fun x _ h=>k x h
def noD:wG->Bool
 | .d _ _ _ _ _ _=>false
 | .o _ _ _ _ _ _ _=>false
 | _=>true
theorem shS(ns:List Nat){cf':wG}(hs:XC (kI T n K cf m e L)=some (K',cf',m',e',L'))(hf:noD cf'=true)(k:G (.mk P T hT n c B0 N X Q) K' m' e' (shr ns L') cf'):G (.mk P T hT n c B0 N X Q) K m e L cf:=by
 refine go hs (chg (fun _:Unit=>m') (fun _=>e') (fun _=>shr ns L') (fun B a w hm hA hS=>⟨(),[],by grind,by grind,by simpa using aQK ns [] L' hS⟩) (fun _=>?_) (fun _=>k));cases cf' with
 | d _ _ _ _ _ _=>cases hf
 | o _ _ _ _ _ _ _=>cases hf
 | _=>trivial
end
end Go.Gv
end
noncomputable section
namespace Go.Gv
abbrev R2:=Raw×Raw
def prs:List Value->List R2
 | a :: b :: r=>(⟨a⟩,⟨b⟩) :: prs r
 | _=>[]
theorem UB:∀{n:Nat} {cs:List Value},cs.length=n*2->(prs cs).length=n
 | 0, cs, h => by have:cs=[]:=AD (by omega);rw[this];rfl
 | n + 1, cs, h => by
  match cs,h with
  | a :: b :: r,h=>simp only[prs,W5] at *;rw[UB (n:=n) (by omega)]
  | [_],h=>grind
  | [],h=>simp at h
theorem aIW:∀{n:Nat} {cs ds:List Value},cs.length=n*2->prs (cs++ds)=prs cs++prs ds
 | 0, cs, ds, h => by have:cs=[]:=AD (by omega);rw[this];rfl
 | n + 1, cs, ds, h => by
  match cs,h with
  | a :: b :: r,h=>simp only[prs,ZY,W5] at *;rw[aIW (n:=n) (by omega)]
  | [_],h=>grind
  | [],h=>simp at h
theorem aYN{w:World}{a b:Value}(ha:a.oneCell'=true)(hb:b.oneCell'=true):aJ.own w [a,b] ((⟨a⟩,⟨b⟩):R2) F0:=
 ⟨[a],[b],F0,F0,rfl,⟨⟨rfl,ha⟩,fun _ _ h=>h⟩,⟨⟨rfl,hb⟩,fun _ _ h=>h⟩,fun _ _ h=>h.elim,fun _ _=>by simp[F0]⟩
theorem a7Y{w:World}{cs:List Value}{u:R2}{F:cN}(h:aJ.own w cs u F):cs=[u.1.v,u.2.v]/\∀b o,¬F b o:=by obtain⟨c1,c2,F1,F2,e,h1,h2,_,hF⟩:=h;refine⟨by rw[e,h1.1.1,h2.1.1];rfl,fun b o p=>((hF b o).1 p).elim (h1.2 b o) (h2.2 b o)⟩
noncomputable section
variable {α:Type} [aJ α] (hn:aJ.n α=2) {w:World}
include hn
theorem aYO:∀{l:List α} {cs:List Value} {F:cN},dF w cs l F->dF w cs (prs cs) F0
 | [],cs,F,h=>by rw[h.1];exact⟨rfl,fun _ _ h=>h⟩
 | x :: r, cs, F, ⟨c1, c2, F1, F2, e, h1, h2, hd, hF⟩ => by
  have a:=aJ.mB (aJ.own_rd h1);have o:=aJ.rd_one (aJ.own_rd h1);rw[hn] at a
  match c1,a,o with
  | [u, v], _, o =>
   subst e;exact⟨[u,v],c2,F0,F0,rfl,aYN (o u (by simp)) (o v (by simp)),aYO h2,fun _ _ h=>h.elim,fun _ _=>by simp[F0]⟩
theorem aQS{l:List α}{cs:List Value}{F:cN}(h:dF w cs l F):cs.length=l.length*2:=by rw[h.length,hn]
omit hn in
theorem aO1:∀{us:List R2} {cs:List Value} {F:cN},dF w cs us F->us=prs cs/\∀b o,¬F b o
 | [],cs,F,h=>by rw[h.1];exact⟨rfl,h.2⟩
 | u :: r, cs, F, ⟨c1, c2, F1, F2, e, h1, h2, hd, hF⟩ => by obtain⟨e1,f1⟩:=a7Y h1;obtain⟨e2,f2⟩:=aO1 h2;simp_all[prs]
theorem a34{s:Value}{us:List R2}{l:List α}{cs:List Value}{G Fe:cN}(h:aJ.own w [s] us G)(ho:dF w cs l Fe)(hu:us=prs cs)(hd:G.HJ Fe):aJ.own w [s] l (fun b o=>G b o\/Fe b o):=by
 have hcl:=aQS hn ho;have hp:=UB hcl;rw[<-hu] at hp;obtain⟨a,c,e,h1,h2,h3⟩:=nP.1 h;refine nP.2 ⟨a,c,by rw[e,hp],by omega,h2,?_⟩;rcases h3 with ⟨rfl,rfl,k⟩ | ⟨b,off,cc,Ge,rfl,hr,hc,ho',hdj,hFF⟩
 ·have hl:l=[]:=AD (by omega);subst hl;exact .inl ⟨rfl,rfl,fun b o p=>p.elim (k b o) (ho.2 b o)⟩
 ·obtain⟨q1, q2⟩ := aO1 ho';have hcc:cc.length=us.length*2:=ho'.length;have e2:cc=cs:=by
   have hj:∀{n:Nat} {x y:List Value},x.length=n*2->y.length=n*2->prs x=prs y->x=y:=by
    intro n;induction n with
    | zero=>simp
    | succ n ih =>
     intro x y hx hy hxy
     match x,y,hx,hy,hxy with
     | a :: b :: r, a' :: b' :: r', hx, hy, hxy =>
      grind[prs]
     | [],_,hx,_,_=>simp at hx
     | [_],_,hx,_,_=>grind
     | _ :: _ :: _,[],_,hy,_=>simp at hy
     | _ :: _ :: _,[_],_,hy,_=>grind
   grind
  subst e2;have hG:∀b' o,G b' o↔eS b off (c*2) b' o:=fun b' o=>by rw[hFF];exact⟨fun q=>q.elim id fun q=>(q2 b' o q).elim,.inl⟩
  refine .inr ⟨b,off,cc,Fe,rfl,by rw[hn];exact hr,hc,ho,fun b' o p q=>hd b' o ((hG b' o).2 (by grind)) p,fun b' o=>by rw[hG,hn]⟩
def cIn(cs:List Value)(l:List α):Chunk:=⟨fun w F=>dF w cs l F,fun h hk hd=>dF.keep hk h hd,fun h hf=>dF.lt h hf⟩
end
def bDK{α:Type}(l:List α)(i j:Int):Option (List α):=need (0<=i/\i<=j/\j<=(l.length:Int)) (some (l.take i.toNat++l.drop j.toNat))
def zR2:R2:=(⟨.bool false⟩,⟨.slice none 0 0⟩)
theorem bBC{w:World}:aJ.rd F0 w [.bool false,.slice none 0 0] zR2:=⟨[_],[_],rfl,⟨rfl,rfl⟩,⟨rfl,rfl⟩⟩
theorem a7Z{α:Type}{l:List α}{a b:Nat}(hab:a<=b)(hb:b<=l.length):((dC l a (l.drop b)).take (a+(l.length - b))).drop 0=l.take a++l.drop b:=by
 have h1:(l.take a).length=a:=by grind
 have h2:(l.drop b).length=l.length - b:=by simp
 unfold dC;rw[RX,aON (l:=l.drop b) (by omega),<-M4,show a+(l.length - b)=(l.take a++l.drop b).length by grind];grind
theorem aTC{α:Type}{p:Prop}[Decidable p]{k:Option α}(h:p):need p k=k:=aL h
def a35(s:List R2)(i j:Int):Option (List R2):=
 need (0<=(i:Int)/\(i:Int)<=(j:Int)/\(j:Int)<=((s.length:Int):Int)/\((s.length:Int):Int)<=(s.length:Int)) ((if i == j then some s else need (0<=(i:Int)/\(i:Int)<=(s.length:Int)) (need (0<=(j:Int)/\(j:Int)<=(s.length:Int)) (need (i.toNat<=j.toNat) (need (0<=(((((dC s i.toNat (s.drop j.toNat)).take (i.toNat+(s.length - j.toNat))).drop 0).length:Int):Int)/\(((((dC s i.toNat (s.drop j.toNat)).take (i.toNat+(s.length - j.toNat))).drop 0).length:Int):Int)<=((s.length:Int):Int)/\((s.length:Int):Int)<=((dC s i.toNat (s.drop j.toNat)).length:Int)) (some (((dC s i.toNat (s.drop j.toNat)).take (i.toNat+(s.length - j.toNat))).drop 0)))))))
theorem a70{us:List R2}{i j:Int}(h:0<=i/\i<=j/\j<=(us.length:Int)):a35 us i j=some (us.take i.toNat++us.drop j.toNat):=by
 unfold a35;rw[aTC (by omega)];by_cases e:i=j
 ·simp_all
 ·rw[aO (by grind),aTC (by omega),aTC (by omega),aTC (by omega),a7Z (by omega) (by omega),aTC];grind[eY]
end Go.Gv
end
noncomputable section
namespace Go.Gv
theorem a36{α:Type}[aJ α](hn:aJ.n α=2){w:World}{s:Value}{l:List α}{ec:List Value}{F:cN}(hl:ec.length=2)(ho:∀v∈ec,v.oneCell'=true)(h:Sep w [rR s l 0,WU (RW s) (QM (aJ.n α) 0 s) ec] F) :
  ∃c2,c2.length=(l.drop 1).length*2/\l.length=(l.drop 1).length+1/\∀F,Sep w [rR s l 0,WU (RW s) (QM (aJ.n α) 0 s) ec] F->∃G Fe,aJ.own w [s] (prs (ec++c2)) G/\dF w c2 (l.drop 1) Fe/\G.HJ Fe/\∀b o,F b o↔G b o\/Fe b o:=by
 obtain⟨G1,G2,⟨a,c,b,off,c1,c2,F1,F3,e,h1,h2,hk,rfl,hr,k1,k3,o1,o3,d1,d2,d3,hG1⟩,_,_,_⟩:=h;have hc2:=aQS hn o3;have hdl:(l.drop 1).length=l.length - 1:=by simp
 have hdl':(l.drop (0+1)).length=l.length - 1:=by simp
 refine⟨c2,hc2,by omega,fun F h=>?_⟩;obtain⟨G1',G2',⟨a',c',b',off',c1',c2',F1',F3',e',h1',h2',hk',e3,hr',k1',k3',o1',o3',d1',d2',d3',hG1'⟩,hAt,dG,hF⟩:=h;rw[e] at e';cases e';cases e3;have hcc:c2'=c2:=aAY k3' k3 (by grind[aQS]);subst hcc;have hAt:(WU (RW s) (QM (aJ.n α) 0 s) ec).P w G2':=Sep.one.1 hAt;obtain⟨k2,hz,hH⟩:=hAt;subst e;simp only[RW,QM,Nat.zero_mul,Z2,hl] at k2 hz hH;have hF1:∀b o,¬F1' b o:=by have:l.take 0=[]:=rfl;rw[this] at o1';exact o1'.2
 rw[hn] at hr' k3' d3' hG1';have hp:(prs (ec++c2')).length=l.length:=by rw[aIW (n:=1) (by omega),JO,UB (n:=1) (by omega),UB hc2];omega
 have hraw:dF w (ec++c2') (prs (ec++c2')) F0:=by
  match ec,hl,ho with
  | [u,v],_,ho=>exact⟨[u,v],c2',F0,F0,rfl,aYN (ho u (by simp)) (ho v (by simp)),aYO hn o3',fun _ _ h=>h.elim,fun _ _=>by simp[F0]⟩
 refine⟨eS b off (c*2),F3',nP.2 ⟨_,c,by rw[hp],by omega,h2',.inr ⟨b,off,ec++c2',F0,rfl,fun o p=>?_,?_,hraw,fun _ _ h=>h.elim,fun _ _=>?_⟩⟩,o3',fun b o p q=>d3' b o q p,fun b' o=>?_⟩
 ·by_cases q:eS b off 2 b o
  ·refine⟨?_,hz o q⟩;obtain⟨_,q1,q2⟩:=q;have:=k2 (o - off) _ (l9 (by omega));simp_all
  ·exact hr' o p (by omega)
 ·grind[T5]
 ·exact⟨.inl,fun q=>q.elim id fun q=>q.elim⟩
 grind[eS]
theorem aO2{B:Bl}:∀{cs:List SV} {vs:List Value},aZ (bT B) cs=some vs->∀v∈vs,v.oneCell'=true
 | [],vs,h,v,hv=>by cases h;simp at hv
 | x :: r, vs, h, v, hv => by
  simp only[aZ] at h;split at h
  ·cases h
  ·rename_i y hy;split at h
   ·cases h
   ·rename_i ys hys;cases h;rcases mA.1 hv with rfl | hv
    ·exact aJS hy
    ·exact aO2 hys v hv
noncomputable section
variable {P:Program} {T:TT} {hT:H3 P T} {n:Nat} {c:Ctx} {B0:Bl} {N:Act->World->Prop} {X:Nat->Act->World->Prop} {Q:Act->World->Prop} {K K':List Fr} {m m':Nat} {e e':SE} {L L':List Ch} {cf cf' cf1 cf2:wG} {o:Oper} {Lv:List Ch} {d:Nat}
theorem hzR{α:Type}[aJ α](hn:aJ.n α=2){s:AC}{l:List α}{nb n0:Nat}{cs:List SV}(h h2 hv:Nat)(hs:XC (kI T n K cf m e L)=some (K',cf',m',e',L'))(hh:L'[h]?=some (.o (rR (s.v l.length) l 0)))(hb:L'[h2]?=some (.box nb cs))(hw:L'[hv]?=some (wOf α nb s n0 0))(hl:cs.length=2)(ha:dQ [h,h2]=true)(hz:([h,h2].all fun j=>gC j cf'.yZ)=true)
  (k:∀(us:List R2) (c2:List Value),us.length=l.length->us.drop 1=prs c2->l.length=(l.drop 1).length+1->G (.mk P T hT n c B0 N X Q) K' m' e' (KJ L' [h,h2] ++ [ow s us,.o (cIn c2 (l.drop 1))]) cf'):G (.mk P T hT n c B0 N X Q) K m e L cf:=by
 refine go hs (chg (ι:={p:List R2×List Value // p.1.length=l.length/\p.1.drop 1=prs p.2/\l.length=(l.drop 1).length+1}) (fun _=>m') (fun _=>e') (fun p=>KJ L' [h,h2] ++ [ow s p.1.1,.o (cIn p.1.2 (l.drop 1))]) (fun B a w hm hA hS=>?_) (fun _=>T9 _ hz) (fun p=>k p.1.1 p.1.2 p.2.1 p.2.2.1 p.2.2.2));obtain⟨⟨R,s1,s2⟩,s0⟩:=hS;have f1:=s1.front [h,h2] ha;rw[PA (M:=[.o (rR (s.v l.length) l 0),.box nb cs]) (by grind[aZ])] at f1;obtain⟨F,S,hsep,_⟩:=f1.sep;obtain⟨Fa,Fb,hab,_⟩:=Sep.append.1 hsep;have hB:=s2 _ (A6 hw);simp only[roF] at hB;obtain⟨G1,G2,g1,g2,g3,g4⟩:=hab;have g2:(SD B nb cs).P w G2:=Sep.one.1 g2;obtain⟨b,z,vs,q1,q2,q3⟩:=g2;rw[hB] at q1;cases q1;have hlv:vs.length=2:=by grind[mD]
 have e1:RW (s.v n0)=RW (s.v l.length):=a9R s _ _;have e2:QM (aJ.n α) 0 (s.v n0)=QM (aJ.n α) 0 (s.v l.length):=a9S s _ _ _ _;rw[e1,e2] at q3;obtain⟨c2,z1,z2,z3⟩:=a36 hn hlv (aO2 q2) (F:=Fa) ⟨G1,G2,g1,Sep.one.2 q3,g3,g4⟩;have hpl:(prs (vs++c2)).length=l.length:=by rw[aIW (n:=1) (by omega),JO,UB (n:=1) (by omega),UB z1];omega
 have hpd:(prs (vs++c2)).drop 1=prs c2:=by rw[aIW (n:=1) (by omega)];exact List.drop_left' (UB (n:=1) (by omega))
 refine⟨⟨(prs (vs++c2),c2),hpl,hpd,z2⟩,[],by grind,by grind,⟨⟨R,?_,fun x hx=>?_⟩,s0⟩⟩
 ·rw[EJ,A5,IJ];have:=s1.shift [h,h2] ha (A':=[bL [s.v (prs (vs++c2)).length] (prs (vs++c2)),cIn c2 (l.drop 1)]) (fun F hF=>by
   rw[PA (M:=[.o (rR (s.v l.length) l 0),.box nb cs]) (by grind[aZ])] at hF;obtain⟨G1,G2,g1,g2,g3,g4⟩:=hF;have g2:(SD B nb cs).P w G2:=Sep.one.1 g2;obtain⟨b',z',vs',q1',q2',q3'⟩:=g2;rw[hB] at q1';cases q1';rw[q2] at q2';cases q2';rw[e1,e2] at q3';obtain⟨G,Fe,a1,a2,a3,a4⟩:=z3 F ⟨G1,G2,g1,Sep.one.2 q3',g3,g4⟩;rw[hpl];exact⟨G,Fe,a1,Sep.one.2 a2,a3,a4⟩)
  exact this
 ·rw[EJ];rcases jB.1 hx with hx | hx
  ·rcases O9 _ _ hx with hx | hx
   ·grind
   ·subst hx;trivial
  ·simp only[mA,VI,or_false] at hx;rcases hx with rfl | rfl<;>trivial
theorem joR{α:Type}[aJ α](hn:aJ.n α=2){s:AC}{us:List R2}{l:List α}{cs:List Value}(i j:Nat)(hi:L[i]?=some (ow s us))(hj:L[j]?=some (.o (cIn cs l)))(hu:us=prs cs)(ha:dQ [i,j]=true)(hz:([i,j].all fun j=>gC j cf.yZ)=true)(hl:us.length=l.length)
  (k:G (.mk P T hT n c B0 N X Q) K m e (KJ L [i,j] ++ [ow s l]) cf):G (.mk P T hT n c B0 N X Q) K m e L cf:=by
 refine chg (fun _:Unit=>m) (fun _=>e) (fun _=>KJ L [i,j] ++ [ow s l]) (fun B a w hm hA hS=>?_) (fun _=>T9 _ hz) (fun _=>k);obtain⟨⟨R,s1,s2⟩,s0⟩:=hS;refine⟨(),[],by grind,by grind,⟨⟨R,?_,fun x hx=>?_⟩,s0⟩⟩
 ·rw[EJ,A5,IJ];exact s1.shift [i,j] ha (A':=[bL [s.v l.length] l]) (fun F hF=>by
   rw[PA (M:=[ow s us,.o (cIn cs l)]) (by grind[aZ])] at hF;obtain⟨G1,G2,g1,g2,g3,g4⟩:=hF;have g2:dF w cs l G2:=Sep.one.1 g2;have g1:aJ.own w [s.v us.length] us G1:=g1;rw[hl] at g1;have:=a34 hn g1 g2 hu g3;exact Sep.one.2 (by
    have e:F=fun b o=>G1 b o\/G2 b o:=by grind
    rw[e];exact this))
 ·rw[EJ];rcases jB.1 hx with hx | hx
  ·rcases O9 _ _ hx with hx | hx
   ·grind
   ·subst hx;trivial
  ·simp only[mA,VI,or_false] at hx;subst hx;trivial
theorem dlW{α β:Type}[aJ α](hn:aJ.n α=2){f:FuncId}{kf:List α->Option β}{q:β}{s:AC}{l:List α}{us:List R2}{c2:List Value}(i j:Nat)
  (hs:cpS (kI T n K cf m e L)=some (o,some d,f,[.h s l.length,.i .i64 0,.i .i64 1],cf1,cf2,K',m',e',L')) (hi:L'[i]?=some (ow s us)) (hj:(KJ L' [i] ++ [ow s us])[j]?=some (.o (cIn c2 (l.drop 1)))) (hz:gC i cf1.yZ=true) (ha:dQ [L'.length,j]=true) (hz2:([L'.length,j].all fun j=>gC j cf2.yZ)=true)
  (hu:us.length=l.length) (hd:us.drop 1=prs c2) (hl:l.length=(l.drop 1).length+1)
  (H:∀{κ:Ctx} {us:List R2},VS P κ f (a35 us 0 1) [.h s us.length,.i .i64 0,.i .i64 1] [] [ow s us] (fun(r:List R2) (y:AC)=>.h y r.length) (fun r y=>[ow y r]))
  (k:∀y:AC,W (G (.mk P T hT n c B0 N X Q) K' m' ((d,.h y (l.drop 1).length) :: e') (KJ (KJ L' [i] ++ [ow y (us.drop 1)]) [L'.length,j] ++ [ow y (l.drop 1)]) cf2) q (kf (l.drop 1))):W (G (.mk P T hT n c B0 N X Q) K m e L cf) q ((bDK l 0 1).bind kf):=fun hF=>by
 have hlen:(KJ L' [i]).length=L'.length:=by simp[KJ]
 have hdl:∀{x},bDK l 0 1=some x->x=l.drop 1:=fun h=>by obtain⟨_,h⟩:=kG h;grind
 refine cw0 (sv:=fun(r:List α) (y:AC)=>.h y r.length) (Lr:=fun _ y=>[ow y (us.drop 1)]) (M:=[ow s us]) (xs0:=[.h s l.length,.i .i64 0,.i .i64 1]) [i] hs (by simp[aZ,hi]) rfl (by grind[JS,dQ]) (fun _ _=>rfl) (fun{κ} _ {x} hx=>?_) hF (fun x h1 h2 y=>?_)
 ·have hr:a35 us 0 1=some (us.drop 1):=by grind[a70]
  have h:=H (κ:=κ) (us:=us) _ hr;rw[hu] at h;refine⟨h.call,fun vs hvs hst=>Calls.mono (h.run vs hvs hst) fun en w' hE=>?_⟩;grind
 ·obtain rfl:=hdl h1;refine joR hn L'.length j (by grind) ?_ hd ha hz2 (by simp[hu]) (k y h2);have hjl:j<L'.length:=by
   have h3:j<(KJ L' [i] ++ [ow s us]).length:=(A4.1 hj).1;have h4:j≠L'.length:=by intro e;subst e;simp[dQ,gC] at ha
   grind
  grind
end
end Go.Gv
end
noncomputable section
namespace Go.Gv
open Go.Lib Go.Proofs
theorem UC{P:Program}(w:World)(dT sT ty elem:TypeId)(k b o dLen dCap:Nat)(a:Addr)(sLen sCap m:Nat)(cs:List Value)
  (hu:P.underlying dT=some (.slice elem)) (hs:(P.info? elem).map (·.size)=some k) (hm:Nat.min sLen dLen=m) (hn:cs.length=m*k)
  (hsrc:∀j v,cs[j]?=some v->w.cell? (a.add j)=some v) (hc:∀j,j<cs.length->(w.cell? ⟨b,o+j,none⟩).isSome=true) (hf:∀j,j<cs.length->w.frozen? ⟨b,o+j,none⟩=false) (h1:∀v∈cs,v.oneCell'=true) :
  (Builtin.copy_ #[dT,sT] ty #[.slice (some ⟨b,o,none⟩) dLen dCap,.slice (some a) sLen sCap]).run P w=.ok (goInt m) (w.setCells b o cs):=by
 have hl:=run_loadCells_list (P:=P) w a cs hsrc;have hst:=run_storeCells_cells (P:=P) b o cs 0 w (by omega) (by omega) h1;subst hm;cases hq:P.info? elem with
 | none=>grind
 | some i =>
  simp_all[Builtin.copy_,run_underlying,Builtin.lenOf,Builtin.firstCells,sizeOf,typeInfo]
theorem A8(b o0 m:Nat):∀(vs:List Value) (o:Nat) (w:World),o0<=o->o+vs.length<=o0+m->eT (eS b o0 m) w (w.setCells b o vs)
 | [],_,w,_,_=>eT.refl _ _
 | v :: r, o, w, h1, h2 => by simp only[W5] at h2;rw[World.setCells];exact(eT.setCell _ w ⟨b,o,none⟩ v ⟨rfl,h1,by grind⟩ rfl).trans (A8 b o0 m r (o+1) _ (by omega) (by omega)) fun _ _ _ h=>h
theorem aF5{w w1:World}(b:Nat)(hb:w.heap.size<=b){vs:List Value}{o:Nat}(h:eT F0 w w1):eT F0 w (w1.setCells b o vs):=
 h.trans ((A8 b o vs.length vs o w1 (kX _) (kX _)).mono (G:=eS b o vs.length) fun _ _ _ h=>h) (F:=F0) fun b' o' hlt hr=>by obtain⟨rfl,_⟩:=hr;omega
theorem EL{w:World}{b o:Nat}{vs:List Value}(h:∀j,j<vs.length->(w.cell? ⟨b,o+j,none⟩).isSome=true):bG (w.setCells b o vs) b o vs:=fun j v hj=>by grind[World.cell?_setCells_in]
theorem vS{w:World}{b o o':Nat}{vs cs:List Value}(h:bG w b o' cs)(hd:o'+cs.length<=o\/o+vs.length<=o'):bG (w.setCells b o vs) b o' cs:=fun j v hj=>by have hl:=(A4.1 hj).1;rw[World.cell?_setCells_out b vs o w ⟨b,o'+j,none⟩ (fun _ _=>by grind)];exact h j v hj
theorem SJ{w:World}{b o:Nat}{cs ds:List Value}(h:bG w b o cs)(k:bG w b (o+cs.length) ds):bG w b o (cs++ds):=fun j v hj=>by
 by_cases hl:j<cs.length
 ·rw[aSC hl] at hj;exact h j v hj
 ·rw[aOK (by omega)] at hj;have:=k _ v hj;grind
theorem aVY{w:World}{b o n:Nat}{cs:List Value}(h:bG w b o cs):bG w b o (cs.take n):=fun j v hj=>by
 rw[aFZ] at hj;split at hj
 ·exact h j v hj
 ·cases hj
theorem aCE{w:World}{b o n o':Nat}{vs:List Value}(h:Row w b o n)(ho:o<=o'/\o'+vs.length<=o+n):Row (w.setCells b o' vs) b o n:=fun q hq=>by obtain⟨_,h2,h3⟩:=hq;refine⟨Go.Proofs.isSome_setCells b vs o' w (fun j hj=>(h (o'+j) ⟨rfl,by omega,by omega⟩).1) q (h q ⟨rfl,h2,h3⟩).1,?_⟩;rw[World.frozen?_setCells];exact(h q ⟨rfl,h2,h3⟩).2
def bFC(w:World)(k n:Nat)(ad:Option Addr)(c:Nat)(ccs:List Value)(e:Ending)(w':World):Prop:=
 ∃b o c',e=.returned (.slice (some ⟨b,o,none⟩) (n+1) c')/\n+1<=c'/\c'<=maxLen/\bG w' b o ccs/\Row w' b o (c'*k) /\
  ((ad=some ⟨b,o,none⟩/\c'=c/\eT (eS b o (c*k)) w w')\/(w.heap.size<=b/\eT F0 w w'))
def bFD(P:Program)(f k:Nat):Prop:=∀(b off n c i vb:Nat) (cs vs:List Value) (w:World),i<n->n+1<=c->c<=9223372036854775807->vb≠b->cs.length=n*k->vs.length=k ->
  bG w b off cs->(∀j,j<c*k->(w.cell? ⟨b,off+j,none⟩).isSome=true)->(∀j,j<c*k->w.frozen? ⟨b,off+j,none⟩=false) ->
  bG w vb 0 vs->(∀v∈cs,v.oneCell'=true)->(∀v∈vs,v.oneCell'=true) ->
  ∀(tA tB:TypeId) (kA kB:Nat),w.shape? vb=some (tA,kA)->w.shape? b=some (tB,kB)->kB≠0->w.frozen? ⟨vb,0,none⟩=false->w.frozen? ⟨vb,kA,none⟩=false ->
  Calls P f #[.slice (some ⟨b,off,none⟩) n c,.int .i64 i,.slice (some ⟨vb,0,none⟩) 1 1] w fun e w'=>
   e=.returned (.slice (some ⟨b,off,none⟩) (n+1) c)/\w'=(w.drew.setCells b (off+(i+1)*k) (cs.drop (i*k))).setCells b (off+i*k) vs
def bFE(P:Program)(f k:Nat):Prop:=∀(b off n c vb:Nat) (vs:List Value) (w:World),n+1<=c->c<=9223372036854775807->vs.length=k ->
  (∀j,j<c*k->(w.cell? ⟨b,off+j,none⟩).isSome=true)->(∀j,j<c*k->w.frozen? ⟨b,off+j,none⟩=false)->bG w vb 0 vs->(∀v∈vs,v.oneCell'=true) ->
  Calls P f #[.slice (some ⟨b,off,none⟩) n c,.int .i64 n,.slice (some ⟨vb,0,none⟩) 1 1] w fun e w'=>
   e=.returned (.slice (some ⟨b,off,none⟩) (n+1) c)/\w'=w.setCells b (off+n*k) vs
def bFF(P:Program)(f k el:Nat)(z:Value):Prop:=∀(base:Option Addr) (n c vb:Nat) (cs vs:List Value) (w:World),n<=c->c<n+1->n+1<=1073741824->cs.length=n*k->vs.length=k->(base=none->n=0) ->
  (∀a,base=some a->∀j v,cs[j]?=some v->w.cell? (a.add j)=some v)->bG w vb 0 vs->(∀v∈vs,v.oneCell'=true) ->
  Calls P f #[.slice base n c,.int .i64 n,.slice (some ⟨vb,0,none⟩) 1 1] w fun e w'=>
   e=.returned (.slice (some ⟨w.heap.size,0,none⟩) (n+1) (grownCap w (n+1) c el)) /\
   w'=w.drew.alloc (.cells ((cs++vs).toArray++Builtin.zeroCells z.cells (grownCap w (n+1) c el - (n+1))) el)
def bFG(P:Program)(f k el:Nat)(z:Value):Prop:=∀(b off n c i vb:Nat) (cs vs:List Value) (w:World),i<n->n<=c->c<n+1->n+1<=1073741824->cs.length=n*k->vs.length=k ->
  bG w b off cs->bG w vb 0 vs->(∀v∈cs,v.oneCell'=true)->(∀v∈vs,v.oneCell'=true) ->
  Calls P f #[.slice (some ⟨b,off,none⟩) n c,.int .i64 i,.slice (some ⟨vb,0,none⟩) 1 1] w fun e w'=>
   e=.returned (.slice (some ⟨w.heap.size,0,none⟩) (n+1) (grownCap w (n+1) c el)) /\
   w'=(((w.alloc (.cells ((cs.take (i*k)).toArray++Builtin.zeroCells z.cells (n+1 - i)++Builtin.zeroCells z.cells (grownCap w (n+1) c el - (n+1))) el)).drew.setCells w.heap.size (i*k) vs).drew).setCells w.heap.size ((i+1)*k) (cs.drop (i*k))
def bDL(P:Program)(f k:Nat):Prop:=∀(ad:Option Addr) (n c i vb:Nat) (cs vs:List Value) (w:World),i<=n->n<=c->c<=maxLen->n+1<=1073741824->cs.length=n*k->vs.length=k ->
  bG w vb 0 vs->(∀v∈cs,v.oneCell'=true)->(∀v∈vs,v.oneCell'=true)->(∀o,w.frozen? ⟨vb,o,none⟩=false) ->
  ((ad=none/\c=0)\/∃b off,ad=some ⟨b,off,none⟩/\Row w b off (c*k)/\bG w b off cs/\(0<c->vb≠b)) ->
  Calls P f #[.slice ad n c,.int .i64 i,.slice (some ⟨vb,0,none⟩) 1 1] w (bFC w k n ad c (cs.take (i*k)++vs++cs.drop (i*k)))
theorem aTD{w:World}{b o:Nat}(h:(w.cell? ⟨b,o,none⟩).isSome=true):∃t k,w.shape? b=some (t,k)/\k≠0:=by grind[World.cell?,World.shape?]
theorem a71{P:Program}{f k el:Nat}{z:Value}(hk:0<k)(hz:z.cells.size=k)(hS:bFD P f k)(hR:bFE P f k)(hE:bFF P f k el z)(hG:bFG P f k el z):bDL P f k:=by
 intro ad n c i vb cs vs w hi hnc hcm hb hcl hvl hvs h1c h1v hfz hrow;have hgc:n+1<=grownCap w (n+1) c el:=grownCap_ge _ _ _ _;have hgm:grownCap w (n+1) c el<=maxLen:=grownCap_le_maxLen w (n+1) c el (by grind[maxLen]);have hnk:(n+1)*k=n*k+k:=by grind
 by_cases hin:i=n
 ·subst hin;have e1:cs.take (i*k)=cs:=by grind
  have e2:cs.drop (i*k)=[]:=by grind
  rw[e1,e2,EJ];by_cases hroom:i+1<=c
  ·rcases hrow with ⟨_,h0⟩ | ⟨b,off,rfl,hr,hc,_⟩
   ·omega
   have hck:(i+1)*k<=c*k:=uQ _ hroom;refine(hR b off i c vb vs w hroom hcm hvl (fun j hj=>(hr _ ⟨rfl,by omega,by omega⟩).1) (fun j hj=>(hr _ ⟨rfl,by omega,by omega⟩).2) hvs h1v).mono ?_;rintro e w' ⟨rfl,rfl⟩;refine⟨b,off,c,rfl,hroom,hcm,SJ (vS hc (.inl (by omega))) (by rw[hcl];exact EL fun j hj=>(hr _ ⟨rfl,by omega,by omega⟩).1),aCE hr ⟨by omega,by omega⟩,.inl ⟨rfl,rfl,A8 b off _ vs _ w (by omega) (by omega)⟩⟩
  ·refine(hE ad i c vb cs vs w hnc (by omega) hb hcl hvl (fun h=>?_) (fun a ha=>?_) hvs h1v).mono ?_
   ·grind
   ·rcases hrow with ⟨h0,_⟩ | ⟨b,off,h1,hr,hc,_⟩
    ·grind
    ·rw[ha] at h1;cases h1;intro j v hj;rw[Addr.add_lit];exact hc j v hj
   rintro e w' ⟨rfl,rfl⟩;have hsz:((cs++vs).toArray++Builtin.zeroCells z.cells (grownCap w (i+1) c el - (i+1))).size=grownCap w (i+1) c el*k:=by rw[Array.size_append,size_zeroCells,hz,List.size_toArray,JO,hcl,hvl,Nat.sub_mul,hnk];have:(i+1)*k<=grownCap w (i+1) c el*k:=uQ _ hgc;omega
   refine⟨w.heap.size,0,_,rfl,hgc,hgm,fun j v hj=>?_,fun o ho=>⟨?_,World.frozen?_alloc_at (w:=w.drew) _ _ w.heap.size o rfl⟩,.inr ⟨kX _,(eT.drew F0 w).trans (eT.alloc _ _ _) fun _ _ _ h=>h⟩⟩
   ·rw[VJ,World.cell?_alloc_at (w:=w.drew) _ _ w.heap.size j rfl];grind
   ·obtain⟨_,_,h3⟩:=ho;rw[World.cell?_alloc_at (w:=w.drew) _ _ w.heap.size o rfl,Array.getElem?_eq_getElem (by omega)];rfl
 ·have hlt:i<n:=by omega
  have hik:(i+1)*k=i*k+k:=by grind
  have hink:(i+1)*k<=n*k:=uQ _ hlt;have htl:(cs.take (i*k)).length=i*k:=by grind
  have hdl:(cs.drop (i*k)).length=n*k - i*k:=by grind
  rcases hrow with ⟨_,h0⟩ | ⟨b,off,rfl,hr,hc,hne⟩
  ·omega
  have hsv:=aTD (w:=w) (b:=vb) (o:=0) (by rw[show(0:Nat)=0+0 from rfl,hvs 0 _ (l9 (by omega))];rfl);obtain⟨tA,kA,hsa,_⟩:=hsv;by_cases hroom:n+1<=c
  ·have hck:(n+1)*k<=c*k:=uQ _ hroom;obtain⟨tB,kB,hsb,hkB⟩:=aTD (w:=w) (b:=b) (o:=off) (hr off ⟨rfl,by omega,by omega⟩).1;refine(hS b off n c i vb cs vs w hlt hroom hcm (hne (by omega)) hcl hvl hc (fun j hj=>(hr _ ⟨rfl,by omega,by omega⟩).1) (fun j hj=>(hr _ ⟨rfl,by omega,by omega⟩).2) hvs h1c h1v tA tB kA kB hsa hsb hkB (hfz _) (hfz _)).mono ?_;rintro e w' ⟨rfl,rfl⟩;have hc':bG w.drew b off cs:=hc;have hr':Row w.drew b off (c*k):=hr;have hr1:=aCE (o':=off+(i+1)*k) (vs:=cs.drop (i*k)) hr' ⟨by omega,by omega⟩;refine⟨b,off,c,rfl,hroom,hcm,?_,aCE hr1 ⟨by omega,by omega⟩,.inl ⟨rfl,rfl,((eT.drew _ w).trans (A8 b off _ _ _ _ (by omega) (by omega)) fun _ _ _ h=>h).trans (A8 b off _ vs _ _ (by omega) (by omega)) fun _ _ _ h=>h⟩⟩;refine SJ (SJ ?_ ?_) ?_
   ·grind[vS,aVY]
   ·rw[htl];exact EL fun j hj=>(hr1 _ ⟨rfl,by omega,by omega⟩).1
   ·rw[JO,htl,hvl,<-hik];exact vS (EL fun j hj=>(hr' _ ⟨rfl,by omega,by omega⟩).1) (.inr (by omega))
  ·refine(hG b off n c i vb cs vs w hlt hnc (by omega) hb hcl hvl hc hvs h1c h1v).mono ?_;rintro e w' ⟨rfl,rfl⟩;obtain⟨ROW,hROW⟩:∃ROW:Array Value,ROW=(cs.take (i*k)).toArray++Builtin.zeroCells z.cells (n+1 - i)++Builtin.zeroCells z.cells (grownCap w (n+1) c el - (n+1)):=⟨_,rfl⟩;rw[<-hROW];have hsz:ROW.size=grownCap w (n+1) c el*k:=by rw[hROW,Array.size_append,Array.size_append,size_zeroCells,size_zeroCells,hz,List.size_toArray,htl,<-o9,<-o9];grind
   have hgk:(n+1)*k<=grownCap w (n+1) c el*k:=uQ _ hgc;have hcN:∀j,(w.alloc (.cells ROW el)).cell? ⟨w.heap.size,j,none⟩=ROW[j]?:=fun j=>World.cell?_alloc_at (w:=w) ROW _ w.heap.size j rfl;have hr0:Row (w.alloc (.cells ROW el)).drew w.heap.size 0 (grownCap w (n+1) c el*k):=fun o ho=>by obtain⟨_,_,h3⟩:=ho;simp_all
   have hc0:bG (w.alloc (.cells ROW el)).drew w.heap.size 0 (cs.take (i*k)):=fun j v hj=>by show(w.alloc (.cells ROW el)).cell? _=_;grind
   have hr1:=aCE (o':=i*k) (vs:=vs) hr0 ⟨by omega,by omega⟩;have hr1':Row ((w.alloc (.cells ROW el)).drew.setCells w.heap.size (i*k) vs).drew w.heap.size 0 (grownCap w (n+1) c el*k):=hr1;refine⟨w.heap.size,0,_,rfl,hgc,hgm,?_,aCE hr1' ⟨by omega,by omega⟩,.inr ⟨kX _,aF5 _ (kX _) ((aF5 _ (kX _) ((eT.alloc _ _ _).trans (eT.drew _ _) fun _ _ _ h=>h)).trans (eT.drew _ _) fun _ _ _ h=>h)⟩⟩;refine SJ (SJ ?_ ?_) ?_
   ·exact vS (show bG _ _ _ _ from vS hc0 (.inl (by omega))) (.inl (by omega))
   ·rw[htl,VJ];refine vS (show bG _ _ _ _ from EL fun j hj=>?_) (.inl (by omega))
    (simp_all;omega)
   ·rw[JO,htl,hvl,<-hik,VJ];exact EL fun j hj=>(hr1' _ ⟨rfl,by omega,by omega⟩).1
def bBD{α:Type}[aJ α](s:AC)(x:α):Chunk where
 P w F:=∃b cs,s=⟨some ⟨b,0,none⟩,1⟩/\b<w.heap.size/\(∀o,w.frozen? ⟨b,o,none⟩=false)/\bG w b 0 cs/\(∀w,aJ.own w cs x F0)/\∀b' o,F b' o↔b'=b
 keep:=fun⟨b,cs,h1,h2,h3,h4,h5,h6⟩ hk hd=>⟨b,cs,h1,R0 h2 hk.size,fun o=>(hk.yZ b o h2).trans (h3 o),fun j v hj=>(hk.cell b _ h2 fun hg=>hd b _ ((h6 b _).2 rfl) hg).trans (h4 j v hj),h5,h6⟩
 lt:=fun⟨b,cs,h1,h2,h3,h4,h5,h6⟩ hF=>by grind
def cLs{α:Type}[aJ α](s:AC)(v:List α):Chunk where
 P w F:=∃x,v=[x]/\(bBD s x).P w F
 keep:=fun⟨x,h1,h2⟩ hk hd=>⟨x,h1,(bBD s x).keep h2 hk hd⟩
 lt:=fun⟨x,_,h2⟩ hF=>(bBD s x).lt h2 hF
def bDM{α:Type}(l:List α)(i:Int)(v:List α):Option (List α):=need (0<=i/\i<=(l.length:Int)/\l.length+v.length<=1073741824) (some (l.take i.toNat++v++l.drop i.toNat))
theorem a37{α:Type}[aJ α]{w:World}{cs:List Value}{x:α}(h:aJ.own w cs x F0):dF w cs [x] F0:=⟨cs,[],F0,F0,(EJ _).symm,h,⟨rfl,fun _ _ h=>h⟩,fun _ _ h=>h.elim,fun _ _=>by simp[F0]⟩
theorem aCF{α:Type}[aJ α][Flat α]{w w':World}:∀{l:List α} {cs:List Value} {F:cN},dF w cs l F->dF w' cs l F0
 | [],cs,F,h=>⟨h.1,fun _ _ h=>h⟩
 | x :: r,cs,F,⟨c1,c2,F1,F2,e,h1,h2,hd,hF⟩=>⟨c1,c2,F0,F0,e,a1O h1,aCF h2,fun _ _ h=>h.elim,fun _ _=>by simp[F0]⟩
theorem aYP{α:Type}[aJ α]{w:World}:∀{l:List α} {cs:List Value} {F:cN},dF w cs l F->∀v∈cs,v.oneCell'=true
 | [],cs,F,h,v,hv=>by rw[h.1] at hv;cases hv
 | x :: r, cs, F, ⟨c1, c2, F1, F2, e, h1, h2, hd, hF⟩, v, hv => by rw[e] at hv;exact(jB.1 hv).elim (aJ.rd_one (aJ.own_rd h1) v) (aYP h2 v)
theorem bFH{P:Program}{κ:Ctx}{f:FuncId}{α:Type}[aJ α][Flat α]{k:Nat}(hn:aJ.n α=k)(hk:0<k)(hC:bDL P f k)(hcall:∀args w,(callFunc f args).run P w=.ok (.enter f args) w){s v:List α}{i:Int}{s1 s2:AC} :
  VS P κ f (bDM s i v) [.h s1 s.length,.i .i64 i,.h s2 v.length] [] [ow s1 s,.o (cLs s2 v)] (fun r (y:AC)=>.h y r.length) (fun r y=>[ow y r]):=fun r hr=>by
 unfold bDM at hr;obtain⟨⟨hi0,hi1,hb⟩,hr⟩:=kG hr;obtain⟨j,rfl⟩:∃j:Nat,i=j:=⟨i.toNat,by omega⟩;rw[OR] at hr;cases hr;refine⟨hcall,fun vs hv hS=>?_⟩;simp[aZ,fS,gV,bT] at hv;subst hv;obtain⟨⟨R,h1,h2⟩,h0⟩:=hS;have h1:St κ κ.w0 [bL [s1.v s.length] s,cLs s2 v] R:=by grind[lD]
 obtain⟨F,S,⟨F1,F2,hs1,⟨F3,F4,hs2,_,_,hF34⟩,hdj,_⟩,_⟩:=h1.sep;obtain⟨x,rfl,vb,cv,rfl,hvb,hvf,hvc,hvo,hvF⟩:=hs2;have hs1:aJ.own κ.w0 [s1.v s.length] s F1:=hs1;obtain⟨a,c,he,hl1,hl2,hrest⟩:=nP.1 hs1;obtain⟨sa,sc⟩:=s1;simp only[AC.v,Value.slice.injEq,true_and] at he;obtain⟨rfl,rfl⟩:=he;have hvl:cv.length=k:=by rw[<-hn];exact aJ.mB (aJ.own_rd (hvo κ.w0))
 have hv1:∀v∈cv,v.oneCell'=true:=aJ.rd_one (aJ.own_rd (hvo κ.w0));obtain⟨cs,hcl,hc1,hrow,hall⟩:∃cs,cs.length=s.length*k/\(∀v∈cs,v.oneCell'=true)/\((sa=none/\sc=0)\/∃b off,sa=some ⟨b,off,none⟩/\Row κ.w0 b off (sc*k)/\bG κ.w0 b off cs/\(0<sc->vb≠b))/\∀w,dF w cs s F0:=by
  rcases hrest with ⟨rfl,rfl,_⟩ | ⟨b,off,cc,Fe,rfl,hr,hc,ho,_,hF⟩
  ·have hsn:s=[]:=AD (by omega);subst hsn;exact⟨[],by simp,by simp,.inl ⟨rfl,rfl⟩,fun _=>⟨rfl,fun _ _ h=>h⟩⟩
  ·rw[hn] at hr hF;refine⟨cc,by rw[<-hn];exact ho.length,aYP ho,.inr ⟨b,off,rfl,hr,hc,fun h0 e=>?_⟩,fun _=>aCF ho⟩;subst e;have hk:0<sc*k:=Nat.mul_pos h0 hk;exact hdj vb off ((hF vb off).2 (.inl ⟨rfl,kX _,by omega⟩)) ((hF34 vb off).2 (.inl ((hvF vb off).2 rfl)))
 refine(hC sa s.length sc j vb cs cv κ.w0 (by omega) hl1 hl2 hb hcl hvl hvc hc1 hv1 hvf hrow).mono ?_;rintro e w' ⟨b,o,c',rfl,hlc,hcm,hcc,hrw,hkk⟩;have hlen:(s.take j ++ [x]++s.drop j).length=s.length+1:=by grind
 refine⟨_,rfl,⟨some ⟨b,o,none⟩,c'⟩,by grind[fS,gV,bT],⟨R,?_,by simp[roF]⟩,h0⟩;have hcs:∀w,dF w (cs.take (j*k)++cv++cs.drop (j*k)) (s.take j ++ [x]++s.drop j) F0:=fun w=>by
  have h:=hall w;rw[<-aF0 j s] at h;obtain⟨c1,c2,G1,G2,e,k1,k2,_,_⟩:=dF.split h;have hl:c1.length=j*k:=by rw[k1.length,hn,ZZ];grind
  rw[e,List.take_left' hl,List.drop_left' hl,M4,M4];exact dF.app (aCF k1) (show dF w (cv++c2) ([x]++s.drop j) F0 from dF.app (a37 (hvo w)) (aCF k2) (fun _ _ h=>h.elim) fun _ _=>by simp[F0]) (fun _ _ h=>h.elim) fun _ _=>by simp[F0]
 have:=h1.a1S (w':=w') [0,1] rfl (A':=[bL [(⟨some ⟨b,o,none⟩,c'⟩:AC).v (s.take j ++ [x]++s.drop j).length] (s.take j ++ [x]++s.drop j)]) (fun F hF=>by
  obtain⟨F1',F2',q1,q2,q3,q4⟩:=hF;have q1:aJ.own κ.w0 [_] s F1':=q1;have hown:aJ.own w' [(⟨some ⟨b,o,none⟩,c'⟩:AC).v (s.take j ++ [x]++s.drop j).length] (s.take j ++ [x]++s.drop j) (eS b o (c'*k)):=
   nP.2 ⟨_,c',rfl,by omega,hcm,.inr ⟨b,o,_,F0,rfl,by grind,hcc,hcs w',fun _ _ h=>h.elim,fun b' o'=>by grind[F0]⟩⟩
  rcases hkk with ⟨rfl,rfl,hK⟩ | ⟨hnew,hK⟩
  ·obtain⟨a',c'',he',_,_,hr'⟩:=nP.1 q1;simp only[AC.v,Value.slice.injEq,true_and] at he';obtain⟨rfl,rfl⟩:=he';rcases hr' with ⟨h,_⟩ | ⟨b2,o2,cc2,Fe2,h,_,_,_,_,hF2⟩
   ·cases h
   ·cases h;rw[hn] at hF2;exact⟨_,_,hK,fun b' o' g=>(q4 b' o').2 (.inl ((hF2 b' o').2 (.inl g))),Sep.one.2 hown,fun b' o' g=>.inl ((q4 b' o').2 (.inl ((hF2 b' o').2 (.inl g))))⟩
  ·exact⟨_,F0,hK,fun _ _ h=>h.elim,Sep.one.2 hown,fun b' o' g=>.inr (by obtain⟨rfl,_⟩:=g;exact hnew)⟩)
 exact this.R7 [2] rfl
noncomputable section
variable {P:Program} {T:TT} {hT:H3 P T} {n:Nat} {c:Ctx} {B0:Bl} {N:Act->World->Prop} {X:Nat->Act->World->Prop} {Q:Act->World->Prop} {K K':List Fr} {m m':Nat} {e e':SE} {L L' Lv:List Ch} {cf cf' cf1 cf2:wG} {o:Oper} {d:Nat}
variable {x:Operand} {t t2 el sz:Nat} {b1 b2 b3:Bool} {n1 n2 n3:Nat} {z1 z2 z3:List SV}
theorem ltL{α:Type}[aJ α][Flat α](E:CO α)(y:E.ex)(q:α){zv:Value}(hinf:T3 P el sz zv)(hs:kI T n K cf m e L=.op o Lv cf1 cf2 K' m' e' L')(ho:(o.op,o.dst)=(.buildSlice t 1 #[(0,x)],some d))(ht:D3 T t=some ⟨.sl el,b1,n1,z1⟩)(hn:aJ.n α=sz)(hm:Nat.ble 1 sz=true)(hsm:Nat.ble (1*sz) 16777216=true)(hev:aZ (fun p=>(j4 e' p.2).map fun v=>nbL (qP v)) [((0:Nat),x)]=some ([q].map fun q=>E.cs q y))(hec:([q].all fun q=>Nat.beq (E.cs q y).length sz && (aZ (bT []) (E.cs q y)).isSome)=true)(hL:∀q,E.Lx q y=[])
  (k:∀s':AC,G (.mk P T hT n c B0 N X Q) K' m' ((d,.h s' [q].length) :: e') (L' ++ [.o (cLs s' [q])]) cf2):G (.mk P T hT n c B0 N X Q) K m e L cf:=by
 refine aVP (l:=[q]) (fun s'=>L' ++ [.o (cLs s' [q])]) hs (eA Prod.snd ho) (fun _=>wI _) (fun B a w hA hS=>?_) k;obtain⟨⟨R,s1,s2⟩,s0⟩:=hS;obtain⟨vs,cells,g1,g2,g3,g4,g5⟩:=lits E y (sz:=sz) hA hL hev hec;obtain⟨v,rfl⟩:∃v,vs=[v]:=by
  match vs,g2 with
  | [v],_=>simp
 obtain⟨ti,hi,hz,hsz,hby⟩:=hinf;obtain⟨h1,h2⟩:=g5.get hn;have hcl:cells.length=sz:=by grind
 have hc:=aJP (len:=1) (m:=sz) (vs:=[v]) (ps:=[(0,x)]) (F:=fun i=>(if 1*sz=0 then #[] else zv.cells)[i % (if 1*sz=0 then #[] else zv.cells).size]!) rfl rfl g3 g4;have hu:=KI ht hT;have hm0:¬1*sz=0:=by(simp_all;omega)
 have hsm':¬1*sz > 2 ^ 24:=by simp_all
 refine⟨⟨some ⟨w.heap.size,0,none⟩,1⟩,w.alloc (.cells cells.toArray el),fun _ a hA'=>?_,⟨R,?_,fun z hz=>?_⟩,s0⟩
 ·have hps:a.eval x=v:=by have:=O6 hA' g1;grind
  have ho':=eA Prod.fst ho;simp only at ho';simp only[hm0,aS] at hc;have hm1:¬sz=0:=by omega
  have hs1:¬sz > 16777216:=by omega
  simp only[Nat.one_mul,hm1,aS] at hc;simp[execOp,ho',Instr.buildSlice,run_underlying hu,sizeOf,typeInfo,zeroValue,hi,hz,hsz,hps,hm1,hs1,AC.v];simp_all[newRow]
 ·have:=s1.more (eT.alloc F0 w (.cells cells.toArray el)) (ch:=cLs ⟨some ⟨w.heap.size,0,none⟩,1⟩ [q]) ⟨fun b _=>b=w.heap.size,⟨q,rfl,w.heap.size,cells,rfl,by simp,fun o=>World.frozen?_alloc_at (w:=w) _ _ w.heap.size o rfl,fun j v hj=>?_,fun w'=>?_,fun _ _=>Iff.rfl⟩,fun b o hb=>RZ hb.symm⟩
  ·grind[lD]
  ·simp_all
  ·have:=h2 0 q rfl;rw[show KH cells sz 0=cells by unfold KH;grind] at this;grind[Flat.own_of]
 ·rcases jB.1 hz with hz | hz
  ·grind
  ·simp at hz;subst hz;trivial
end
end Go.Gv
end
noncomputable section
namespace Go.Gv
def aTE(k:Nat):List Nat->Bool
 | []=>false
 | a :: r => match Nat.beq k a with
  | true=>true
  | false=>aTE k r
def aEV(is:List Nat):Nat->List Ch->List Ch
 | _,[]=>[]
 | k, x :: r => match aTE k is with
  | true=>.no :: aEV is (k+1) r
  | false=>x :: aEV is (k+1) r
theorem aTF:∀(L:List Ch) (k:Nat),aEV [] k L=L
 | [],_=>rfl
 | x :: L,k=>by simp only[aEV,aTE,aTF L]
theorem aYQ{k i:Nat}(r:List Nat)(h:k≠i):aTE k (i :: r)=aTE k r:=by grind[qY,aTE]
theorem a72(i:Nat)(r:List Nat):aTE i (i :: r)=true:=by simp only[aTE,Nat.beq_refl]
theorem aYR(i:Nat)(r:List Nat):∀(L:List Ch) (k:Nat),i<k->aEV (i :: r) k L=aEV r k L
 | [],_,_=>rfl
 | x :: L, k, h => by simp only[aEV,aYQ r (show k≠i by omega),aYR i r L (k+1) (by omega)]
theorem aTG(i:Nat)(r:List Nat):∀(L:List Ch) (k:Nat),k<=i->aEV (i :: r) k L=aEV r k (L.set (i - k) .no)
 | [],_,_=>rfl
 | x :: L, k, h => by
  by_cases e:k=i
  ·subst e;rw[Nat.sub_self];grind[aEV,a72,aYR]
  ·obtain⟨d,hd⟩:∃d,i - k=d+1:=⟨i - k - 1,by omega⟩;have h2:i - (k+1)=d:=by omega
   rw[hd];simp only[List.set,aEV,aYQ r e,aTG i r L (k+1) (by omega),h2]
theorem a38:∀(is:List Nat) (L:List Ch),KJ L is=aEV is 0 L
 | [],L=>(aTF L 0).symm
 | i :: r, L => by rw[aTG i r L 0 (lL _),Nat.sub_zero];exact a38 r _
noncomputable section
variable {P:Program} {T:TT} {hT:H3 P T} {n:Nat} {c:Ctx} {B0:Bl} {N:Act->World->Prop} {X:Nat->Act->World->Prop} {Q:Act->World->Prop} {K K':List Fr} {m m':Nat} {e e':SE} {L L' Lv:List Ch} {cf cf' cf1 cf2:wG} {o:Oper}
variable {α β ex:Type} {fo:Option α} {kf:α->Option β} {q:β} {d:Option Nat} {f:FuncId} {xs xs0:List SV} {M:List Ch} {sv:α->ex->SV} {Lr:α->ex->List Ch}
theorem bDN{c1 c2 c3:List SV}{a1 a2 a3:α->ex->List SV}(i1 n1 o1 k1:Nat)(i2 n2 o2 k2:Nat)(i3 n3 o3 k3:Nat)(is:List Nat)
  (hs:cpS (kI T n K cf m e L)=some (o,d,f,xs,cf1,cf2,K',m',e',L')) (hb:aJ1 L' [(i1,n1,o1,k1),(i2,n2,o2,k2),(i3,n3,o3,k3)]=some [c1,c2,c3]) (hi:aZ (fun i=>L'[i]?) is=some M) (hx:aZ (rnP [(i1,n1,o1,k1),(i2,n2,o2,k2),(i3,n3,o3,k3)] 0) xs=some xs0)
  (hk:(JS M && ([c1,c2,c3].all (yY.okC 0) && (dQ (i1 :: i2 :: i3 :: is) && (i1 :: i2 :: i3 :: is).all fun j=>gC j cf1.yZ)))=true)
  (hc:∀{κ:Ctx},HG c κ L' (i1 :: i2 :: i3 :: is)->∀{b1 b2 b3:Nat×Nat},VS P κ f fo xs0 [b1,b2,b3] (.box 0 c1 :: .box 1 c2 :: .box 2 c3 :: M) sv (fun x y=>.box 0 (a1 x y) :: .box 1 (a2 x y) :: .box 2 (a3 x y) :: Lr x y))
  (k:∀x,∀y:ex,W (G (.mk P T hT n c B0 N X Q) K' m' (dse d (sv x y) e') (OS L' (aEV (i1 :: i2 :: i3 :: is) 0 L'++Lr x y) [(i1,n1,o1,k1),(i2,n2,o2,k2),(i3,n3,o3,k3)] [a1 x y,a2 x y,a3 x y]) cf2) q (kf x)) (hn:∀x y,(aCB [(i1,n1,o1,k1),(i2,n2,o2,k2),(i3,n3,o3,k3)] [a1 x y,a2 x y,a3 x y] && ([a1 x y,a2 x y,a3 x y].all (yY.okC 0) && (JS (Lr x y) && yY 0 (sv x y))))=true:=by exact fun _ _=>rfl):W (G (.mk P T hT n c B0 N X Q) K m e L cf) q (fo.bind kf):=
 bE6 i1 n1 o1 k1 i2 n2 o2 k2 i3 n3 o3 k3 is hs hb hi hx hk hc (fun x y=>by grind[a38]) hn
end
end Go.Gv
end
noncomputable section
namespace Go.Gv
noncomputable section
variable {P:Program} {T:TT} {hT:H3 P T} {n:Nat} {c:Ctx} {B0:Bl} {N:Act->World->Prop} {X:Nat->Act->World->Prop} {Q:Act->World->Prop} {K K':List Fr} {m m':Nat} {e e':SE} {L L' Lv:List Ch} {cf cf' cf1 cf2:wG} {o:Oper}
variable {α:Type} {fo:Option α} {d:Nat} {f:FuncId} {xs:List SV} {v:α}
theorem D5{sv:α->SV}(hA:fo=some v)(hs:kI T n K cf m e L=.call o (some d) f xs cf1 cf2 K' m' e' L')
  (hc:∀{w},HS c w L'->V0 P (cL w) f fo xs sv) (k:G (.mk P T hT n c B0 N X Q) K' m' ((d,sv v) :: e') L' cf2):G (.mk P T hT n c B0 N X Q) K m e L cf:=
 c0 (kf:=some) (q:=v) hs hc (fun x hx=>by cases hx;exact k) (rb hA)
theorem lE{ex:Type}{sv:α->ex->SV}{Lf:α->ex->List Ch}(hA:fo=some v)(hs:kI T n K cf m e L=.call o (some d) f xs cf1 cf2 K' m' e' L')
  (hc:∀{w},HS c w L'->VS P (cL w) f fo xs [] [] sv Lf) (k:∀y:ex,G (.mk P T hT n c B0 N X Q) K' m' ((d,sv v y) :: e') (L'++Lf v y) cf2) (hn:∀x y,noF (Lf x y)=true:=by exact fun _ _=>rfl):G (.mk P T hT n c B0 N X Q) K m e L cf:=
 c1 (kf:=some) (q:=v) hs hc (fun x y hx=>by cases hx;exact k y) hn (rb hA)
end
end Go.Gv
end
noncomputable section
namespace Go.Gv
structure bR where
 b:List UInt8
 i:Int
 h:Int
 deriving DecidableEq,Inhabited
instance:aJ bR:=aJ.via (fun d=>(d.b,d.i,d.h))
instance:Fits bR:=Fits.via (fun d=>(d.b,d.i,d.h))
structure kE where
 Kind:Int
 Cell:Int
 lY:Int
 cK:Int
 deriving DecidableEq,Inhabited
instance:aJ kE:=aJ.via (fun d=>(d.Kind,d.Cell,d.lY,d.cK))
instance:Fits kE:=Fits.via (fun d=>(d.Kind,d.Cell,d.lY,d.cK))
theorem a39{S:cN}{w:World}{cs:List Value}{d:kE}(h:aJ.rd S w cs d):cs=[.int .i64 (d.Kind),.int .i64 (d.Cell),.int .i64 (d.lY),.int .i64 (d.cK)]:=by obtain⟨c0,r0,e0,h0,n0⟩:=h;have q0:c0=[_]:=h0;obtain⟨c1,r1,e1,h1,n1⟩:=n0;have q1:c1=[_]:=h1;obtain⟨c2,r2,e2,h2,n2⟩:=n1;have q2:c2=[_]:=h2;have q3:r2=[_]:=n2;exact by rw[e0,e1,e2,q0,q1,q2,q3];rfl
theorem aVZ{S:cN}{w:World}(d:kE):aJ.rd S w [.int .i64 (d.Kind),.int .i64 (d.Cell),.int .i64 (d.lY),.int .i64 (d.cK)] d:=⟨[.int .i64 (d.Kind)],[.int .i64 (d.Cell),.int .i64 (d.lY),.int .i64 (d.cK)],rfl,rfl,⟨[.int .i64 (d.Cell)],[.int .i64 (d.lY),.int .i64 (d.cK)],rfl,rfl,⟨[.int .i64 (d.lY)],[.int .i64 (d.cK)],rfl,rfl,rfl⟩⟩⟩
instance:Flat kE:=⟨fun h=>Flat.own_of (α:=Int×Int×Int×Int) h,fun h=>Flat.no (α:=Int×Int×Int×Int) h⟩
theorem bBE(d:kE):OP [.int .i64 (d.Kind),.int .i64 (d.Cell),.int .i64 (d.lY),.int .i64 (d.cK)] d []:=(show OP (α:=Int×Int×Int×Int) _ (d.Kind,d.Cell,d.lY,d.cK) _ from(cZ (c1:=[.int .i64 (d.Kind)]) (c2:=[.int .i64 (d.Cell),.int .i64 (d.lY),.int .i64 (d.cK)]) (A:=[]) (B:=[]) (cQ rfl) (cZ (c1:=[.int .i64 (d.Cell)]) (c2:=[.int .i64 (d.lY),.int .i64 (d.cK)]) (A:=[]) (B:=[]) (cQ rfl) (cZ (c1:=[.int .i64 (d.lY)]) (c2:=[.int .i64 (d.cK)]) (A:=[]) (B:=[]) (cQ rfl) (cQ rfl) rfl) rfl) rfl))
structure Queue where
 lX:List kE
 deriving DecidableEq,Inhabited
instance:aJ Queue:=aJ.via (fun d=>(d.lX))
instance:Fits Queue:=Fits.via (fun d=>(d.lX))
theorem a4A{S:cN}{w:World}{cs:List Value}{d:Queue}(h:aJ.rd S w cs d):∃v0:Value,cs=[v0]/\aJ.rd S w [v0] d.lX:=by obtain⟨u0,q0⟩:=jD h;rw[q0] at h;exact⟨u0,q0,h⟩
theorem a4B(d:Queue){v0:Value}:OP [v0] d [bL [v0] d.lX]:=(show OP (α:=(List kE)) _ (d.lX) _ from HZ)
structure nQ where
 cC:List Queue
 a8:List Int
 deriving DecidableEq,Inhabited
instance:aJ nQ:=aJ.via (fun d=>(d.cC,d.a8))
instance:Fits nQ:=Fits.via (fun d=>(d.cC,d.a8))
structure kJ where
 Kind:Int
 Key:Int
 cK:Int
 deriving DecidableEq,Inhabited
instance:aJ kJ:=aJ.via (fun d=>(d.Kind,d.Key,d.cK))
instance:Fits kJ:=Fits.via (fun d=>(d.Kind,d.Key,d.cK))
theorem bBF{S:cN}{w:World}{cs:List Value}{d:kJ}(h:aJ.rd S w cs d):cs=[.int .i64 (d.Kind),.int .i64 (d.Key),.int .i64 (d.cK)]:=by obtain⟨c0,r0,e0,h0,n0⟩:=h;have q0:c0=[_]:=h0;obtain⟨c1,r1,e1,h1,n1⟩:=n0;have q1:c1=[_]:=h1;have q2:r1=[_]:=n1;exact by rw[e0,e1,q0,q1,q2];rfl
instance:Flat kJ:=⟨fun h=>Flat.own_of (α:=Int×Int×Int) h,fun h=>Flat.no (α:=Int×Int×Int) h⟩
theorem bBG(d:kJ):OP [.int .i64 (d.Kind),.int .i64 (d.Key),.int .i64 (d.cK)] d []:=(show OP (α:=Int×Int×Int) _ (d.Kind,d.Key,d.cK) _ from(cZ (c1:=[.int .i64 (d.Kind)]) (c2:=[.int .i64 (d.Key),.int .i64 (d.cK)]) (A:=[]) (B:=[]) (cQ rfl) (cZ (c1:=[.int .i64 (d.Key)]) (c2:=[.int .i64 (d.cK)]) (A:=[]) (B:=[]) (cQ rfl) (cQ rfl) rfl) rfl))
structure Batch where
 Collect:Bool
 cB:List kJ
 deriving DecidableEq,Inhabited
instance:aJ Batch:=aJ.via (fun d=>(d.Collect,d.cB))
instance:Fits Batch:=Fits.via (fun d=>(d.Collect,d.cB))
theorem aTH{S:cN}{w:World}{cs:List Value}{d:Batch}(h:aJ.rd S w cs d):∃v0:Value,cs=[.bool (d.Collect),v0]/\aJ.rd S w [v0] d.cB:=by obtain⟨c0,r0,e0,h0,n0⟩:=h;have q0:c0=[_]:=h0;obtain⟨u1,q1⟩:=jD n0;rw[q1] at n0;exact⟨u1,by rw[e0,q0,q1];rfl,n0⟩
theorem aTI(d:Batch){v0:Value}:OP [.bool (d.Collect),v0] d [bL [v0] d.cB]:=(show OP (α:=Bool×(List kJ)) _ (d.Collect,d.cB) _ from(cZ (c1:=[.bool (d.Collect)]) (c2:=[v0]) (A:=[]) (B:=[bL [v0] d.cB]) (cQ rfl) HZ rfl))
structure aN where
 List:List Batch
 deriving DecidableEq,Inhabited
instance:aJ aN:=aJ.via (fun d=>(d.List))
instance:Fits aN:=Fits.via (fun d=>(d.List))
theorem aZS{S:cN}{w:World}{cs:List Value}{d:aN}(h:aJ.rd S w cs d):∃v0:Value,cs=[v0]/\aJ.rd S w [v0] d.List:=by obtain⟨u0,q0⟩:=jD h;rw[q0] at h;exact⟨u0,q0,h⟩
theorem aZT(d:aN){v0:Value}:OP [v0] d [bL [v0] d.List]:=(show OP (α:=(List Batch)) _ (d.List) _ from HZ)
structure jP where
 cC:List aN
 a8:List Int
 deriving DecidableEq,Inhabited
instance:aJ jP:=aJ.via (fun d=>(d.cC,d.a8))
instance:Fits jP:=Fits.via (fun d=>(d.cC,d.a8))
structure Heap where
 Bytes:List Int
 Class:List Int
 deriving DecidableEq,Inhabited
instance:aJ Heap:=aJ.via (fun d=>(d.Bytes,d.Class))
instance:Fits Heap:=Fits.via (fun d=>(d.Bytes,d.Class))
structure aY where
 aW:List Int
 deriving DecidableEq,Inhabited
instance:aJ aY:=aJ.via (fun d=>(d.aW))
instance:Fits aY:=Fits.via (fun d=>(d.aW))
theorem aTJ{S:cN}{w:World}{cs:List Value}{d:aY}(h:aJ.rd S w cs d):∃v0:Value,cs=[v0]/\aJ.rd S w [v0] d.aW:=by obtain⟨u0,q0⟩:=jD h;rw[q0] at h;exact⟨u0,q0,h⟩
theorem EM(d:aY){v0:Value}:OP [v0] d [bL [v0] d.aW]:=(show OP (α:=(List Int)) _ (d.aW) _ from HZ)
theorem _root_.Go.Gv.St.a4C{c:Ctx}{L:List Chunk}{R:List Fact}{w:World}{s:Value}{l:List aY}{i:Nat}{x:aY}(h:St c w L R)(j:Nat)(hj:R[j]?=some (C9 [s] l))(hi:l[i]?=some x):∃v0:Value,bG w (RW s) (QM 1 i s) [v0]/\St c w L (R ++ [C9 [v0] x.aW]):=by obtain⟨S,hS,hk⟩:=h.a1L hj;obtain⟨ec,h1,h2⟩:=aSH hS hi;obtain⟨v0,q,q0⟩:=aTJ h2;rw[q] at h1;exact⟨v0,h1,hk _ (by intro f hf;simp only[mA,VI,or_false] at hf;subst hf;exact q0)⟩
structure aB where
 Global:List aY
 Own:List aY
 deriving DecidableEq,Inhabited
instance:aJ aB:=aJ.via (fun d=>(d.Global,d.Own))
instance:Fits aB:=Fits.via (fun d=>(d.Global,d.Own))
structure Mem where
 Heap:Heap
 aB:aB
 deriving DecidableEq,Inhabited
instance:aJ Mem:=aJ.via (fun d=>(d.Heap,d.aB))
instance:Fits Mem:=Fits.via (fun d=>(d.Heap,d.aB))
structure wW where
 On:Bool
 aQ:Int
 fB:Bool
 Seen:Int
 deriving DecidableEq,Inhabited
instance:aJ wW:=aJ.via (fun d=>(d.On,d.aQ,d.fB,d.Seen))
instance:Fits wW:=Fits.via (fun d=>(d.On,d.aQ,d.fB,d.Seen))
theorem bBH{S:cN}{w:World}{cs:List Value}{d:wW}(h:aJ.rd S w cs d):cs=[.bool (d.On),.int .i64 (d.aQ),.bool (d.fB),.int .i64 (d.Seen)]:=by obtain⟨c0,r0,e0,h0,n0⟩:=h;have q0:c0=[_]:=h0;obtain⟨c1,r1,e1,h1,n1⟩:=n0;have q1:c1=[_]:=h1;obtain⟨c2,r2,e2,h2,n2⟩:=n1;have q2:c2=[_]:=h2;have q3:r2=[_]:=n2;exact by rw[e0,e1,e2,q0,q1,q2,q3];rfl
theorem a4D{S:cN}{w:World}(d:wW):aJ.rd S w [.bool (d.On),.int .i64 (d.aQ),.bool (d.fB),.int .i64 (d.Seen)] d:=⟨[.bool (d.On)],[.int .i64 (d.aQ),.bool (d.fB),.int .i64 (d.Seen)],rfl,rfl,⟨[.int .i64 (d.aQ)],[.bool (d.fB),.int .i64 (d.Seen)],rfl,rfl,⟨[.bool (d.fB)],[.int .i64 (d.Seen)],rfl,rfl,rfl⟩⟩⟩
instance:Flat wW:=⟨fun h=>Flat.own_of (α:=Bool×Int×Bool×Int) h,fun h=>Flat.no (α:=Bool×Int×Bool×Int) h⟩
theorem bBI(d:wW):OP [.bool (d.On),.int .i64 (d.aQ),.bool (d.fB),.int .i64 (d.Seen)] d []:=(show OP (α:=Bool×Int×Bool×Int) _ (d.On,d.aQ,d.fB,d.Seen) _ from(cZ (c1:=[.bool (d.On)]) (c2:=[.int .i64 (d.aQ),.bool (d.fB),.int .i64 (d.Seen)]) (A:=[]) (B:=[]) (cQ rfl) (cZ (c1:=[.int .i64 (d.aQ)]) (c2:=[.bool (d.fB),.int .i64 (d.Seen)]) (A:=[]) (B:=[]) (cQ rfl) (cZ (c1:=[.bool (d.fB)]) (c2:=[.int .i64 (d.Seen)]) (A:=[]) (B:=[]) (cQ rfl) (cQ rfl) rfl) rfl) rfl))
structure aG where
 aQ:Int
 cW:List wW
 deriving DecidableEq,Inhabited
instance:aJ aG:=aJ.via (fun d=>(d.aQ,d.cW))
instance:Fits aG:=Fits.via (fun d=>(d.aQ,d.cW))
structure eJ where
 Handle:Int
 aQ:Int
 deriving DecidableEq,Inhabited
instance:aJ eJ:=aJ.via (fun d=>(d.Handle,d.aQ))
instance:Fits eJ:=Fits.via (fun d=>(d.Handle,d.aQ))
theorem aYS{S:cN}{w:World}{cs:List Value}{d:eJ}(h:aJ.rd S w cs d):cs=[.int .i64 (d.Handle),.int .i64 (d.aQ)]:=by obtain⟨c0,r0,e0,h0,n0⟩:=h;have q0:c0=[_]:=h0;have q1:r0=[_]:=n0;exact by rw[e0,q0,q1];rfl
theorem a73{S:cN}{w:World}(d:eJ):aJ.rd S w [.int .i64 (d.Handle),.int .i64 (d.aQ)] d:=⟨[.int .i64 (d.Handle)],[.int .i64 (d.aQ)],rfl,rfl,rfl⟩
instance:Flat eJ:=⟨fun h=>Flat.own_of (α:=Int×Int) h,fun h=>Flat.no (α:=Int×Int) h⟩
theorem a74(d:eJ):OP [.int .i64 (d.Handle),.int .i64 (d.aQ)] d []:=(show OP (α:=Int×Int) _ (d.Handle,d.aQ) _ from(cZ (c1:=[.int .i64 (d.Handle)]) (c2:=[.int .i64 (d.aQ)]) (A:=[]) (B:=[]) (cQ rfl) (cQ rfl) rfl))
theorem a75{S:cN}{w:World}{s:Value}{l:List eJ}{i:Nat}{x:eJ}(h:aJ.rd S w [s] l)(hi:l[i]?=some x):bG w (RW s) (QM 2 i s) [.int .i64 (x.Handle),.int .i64 (x.aQ)]:=by obtain⟨ec,h1,h2⟩:=aSH h hi;rw[aYS h2] at h1;exact h1
structure bM where
 Rows:List eJ
 deriving DecidableEq,Inhabited
instance:aJ bM:=aJ.via (fun d=>(d.Rows))
instance:Fits bM:=Fits.via (fun d=>(d.Rows))
theorem aTK{S:cN}{w:World}{cs:List Value}{d:bM}(h:aJ.rd S w cs d):∃v0:Value,cs=[v0]/\aJ.rd S w [v0] d.Rows:=by obtain⟨u0,q0⟩:=jD h;rw[q0] at h;exact⟨u0,q0,h⟩
theorem aJ5(d:bM){v0:Value}:OP [v0] d [bL [v0] d.Rows]:=(show OP (α:=(List eJ)) _ (d.Rows) _ from HZ)
theorem _root_.Go.Gv.St.aTL{c:Ctx}{L:List Chunk}{R:List Fact}{w:World}{s:Value}{l:List bM}{i:Nat}{x:bM}(h:St c w L R)(j:Nat)(hj:R[j]?=some (C9 [s] l))(hi:l[i]?=some x):∃v0:Value,bG w (RW s) (QM 1 i s) [v0]/\St c w L (R ++ [C9 [v0] x.Rows]):=by obtain⟨S,hS,hk⟩:=h.a1L hj;obtain⟨ec,h1,h2⟩:=aSH hS hi;obtain⟨v0,q,q0⟩:=aTK h2;rw[q] at h1;exact⟨v0,h1,hk _ (by intro f hf;simp only[mA,VI,or_false] at hf;subst hf;exact q0)⟩
structure aA where
 Mem:Mem
 aG:aG
 bH:List bM
 qZ:List Int
 deriving DecidableEq,Inhabited
instance:aJ aA:=aJ.via (fun d=>(d.Mem,d.aG,d.bH,d.qZ))
instance:Fits aA:=Fits.via (fun d=>(d.Mem,d.aG,d.bH,d.qZ))
structure Sub where
 Kind:Int
 A:Int
 Pc:Int
 E:Int
 Row:Int
 B:Int
 H:Int
 Out:Int
 Code:Int
 dB:Bool
 deriving DecidableEq,Inhabited
instance:aJ Sub:=aJ.via (fun d=>(d.Kind,d.A,d.Pc,d.E,d.Row,d.B,d.H,d.Out,d.Code,d.dB))
instance:Fits Sub:=Fits.via (fun d=>(d.Kind,d.A,d.Pc,d.E,d.Row,d.B,d.H,d.Out,d.Code,d.dB))
theorem a4E{S:cN}{w:World}{cs:List Value}{d:Sub}(h:aJ.rd S w cs d):cs=[.int .i64 (d.Kind),.int .i64 (d.A),.int .i64 (d.Pc),.int .i64 (d.E),.int .i64 (d.Row),.int .i64 (d.B),.int .i64 (d.H),.int .i64 (d.Out),.int .i64 (d.Code),.bool (d.dB)]:=by obtain⟨c0,r0,e0,h0,n0⟩:=h;have q0:c0=[_]:=h0;obtain⟨c1,r1,e1,h1,n1⟩:=n0;have q1:c1=[_]:=h1;obtain⟨c2,r2,e2,h2,n2⟩:=n1;have q2:c2=[_]:=h2;obtain⟨c3,r3,e3,h3,n3⟩:=n2;have q3:c3=[_]:=h3;obtain⟨c4,r4,e4,h4,n4⟩:=n3;have q4:c4=[_]:=h4;obtain⟨c5,r5,e5,h5,n5⟩:=n4;have q5:c5=[_]:=h5;obtain⟨c6,r6,e6,h6,n6⟩:=n5;have q6:c6=[_]:=h6;obtain⟨c7,r7,e7,h7,n7⟩:=n6;have q7:c7=[_]:=h7;obtain⟨c8,r8,e8,h8,n8⟩:=n7;have q8:c8=[_]:=h8;have q9:r8=[_]:=n8;exact by rw[e0,e1,e2,e3,e4,e5,e6,e7,e8,q0,q1,q2,q3,q4,q5,q6,q7,q8,q9];rfl
theorem aV0{S:cN}{w:World}(d:Sub):aJ.rd S w [.int .i64 (d.Kind),.int .i64 (d.A),.int .i64 (d.Pc),.int .i64 (d.E),.int .i64 (d.Row),.int .i64 (d.B),.int .i64 (d.H),.int .i64 (d.Out),.int .i64 (d.Code),.bool (d.dB)] d:=⟨[.int .i64 (d.Kind)],[.int .i64 (d.A),.int .i64 (d.Pc),.int .i64 (d.E),.int .i64 (d.Row),.int .i64 (d.B),.int .i64 (d.H),.int .i64 (d.Out),.int .i64 (d.Code),.bool (d.dB)],rfl,rfl,⟨[.int .i64 (d.A)],[.int .i64 (d.Pc),.int .i64 (d.E),.int .i64 (d.Row),.int .i64 (d.B),.int .i64 (d.H),.int .i64 (d.Out),.int .i64 (d.Code),.bool (d.dB)],rfl,rfl,⟨[.int .i64 (d.Pc)],[.int .i64 (d.E),.int .i64 (d.Row),.int .i64 (d.B),.int .i64 (d.H),.int .i64 (d.Out),.int .i64 (d.Code),.bool (d.dB)],rfl,rfl,⟨[.int .i64 (d.E)],[.int .i64 (d.Row),.int .i64 (d.B),.int .i64 (d.H),.int .i64 (d.Out),.int .i64 (d.Code),.bool (d.dB)],rfl,rfl,⟨[.int .i64 (d.Row)],[.int .i64 (d.B),.int .i64 (d.H),.int .i64 (d.Out),.int .i64 (d.Code),.bool (d.dB)],rfl,rfl,⟨[.int .i64 (d.B)],[.int .i64 (d.H),.int .i64 (d.Out),.int .i64 (d.Code),.bool (d.dB)],rfl,rfl,⟨[.int .i64 (d.H)],[.int .i64 (d.Out),.int .i64 (d.Code),.bool (d.dB)],rfl,rfl,⟨[.int .i64 (d.Out)],[.int .i64 (d.Code),.bool (d.dB)],rfl,rfl,⟨[.int .i64 (d.Code)],[.bool (d.dB)],rfl,rfl,rfl⟩⟩⟩⟩⟩⟩⟩⟩⟩
instance:Flat Sub:=⟨fun h=>Flat.own_of (α:=Int×Int×Int×Int×Int×Int×Int×Int×Int×Bool) h,fun h=>Flat.no (α:=Int×Int×Int×Int×Int×Int×Int×Int×Int×Bool) h⟩
structure fU where
 iI:Bool
 Op:kE
 aI:Int
 Pc:Int
 Sub:Sub
 H:Int
 Old:Int
 cK:Int
 Code:Int
 deriving DecidableEq,Inhabited
instance:aJ fU:=aJ.via (fun d=>(d.iI,d.Op,d.aI,d.Pc,d.Sub,d.H,d.Old,d.cK,d.Code))
instance:Fits fU:=Fits.via (fun d=>(d.iI,d.Op,d.aI,d.Pc,d.Sub,d.H,d.Old,d.cK,d.Code))
theorem bBJ{S:cN}{w:World}{cs:List Value}{d:fU}(h:aJ.rd S w cs d):cs=[.bool (d.iI),.int .i64 (d.Op.Kind),.int .i64 (d.Op.Cell),.int .i64 (d.Op.lY),.int .i64 (d.Op.cK),.int .i64 (d.aI),.int .i64 (d.Pc),.int .i64 (d.Sub.Kind),.int .i64 (d.Sub.A),.int .i64 (d.Sub.Pc),.int .i64 (d.Sub.E),.int .i64 (d.Sub.Row),.int .i64 (d.Sub.B),.int .i64 (d.Sub.H),.int .i64 (d.Sub.Out),.int .i64 (d.Sub.Code),.bool (d.Sub.dB),.int .i64 (d.H),.int .i64 (d.Old),.int .i64 (d.cK),.int .i64 (d.Code)]:=by obtain⟨c0,r0,e0,h0,n0⟩:=h;have q0:c0=[_]:=h0;obtain⟨c1,r1,e1,h1,n1⟩:=n0;have q1:=a39 h1;obtain⟨c2,r2,e2,h2,n2⟩:=n1;have q2:c2=[_]:=h2;obtain⟨c3,r3,e3,h3,n3⟩:=n2;have q3:c3=[_]:=h3;obtain⟨c4,r4,e4,h4,n4⟩:=n3;have q4:=a4E h4;obtain⟨c5,r5,e5,h5,n5⟩:=n4;have q5:c5=[_]:=h5;obtain⟨c6,r6,e6,h6,n6⟩:=n5;have q6:c6=[_]:=h6;obtain⟨c7,r7,e7,h7,n7⟩:=n6;have q7:c7=[_]:=h7;have q8:r7=[_]:=n7;exact by rw[e0,e1,e2,e3,e4,e5,e6,e7,q0,q1,q2,q3,q4,q5,q6,q7,q8];rfl
theorem wC{S:cN}{w:World}(d:fU):aJ.rd S w [.bool (d.iI),.int .i64 (d.Op.Kind),.int .i64 (d.Op.Cell),.int .i64 (d.Op.lY),.int .i64 (d.Op.cK),.int .i64 (d.aI),.int .i64 (d.Pc),.int .i64 (d.Sub.Kind),.int .i64 (d.Sub.A),.int .i64 (d.Sub.Pc),.int .i64 (d.Sub.E),.int .i64 (d.Sub.Row),.int .i64 (d.Sub.B),.int .i64 (d.Sub.H),.int .i64 (d.Sub.Out),.int .i64 (d.Sub.Code),.bool (d.Sub.dB),.int .i64 (d.H),.int .i64 (d.Old),.int .i64 (d.cK),.int .i64 (d.Code)] d:=⟨[.bool (d.iI)],[.int .i64 (d.Op.Kind),.int .i64 (d.Op.Cell),.int .i64 (d.Op.lY),.int .i64 (d.Op.cK),.int .i64 (d.aI),.int .i64 (d.Pc),.int .i64 (d.Sub.Kind),.int .i64 (d.Sub.A),.int .i64 (d.Sub.Pc),.int .i64 (d.Sub.E),.int .i64 (d.Sub.Row),.int .i64 (d.Sub.B),.int .i64 (d.Sub.H),.int .i64 (d.Sub.Out),.int .i64 (d.Sub.Code),.bool (d.Sub.dB),.int .i64 (d.H),.int .i64 (d.Old),.int .i64 (d.cK),.int .i64 (d.Code)],rfl,rfl,⟨[.int .i64 (d.Op.Kind),.int .i64 (d.Op.Cell),.int .i64 (d.Op.lY),.int .i64 (d.Op.cK)],[.int .i64 (d.aI),.int .i64 (d.Pc),.int .i64 (d.Sub.Kind),.int .i64 (d.Sub.A),.int .i64 (d.Sub.Pc),.int .i64 (d.Sub.E),.int .i64 (d.Sub.Row),.int .i64 (d.Sub.B),.int .i64 (d.Sub.H),.int .i64 (d.Sub.Out),.int .i64 (d.Sub.Code),.bool (d.Sub.dB),.int .i64 (d.H),.int .i64 (d.Old),.int .i64 (d.cK),.int .i64 (d.Code)],rfl,(aVZ _),⟨[.int .i64 (d.aI)],[.int .i64 (d.Pc),.int .i64 (d.Sub.Kind),.int .i64 (d.Sub.A),.int .i64 (d.Sub.Pc),.int .i64 (d.Sub.E),.int .i64 (d.Sub.Row),.int .i64 (d.Sub.B),.int .i64 (d.Sub.H),.int .i64 (d.Sub.Out),.int .i64 (d.Sub.Code),.bool (d.Sub.dB),.int .i64 (d.H),.int .i64 (d.Old),.int .i64 (d.cK),.int .i64 (d.Code)],rfl,rfl,⟨[.int .i64 (d.Pc)],[.int .i64 (d.Sub.Kind),.int .i64 (d.Sub.A),.int .i64 (d.Sub.Pc),.int .i64 (d.Sub.E),.int .i64 (d.Sub.Row),.int .i64 (d.Sub.B),.int .i64 (d.Sub.H),.int .i64 (d.Sub.Out),.int .i64 (d.Sub.Code),.bool (d.Sub.dB),.int .i64 (d.H),.int .i64 (d.Old),.int .i64 (d.cK),.int .i64 (d.Code)],rfl,rfl,⟨[.int .i64 (d.Sub.Kind),.int .i64 (d.Sub.A),.int .i64 (d.Sub.Pc),.int .i64 (d.Sub.E),.int .i64 (d.Sub.Row),.int .i64 (d.Sub.B),.int .i64 (d.Sub.H),.int .i64 (d.Sub.Out),.int .i64 (d.Sub.Code),.bool (d.Sub.dB)],[.int .i64 (d.H),.int .i64 (d.Old),.int .i64 (d.cK),.int .i64 (d.Code)],rfl,(aV0 _),⟨[.int .i64 (d.H)],[.int .i64 (d.Old),.int .i64 (d.cK),.int .i64 (d.Code)],rfl,rfl,⟨[.int .i64 (d.Old)],[.int .i64 (d.cK),.int .i64 (d.Code)],rfl,rfl,⟨[.int .i64 (d.cK)],[.int .i64 (d.Code)],rfl,rfl,rfl⟩⟩⟩⟩⟩⟩⟩⟩
instance:Flat fU:=⟨fun h=>Flat.own_of (α:=Bool×kE×Int×Int×Sub×Int×Int×Int×Int) h,fun h=>Flat.no (α:=Bool×kE×Int×Int×Sub×Int×Int×Int×Int) h⟩
theorem bBK(d:fU):OP [.bool (d.iI),.int .i64 (d.Op.Kind),.int .i64 (d.Op.Cell),.int .i64 (d.Op.lY),.int .i64 (d.Op.cK),.int .i64 (d.aI),.int .i64 (d.Pc),.int .i64 (d.Sub.Kind),.int .i64 (d.Sub.A),.int .i64 (d.Sub.Pc),.int .i64 (d.Sub.E),.int .i64 (d.Sub.Row),.int .i64 (d.Sub.B),.int .i64 (d.Sub.H),.int .i64 (d.Sub.Out),.int .i64 (d.Sub.Code),.bool (d.Sub.dB),.int .i64 (d.H),.int .i64 (d.Old),.int .i64 (d.cK),.int .i64 (d.Code)] d []:=(show OP (α:=Bool×kE×Int×Int×Sub×Int×Int×Int×Int) _ (d.iI,d.Op,d.aI,d.Pc,d.Sub,d.H,d.Old,d.cK,d.Code) _ from(cZ (c1:=[.bool (d.iI)]) (c2:=[.int .i64 (d.Op.Kind),.int .i64 (d.Op.Cell),.int .i64 (d.Op.lY),.int .i64 (d.Op.cK),.int .i64 (d.aI),.int .i64 (d.Pc),.int .i64 (d.Sub.Kind),.int .i64 (d.Sub.A),.int .i64 (d.Sub.Pc),.int .i64 (d.Sub.E),.int .i64 (d.Sub.Row),.int .i64 (d.Sub.B),.int .i64 (d.Sub.H),.int .i64 (d.Sub.Out),.int .i64 (d.Sub.Code),.bool (d.Sub.dB),.int .i64 (d.H),.int .i64 (d.Old),.int .i64 (d.cK),.int .i64 (d.Code)]) (A:=[]) (B:=[]) (cQ rfl) (cZ (c1:=[.int .i64 (d.Op.Kind),.int .i64 (d.Op.Cell),.int .i64 (d.Op.lY),.int .i64 (d.Op.cK)]) (c2:=[.int .i64 (d.aI),.int .i64 (d.Pc),.int .i64 (d.Sub.Kind),.int .i64 (d.Sub.A),.int .i64 (d.Sub.Pc),.int .i64 (d.Sub.E),.int .i64 (d.Sub.Row),.int .i64 (d.Sub.B),.int .i64 (d.Sub.H),.int .i64 (d.Sub.Out),.int .i64 (d.Sub.Code),.bool (d.Sub.dB),.int .i64 (d.H),.int .i64 (d.Old),.int .i64 (d.cK),.int .i64 (d.Code)]) (A:=[]) (B:=[]) (cQ (aVZ _)) (cZ (c1:=[.int .i64 (d.aI)]) (c2:=[.int .i64 (d.Pc),.int .i64 (d.Sub.Kind),.int .i64 (d.Sub.A),.int .i64 (d.Sub.Pc),.int .i64 (d.Sub.E),.int .i64 (d.Sub.Row),.int .i64 (d.Sub.B),.int .i64 (d.Sub.H),.int .i64 (d.Sub.Out),.int .i64 (d.Sub.Code),.bool (d.Sub.dB),.int .i64 (d.H),.int .i64 (d.Old),.int .i64 (d.cK),.int .i64 (d.Code)]) (A:=[]) (B:=[]) (cQ rfl) (cZ (c1:=[.int .i64 (d.Pc)]) (c2:=[.int .i64 (d.Sub.Kind),.int .i64 (d.Sub.A),.int .i64 (d.Sub.Pc),.int .i64 (d.Sub.E),.int .i64 (d.Sub.Row),.int .i64 (d.Sub.B),.int .i64 (d.Sub.H),.int .i64 (d.Sub.Out),.int .i64 (d.Sub.Code),.bool (d.Sub.dB),.int .i64 (d.H),.int .i64 (d.Old),.int .i64 (d.cK),.int .i64 (d.Code)]) (A:=[]) (B:=[]) (cQ rfl) (cZ (c1:=[.int .i64 (d.Sub.Kind),.int .i64 (d.Sub.A),.int .i64 (d.Sub.Pc),.int .i64 (d.Sub.E),.int .i64 (d.Sub.Row),.int .i64 (d.Sub.B),.int .i64 (d.Sub.H),.int .i64 (d.Sub.Out),.int .i64 (d.Sub.Code),.bool (d.Sub.dB)]) (c2:=[.int .i64 (d.H),.int .i64 (d.Old),.int .i64 (d.cK),.int .i64 (d.Code)]) (A:=[]) (B:=[]) (cQ (aV0 _)) (cZ (c1:=[.int .i64 (d.H)]) (c2:=[.int .i64 (d.Old),.int .i64 (d.cK),.int .i64 (d.Code)]) (A:=[]) (B:=[]) (cQ rfl) (cZ (c1:=[.int .i64 (d.Old)]) (c2:=[.int .i64 (d.cK),.int .i64 (d.Code)]) (A:=[]) (B:=[]) (cQ rfl) (cZ (c1:=[.int .i64 (d.cK)]) (c2:=[.int .i64 (d.Code)]) (A:=[]) (B:=[]) (cQ rfl) (cQ rfl) rfl) rfl) rfl) rfl) rfl) rfl) rfl) rfl))
structure Ev where
 Kind:Int
 Who:Int
 aI:Int
 Cell:Int
 Handle:Int
 cK:Int
 Code:Int
 deriving DecidableEq,Inhabited
instance:aJ Ev:=aJ.via (fun d=>(d.Kind,d.Who,d.aI,d.Cell,d.Handle,d.cK,d.Code))
instance:Fits Ev:=Fits.via (fun d=>(d.Kind,d.Who,d.aI,d.Cell,d.Handle,d.cK,d.Code))
theorem bDO{S:cN}{w:World}{cs:List Value}{d:Ev}(h:aJ.rd S w cs d):cs=[.int .i64 (d.Kind),.int .i64 (d.Who),.int .i64 (d.aI),.int .i64 (d.Cell),.int .i64 (d.Handle),.int .i64 (d.cK),.int .i64 (d.Code)]:=by obtain⟨c0,r0,e0,h0,n0⟩:=h;have q0:c0=[_]:=h0;obtain⟨c1,r1,e1,h1,n1⟩:=n0;have q1:c1=[_]:=h1;obtain⟨c2,r2,e2,h2,n2⟩:=n1;have q2:c2=[_]:=h2;obtain⟨c3,r3,e3,h3,n3⟩:=n2;have q3:c3=[_]:=h3;obtain⟨c4,r4,e4,h4,n4⟩:=n3;have q4:c4=[_]:=h4;obtain⟨c5,r5,e5,h5,n5⟩:=n4;have q5:c5=[_]:=h5;have q6:r5=[_]:=n5;exact by rw[e0,e1,e2,e3,e4,e5,q0,q1,q2,q3,q4,q5,q6];rfl
instance:Flat Ev:=⟨fun h=>Flat.own_of (α:=Int×Int×Int×Int×Int×Int×Int) h,fun h=>Flat.no (α:=Int×Int×Int×Int×Int×Int×Int) h⟩
theorem bDP(d:Ev):OP [.int .i64 (d.Kind),.int .i64 (d.Who),.int .i64 (d.aI),.int .i64 (d.Cell),.int .i64 (d.Handle),.int .i64 (d.cK),.int .i64 (d.Code)] d []:=(show OP (α:=Int×Int×Int×Int×Int×Int×Int) _ (d.Kind,d.Who,d.aI,d.Cell,d.Handle,d.cK,d.Code) _ from(cZ (c1:=[.int .i64 (d.Kind)]) (c2:=[.int .i64 (d.Who),.int .i64 (d.aI),.int .i64 (d.Cell),.int .i64 (d.Handle),.int .i64 (d.cK),.int .i64 (d.Code)]) (A:=[]) (B:=[]) (cQ rfl) (cZ (c1:=[.int .i64 (d.Who)]) (c2:=[.int .i64 (d.aI),.int .i64 (d.Cell),.int .i64 (d.Handle),.int .i64 (d.cK),.int .i64 (d.Code)]) (A:=[]) (B:=[]) (cQ rfl) (cZ (c1:=[.int .i64 (d.aI)]) (c2:=[.int .i64 (d.Cell),.int .i64 (d.Handle),.int .i64 (d.cK),.int .i64 (d.Code)]) (A:=[]) (B:=[]) (cQ rfl) (cZ (c1:=[.int .i64 (d.Cell)]) (c2:=[.int .i64 (d.Handle),.int .i64 (d.cK),.int .i64 (d.Code)]) (A:=[]) (B:=[]) (cQ rfl) (cZ (c1:=[.int .i64 (d.Handle)]) (c2:=[.int .i64 (d.cK),.int .i64 (d.Code)]) (A:=[]) (B:=[]) (cQ rfl) (cZ (c1:=[.int .i64 (d.cK)]) (c2:=[.int .i64 (d.Code)]) (A:=[]) (B:=[]) (cQ rfl) (cQ rfl) rfl) rfl) rfl) rfl) rfl) rfl))
structure aE where
 aA:aA
 Cells:List Int
 aH:List fU
 cC:List Queue
 Log:List Ev
 aI:Int
 deriving DecidableEq,Inhabited
instance:aJ aE:=aJ.via (fun d=>(d.aA,d.Cells,d.aH,d.cC,d.Log,d.aI))
instance:Fits aE:=Fits.via (fun d=>(d.aA,d.Cells,d.aH,d.cC,d.Log,d.aI))
structure dZ where
 Head:Int
 hJ:Int
 lP:Int
 deriving DecidableEq,Inhabited
instance:aJ dZ:=aJ.via (fun d=>(d.Head,d.hJ,d.lP))
instance:Fits dZ:=Fits.via (fun d=>(d.Head,d.hJ,d.lP))
theorem bBL{S:cN}{w:World}{cs:List Value}{d:dZ}(h:aJ.rd S w cs d):cs=[.int .i64 (d.Head),.int .i64 (d.hJ),.int .i64 (d.lP)]:=by obtain⟨c0,r0,e0,h0,n0⟩:=h;have q0:c0=[_]:=h0;obtain⟨c1,r1,e1,h1,n1⟩:=n0;have q1:c1=[_]:=h1;have q2:r1=[_]:=n1;exact by rw[e0,e1,q0,q1,q2];rfl
theorem wD{S:cN}{w:World}(d:dZ):aJ.rd S w [.int .i64 (d.Head),.int .i64 (d.hJ),.int .i64 (d.lP)] d:=⟨[.int .i64 (d.Head)],[.int .i64 (d.hJ),.int .i64 (d.lP)],rfl,rfl,⟨[.int .i64 (d.hJ)],[.int .i64 (d.lP)],rfl,rfl,rfl⟩⟩
instance:Flat dZ:=⟨fun h=>Flat.own_of (α:=Int×Int×Int) h,fun h=>Flat.no (α:=Int×Int×Int) h⟩
theorem bBM(d:dZ):OP [.int .i64 (d.Head),.int .i64 (d.hJ),.int .i64 (d.lP)] d []:=(show OP (α:=Int×Int×Int) _ (d.Head,d.hJ,d.lP) _ from(cZ (c1:=[.int .i64 (d.Head)]) (c2:=[.int .i64 (d.hJ),.int .i64 (d.lP)]) (A:=[]) (B:=[]) (cQ rfl) (cZ (c1:=[.int .i64 (d.hJ)]) (c2:=[.int .i64 (d.lP)]) (A:=[]) (B:=[]) (cQ rfl) (cQ rfl) rfl) rfl))
structure iZ where
 Key:Int
 cK:Int
 Next:Int
 deriving DecidableEq,Inhabited
instance:aJ iZ:=aJ.via (fun d=>(d.Key,d.cK,d.Next))
instance:Fits iZ:=Fits.via (fun d=>(d.Key,d.cK,d.Next))
theorem a4F{S:cN}{w:World}{cs:List Value}{d:iZ}(h:aJ.rd S w cs d):cs=[.int .i64 (d.Key),.int .i64 (d.cK),.int .i64 (d.Next)]:=by obtain⟨c0,r0,e0,h0,n0⟩:=h;have q0:c0=[_]:=h0;obtain⟨c1,r1,e1,h1,n1⟩:=n0;have q1:c1=[_]:=h1;have q2:r1=[_]:=n1;exact by rw[e0,e1,q0,q1,q2];rfl
theorem a4G{S:cN}{w:World}(d:iZ):aJ.rd S w [.int .i64 (d.Key),.int .i64 (d.cK),.int .i64 (d.Next)] d:=⟨[.int .i64 (d.Key)],[.int .i64 (d.cK),.int .i64 (d.Next)],rfl,rfl,⟨[.int .i64 (d.cK)],[.int .i64 (d.Next)],rfl,rfl,rfl⟩⟩
instance:Flat iZ:=⟨fun h=>Flat.own_of (α:=Int×Int×Int) h,fun h=>Flat.no (α:=Int×Int×Int) h⟩
structure Seen where
 dZ:Int
 hJ:Int
 deriving DecidableEq,Inhabited
instance:aJ Seen:=aJ.via (fun d=>(d.dZ,d.hJ))
instance:Fits Seen:=Fits.via (fun d=>(d.dZ,d.hJ))
theorem a76{S:cN}{w:World}{cs:List Value}{d:Seen}(h:aJ.rd S w cs d):cs=[.int .i64 (d.dZ),.int .i64 (d.hJ)]:=by obtain⟨c0,r0,e0,h0,n0⟩:=h;have q0:c0=[_]:=h0;have q1:r0=[_]:=n0;exact by rw[e0,q0,q1];rfl
instance:Flat Seen:=⟨fun h=>Flat.own_of (α:=Int×Int) h,fun h=>Flat.no (α:=Int×Int) h⟩
theorem a77(d:Seen):OP [.int .i64 (d.dZ),.int .i64 (d.hJ)] d []:=(show OP (α:=Int×Int) _ (d.dZ,d.hJ) _ from(cZ (c1:=[.int .i64 (d.dZ)]) (c2:=[.int .i64 (d.hJ)]) (A:=[]) (B:=[]) (cQ rfl) (cQ rfl) rfl))
structure bC where
 Key:Int
 OQ:Bool
 cK:Int
 deriving DecidableEq,Inhabited
instance:aJ bC:=aJ.via (fun d=>(d.Key,d.OQ,d.cK))
instance:Fits bC:=Fits.via (fun d=>(d.Key,d.OQ,d.cK))
theorem a4H{S:cN}{w:World}{cs:List Value}{d:bC}(h:aJ.rd S w cs d):cs=[.int .i64 (d.Key),.bool (d.OQ),.int .i64 (d.cK)]:=by obtain⟨c0,r0,e0,h0,n0⟩:=h;have q0:c0=[_]:=h0;obtain⟨c1,r1,e1,h1,n1⟩:=n0;have q1:c1=[_]:=h1;have q2:r1=[_]:=n1;exact by rw[e0,e1,q0,q1,q2];rfl
theorem a4I{S:cN}{w:World}(d:bC):aJ.rd S w [.int .i64 (d.Key),.bool (d.OQ),.int .i64 (d.cK)] d:=⟨[.int .i64 (d.Key)],[.bool (d.OQ),.int .i64 (d.cK)],rfl,rfl,⟨[.bool (d.OQ)],[.int .i64 (d.cK)],rfl,rfl,rfl⟩⟩
instance:Flat bC:=⟨fun h=>Flat.own_of (α:=Int×Bool×Int) h,fun h=>Flat.no (α:=Int×Bool×Int) h⟩
theorem a4J(d:bC):OP [.int .i64 (d.Key),.bool (d.OQ),.int .i64 (d.cK)] d []:=(show OP (α:=Int×Bool×Int) _ (d.Key,d.OQ,d.cK) _ from(cZ (c1:=[.int .i64 (d.Key)]) (c2:=[.bool (d.OQ),.int .i64 (d.cK)]) (A:=[]) (B:=[]) (cQ rfl) (cZ (c1:=[.bool (d.OQ)]) (c2:=[.int .i64 (d.cK)]) (A:=[]) (B:=[]) (cQ rfl) (cQ rfl) rfl) rfl))
structure gN where
 Is:Bool
 cK:Int
 deriving DecidableEq,Inhabited
instance:aJ gN:=aJ.via (fun d=>(d.Is,d.cK))
instance:Fits gN:=Fits.via (fun d=>(d.Is,d.cK))
theorem bBN{S:cN}{w:World}{cs:List Value}{d:gN}(h:aJ.rd S w cs d):cs=[.bool (d.Is),.int .i64 (d.cK)]:=by obtain⟨c0,r0,e0,h0,n0⟩:=h;have q0:c0=[_]:=h0;have q1:r0=[_]:=n0;exact by rw[e0,q0,q1];rfl
instance:Flat gN:=⟨fun h=>Flat.own_of (α:=Bool×Int) h,fun h=>Flat.no (α:=Bool×Int) h⟩
theorem bBO(d:gN):OP [.bool (d.Is),.int .i64 (d.cK)] d []:=(show OP (α:=Bool×Int) _ (d.Is,d.cK) _ from(cZ (c1:=[.bool (d.Is)]) (c2:=[.int .i64 (d.cK)]) (A:=[]) (B:=[]) (cQ rfl) (cQ rfl) rfl))
structure aR where
 iI:Bool
 Batch:Batch
 aI:Int
 Pc:Int
 At:Int
 K:Int
 dZ:Int
 hJ:Int
 H:Int
 iJ:Int
 Node:iZ
 Found:Bool
 Code:Int
 Sub:Sub
 Reads:List Seen
 aU:List bC
 gN:List gN
 iM:List Int
 cD:List Int
 dR:List Int
 deriving DecidableEq,Inhabited
instance:aJ aR:=aJ.via (fun d=>(d.iI,d.Batch,d.aI,d.Pc,d.At,d.K,d.dZ,d.hJ,d.H,d.iJ,d.Node,d.Found,d.Code,d.Sub,d.Reads,d.aU,d.gN,d.iM,d.cD,d.dR))
instance:Fits aR:=Fits.via (fun d=>(d.iI,d.Batch,d.aI,d.Pc,d.At,d.K,d.dZ,d.hJ,d.H,d.iJ,d.Node,d.Found,d.Code,d.Sub,d.Reads,d.aU,d.gN,d.iM,d.cD,d.dR))
theorem a78{S:cN}{w:World}{cs:List Value}{d:aR}(h:aJ.rd S w cs d):∃v0 v1 v2 v3 v4 v5 v6:Value,cs=[.bool (d.iI),.bool (d.Batch.Collect),v0,.int .i64 (d.aI),.int .i64 (d.Pc),.int .i64 (d.At),.int .i64 (d.K),.int .i64 (d.dZ),.int .i64 (d.hJ),.int .i64 (d.H),.int .i64 (d.iJ),.int .i64 (d.Node.Key),.int .i64 (d.Node.cK),.int .i64 (d.Node.Next),.bool (d.Found),.int .i64 (d.Code),.int .i64 (d.Sub.Kind),.int .i64 (d.Sub.A),.int .i64 (d.Sub.Pc),.int .i64 (d.Sub.E),.int .i64 (d.Sub.Row),.int .i64 (d.Sub.B),.int .i64 (d.Sub.H),.int .i64 (d.Sub.Out),.int .i64 (d.Sub.Code),.bool (d.Sub.dB),v1,v2,v3,v4,v5,v6]/\aJ.rd S w [v0] d.Batch.cB/\aJ.rd S w [v1] d.Reads/\aJ.rd S w [v2] d.aU/\aJ.rd S w [v3] d.gN/\aJ.rd S w [v4] d.iM/\aJ.rd S w [v5] d.cD/\aJ.rd S w [v6] d.dR:=by obtain⟨c0,r0,e0,h0,n0⟩:=h;have q0:c0=[_]:=h0;obtain⟨c1,r1,e1,h1,n1⟩:=n0;obtain⟨u1_0,q1,hq1_0⟩:=aTH h1;obtain⟨c2,r2,e2,h2,n2⟩:=n1;have q2:c2=[_]:=h2;obtain⟨c3,r3,e3,h3,n3⟩:=n2;have q3:c3=[_]:=h3;obtain⟨c4,r4,e4,h4,n4⟩:=n3;have q4:c4=[_]:=h4;obtain⟨c5,r5,e5,h5,n5⟩:=n4;have q5:c5=[_]:=h5;obtain⟨c6,r6,e6,h6,n6⟩:=n5;have q6:c6=[_]:=h6;obtain⟨c7,r7,e7,h7,n7⟩:=n6;have q7:c7=[_]:=h7;obtain⟨c8,r8,e8,h8,n8⟩:=n7;have q8:c8=[_]:=h8;obtain⟨c9,r9,e9,h9,n9⟩:=n8;have q9:c9=[_]:=h9;obtain⟨c10,r10,e10,h10,n10⟩:=n9;have q10:=a4F h10;obtain⟨c11,r11,e11,h11,n11⟩:=n10;have q11:c11=[_]:=h11;obtain⟨c12,r12,e12,h12,n12⟩:=n11;have q12:c12=[_]:=h12;obtain⟨c13,r13,e13,h13,n13⟩:=n12;have q13:=a4E h13;obtain⟨c14,r14,e14,h14,n14⟩:=n13;obtain⟨u14,q14⟩:=jD h14;rw[q14] at h14;obtain⟨c15,r15,e15,h15,n15⟩:=n14;obtain⟨u15,q15⟩:=jD h15;rw[q15] at h15;obtain⟨c16,r16,e16,h16,n16⟩:=n15;obtain⟨u16,q16⟩:=jD h16;rw[q16] at h16;obtain⟨c17,r17,e17,h17,n17⟩:=n16;obtain⟨u17,q17⟩:=jD h17;rw[q17] at h17;obtain⟨c18,r18,e18,h18,n18⟩:=n17;obtain⟨u18,q18⟩:=jD h18;rw[q18] at h18;obtain⟨u19,q19⟩:=jD n18;rw[q19] at n18;exact⟨u1_0,u14,u15,u16,u17,u18,u19,by rw[e0,e1,e2,e3,e4,e5,e6,e7,e8,e9,e10,e11,e12,e13,e14,e15,e16,e17,e18,q0,q1,q2,q3,q4,q5,q6,q7,q8,q9,q10,q11,q12,q13,q14,q15,q16,q17,q18,q19];rfl,hq1_0,h14,h15,h16,h17,h18,n18⟩
theorem nR(d:aR){v0:Value}{v1:Value}{v2:Value}{v3:Value}{v4:Value}{v5:Value}{v6:Value}:OP [.bool (d.iI),.bool (d.Batch.Collect),v0,.int .i64 (d.aI),.int .i64 (d.Pc),.int .i64 (d.At),.int .i64 (d.K),.int .i64 (d.dZ),.int .i64 (d.hJ),.int .i64 (d.H),.int .i64 (d.iJ),.int .i64 (d.Node.Key),.int .i64 (d.Node.cK),.int .i64 (d.Node.Next),.bool (d.Found),.int .i64 (d.Code),.int .i64 (d.Sub.Kind),.int .i64 (d.Sub.A),.int .i64 (d.Sub.Pc),.int .i64 (d.Sub.E),.int .i64 (d.Sub.Row),.int .i64 (d.Sub.B),.int .i64 (d.Sub.H),.int .i64 (d.Sub.Out),.int .i64 (d.Sub.Code),.bool (d.Sub.dB),v1,v2,v3,v4,v5,v6] d [bL [v0] d.Batch.cB,bL [v1] d.Reads,bL [v2] d.aU,bL [v3] d.gN,bL [v4] d.iM,bL [v5] d.cD,bL [v6] d.dR]:=(show OP (α:=Bool×Batch×Int×Int×Int×Int×Int×Int×Int×Int×iZ×Bool×Int×Sub×(List Seen)×(List bC)×(List gN)×(List Int)×(List Int)×(List Int)) _ (d.iI,d.Batch,d.aI,d.Pc,d.At,d.K,d.dZ,d.hJ,d.H,d.iJ,d.Node,d.Found,d.Code,d.Sub,d.Reads,d.aU,d.gN,d.iM,d.cD,d.dR) _ from(cZ (c1:=[.bool (d.iI)]) (c2:=[.bool (d.Batch.Collect),v0,.int .i64 (d.aI),.int .i64 (d.Pc),.int .i64 (d.At),.int .i64 (d.K),.int .i64 (d.dZ),.int .i64 (d.hJ),.int .i64 (d.H),.int .i64 (d.iJ),.int .i64 (d.Node.Key),.int .i64 (d.Node.cK),.int .i64 (d.Node.Next),.bool (d.Found),.int .i64 (d.Code),.int .i64 (d.Sub.Kind),.int .i64 (d.Sub.A),.int .i64 (d.Sub.Pc),.int .i64 (d.Sub.E),.int .i64 (d.Sub.Row),.int .i64 (d.Sub.B),.int .i64 (d.Sub.H),.int .i64 (d.Sub.Out),.int .i64 (d.Sub.Code),.bool (d.Sub.dB),v1,v2,v3,v4,v5,v6]) (A:=[]) (B:=[bL [v0] d.Batch.cB,bL [v1] d.Reads,bL [v2] d.aU,bL [v3] d.gN,bL [v4] d.iM,bL [v5] d.cD,bL [v6] d.dR]) (cQ rfl) (cZ (c1:=[.bool (d.Batch.Collect),v0]) (c2:=[.int .i64 (d.aI),.int .i64 (d.Pc),.int .i64 (d.At),.int .i64 (d.K),.int .i64 (d.dZ),.int .i64 (d.hJ),.int .i64 (d.H),.int .i64 (d.iJ),.int .i64 (d.Node.Key),.int .i64 (d.Node.cK),.int .i64 (d.Node.Next),.bool (d.Found),.int .i64 (d.Code),.int .i64 (d.Sub.Kind),.int .i64 (d.Sub.A),.int .i64 (d.Sub.Pc),.int .i64 (d.Sub.E),.int .i64 (d.Sub.Row),.int .i64 (d.Sub.B),.int .i64 (d.Sub.H),.int .i64 (d.Sub.Out),.int .i64 (d.Sub.Code),.bool (d.Sub.dB),v1,v2,v3,v4,v5,v6]) (A:=[bL [v0] d.Batch.cB]) (B:=[bL [v1] d.Reads,bL [v2] d.aU,bL [v3] d.gN,bL [v4] d.iM,bL [v5] d.cD,bL [v6] d.dR]) (aTI _) (cZ (c1:=[.int .i64 (d.aI)]) (c2:=[.int .i64 (d.Pc),.int .i64 (d.At),.int .i64 (d.K),.int .i64 (d.dZ),.int .i64 (d.hJ),.int .i64 (d.H),.int .i64 (d.iJ),.int .i64 (d.Node.Key),.int .i64 (d.Node.cK),.int .i64 (d.Node.Next),.bool (d.Found),.int .i64 (d.Code),.int .i64 (d.Sub.Kind),.int .i64 (d.Sub.A),.int .i64 (d.Sub.Pc),.int .i64 (d.Sub.E),.int .i64 (d.Sub.Row),.int .i64 (d.Sub.B),.int .i64 (d.Sub.H),.int .i64 (d.Sub.Out),.int .i64 (d.Sub.Code),.bool (d.Sub.dB),v1,v2,v3,v4,v5,v6]) (A:=[]) (B:=[bL [v1] d.Reads,bL [v2] d.aU,bL [v3] d.gN,bL [v4] d.iM,bL [v5] d.cD,bL [v6] d.dR]) (cQ rfl) (cZ (c1:=[.int .i64 (d.Pc)]) (c2:=[.int .i64 (d.At),.int .i64 (d.K),.int .i64 (d.dZ),.int .i64 (d.hJ),.int .i64 (d.H),.int .i64 (d.iJ),.int .i64 (d.Node.Key),.int .i64 (d.Node.cK),.int .i64 (d.Node.Next),.bool (d.Found),.int .i64 (d.Code),.int .i64 (d.Sub.Kind),.int .i64 (d.Sub.A),.int .i64 (d.Sub.Pc),.int .i64 (d.Sub.E),.int .i64 (d.Sub.Row),.int .i64 (d.Sub.B),.int .i64 (d.Sub.H),.int .i64 (d.Sub.Out),.int .i64 (d.Sub.Code),.bool (d.Sub.dB),v1,v2,v3,v4,v5,v6]) (A:=[]) (B:=[bL [v1] d.Reads,bL [v2] d.aU,bL [v3] d.gN,bL [v4] d.iM,bL [v5] d.cD,bL [v6] d.dR]) (cQ rfl) (cZ (c1:=[.int .i64 (d.At)]) (c2:=[.int .i64 (d.K),.int .i64 (d.dZ),.int .i64 (d.hJ),.int .i64 (d.H),.int .i64 (d.iJ),.int .i64 (d.Node.Key),.int .i64 (d.Node.cK),.int .i64 (d.Node.Next),.bool (d.Found),.int .i64 (d.Code),.int .i64 (d.Sub.Kind),.int .i64 (d.Sub.A),.int .i64 (d.Sub.Pc),.int .i64 (d.Sub.E),.int .i64 (d.Sub.Row),.int .i64 (d.Sub.B),.int .i64 (d.Sub.H),.int .i64 (d.Sub.Out),.int .i64 (d.Sub.Code),.bool (d.Sub.dB),v1,v2,v3,v4,v5,v6]) (A:=[]) (B:=[bL [v1] d.Reads,bL [v2] d.aU,bL [v3] d.gN,bL [v4] d.iM,bL [v5] d.cD,bL [v6] d.dR]) (cQ rfl) (cZ (c1:=[.int .i64 (d.K)]) (c2:=[.int .i64 (d.dZ),.int .i64 (d.hJ),.int .i64 (d.H),.int .i64 (d.iJ),.int .i64 (d.Node.Key),.int .i64 (d.Node.cK),.int .i64 (d.Node.Next),.bool (d.Found),.int .i64 (d.Code),.int .i64 (d.Sub.Kind),.int .i64 (d.Sub.A),.int .i64 (d.Sub.Pc),.int .i64 (d.Sub.E),.int .i64 (d.Sub.Row),.int .i64 (d.Sub.B),.int .i64 (d.Sub.H),.int .i64 (d.Sub.Out),.int .i64 (d.Sub.Code),.bool (d.Sub.dB),v1,v2,v3,v4,v5,v6]) (A:=[]) (B:=[bL [v1] d.Reads,bL [v2] d.aU,bL [v3] d.gN,bL [v4] d.iM,bL [v5] d.cD,bL [v6] d.dR]) (cQ rfl) (cZ (c1:=[.int .i64 (d.dZ)]) (c2:=[.int .i64 (d.hJ),.int .i64 (d.H),.int .i64 (d.iJ),.int .i64 (d.Node.Key),.int .i64 (d.Node.cK),.int .i64 (d.Node.Next),.bool (d.Found),.int .i64 (d.Code),.int .i64 (d.Sub.Kind),.int .i64 (d.Sub.A),.int .i64 (d.Sub.Pc),.int .i64 (d.Sub.E),.int .i64 (d.Sub.Row),.int .i64 (d.Sub.B),.int .i64 (d.Sub.H),.int .i64 (d.Sub.Out),.int .i64 (d.Sub.Code),.bool (d.Sub.dB),v1,v2,v3,v4,v5,v6]) (A:=[]) (B:=[bL [v1] d.Reads,bL [v2] d.aU,bL [v3] d.gN,bL [v4] d.iM,bL [v5] d.cD,bL [v6] d.dR]) (cQ rfl) (cZ (c1:=[.int .i64 (d.hJ)]) (c2:=[.int .i64 (d.H),.int .i64 (d.iJ),.int .i64 (d.Node.Key),.int .i64 (d.Node.cK),.int .i64 (d.Node.Next),.bool (d.Found),.int .i64 (d.Code),.int .i64 (d.Sub.Kind),.int .i64 (d.Sub.A),.int .i64 (d.Sub.Pc),.int .i64 (d.Sub.E),.int .i64 (d.Sub.Row),.int .i64 (d.Sub.B),.int .i64 (d.Sub.H),.int .i64 (d.Sub.Out),.int .i64 (d.Sub.Code),.bool (d.Sub.dB),v1,v2,v3,v4,v5,v6]) (A:=[]) (B:=[bL [v1] d.Reads,bL [v2] d.aU,bL [v3] d.gN,bL [v4] d.iM,bL [v5] d.cD,bL [v6] d.dR]) (cQ rfl) (cZ (c1:=[.int .i64 (d.H)]) (c2:=[.int .i64 (d.iJ),.int .i64 (d.Node.Key),.int .i64 (d.Node.cK),.int .i64 (d.Node.Next),.bool (d.Found),.int .i64 (d.Code),.int .i64 (d.Sub.Kind),.int .i64 (d.Sub.A),.int .i64 (d.Sub.Pc),.int .i64 (d.Sub.E),.int .i64 (d.Sub.Row),.int .i64 (d.Sub.B),.int .i64 (d.Sub.H),.int .i64 (d.Sub.Out),.int .i64 (d.Sub.Code),.bool (d.Sub.dB),v1,v2,v3,v4,v5,v6]) (A:=[]) (B:=[bL [v1] d.Reads,bL [v2] d.aU,bL [v3] d.gN,bL [v4] d.iM,bL [v5] d.cD,bL [v6] d.dR]) (cQ rfl) (cZ (c1:=[.int .i64 (d.iJ)]) (c2:=[.int .i64 (d.Node.Key),.int .i64 (d.Node.cK),.int .i64 (d.Node.Next),.bool (d.Found),.int .i64 (d.Code),.int .i64 (d.Sub.Kind),.int .i64 (d.Sub.A),.int .i64 (d.Sub.Pc),.int .i64 (d.Sub.E),.int .i64 (d.Sub.Row),.int .i64 (d.Sub.B),.int .i64 (d.Sub.H),.int .i64 (d.Sub.Out),.int .i64 (d.Sub.Code),.bool (d.Sub.dB),v1,v2,v3,v4,v5,v6]) (A:=[]) (B:=[bL [v1] d.Reads,bL [v2] d.aU,bL [v3] d.gN,bL [v4] d.iM,bL [v5] d.cD,bL [v6] d.dR]) (cQ rfl) (cZ (c1:=[.int .i64 (d.Node.Key),.int .i64 (d.Node.cK),.int .i64 (d.Node.Next)]) (c2:=[.bool (d.Found),.int .i64 (d.Code),.int .i64 (d.Sub.Kind),.int .i64 (d.Sub.A),.int .i64 (d.Sub.Pc),.int .i64 (d.Sub.E),.int .i64 (d.Sub.Row),.int .i64 (d.Sub.B),.int .i64 (d.Sub.H),.int .i64 (d.Sub.Out),.int .i64 (d.Sub.Code),.bool (d.Sub.dB),v1,v2,v3,v4,v5,v6]) (A:=[]) (B:=[bL [v1] d.Reads,bL [v2] d.aU,bL [v3] d.gN,bL [v4] d.iM,bL [v5] d.cD,bL [v6] d.dR]) (cQ (a4G _)) (cZ (c1:=[.bool (d.Found)]) (c2:=[.int .i64 (d.Code),.int .i64 (d.Sub.Kind),.int .i64 (d.Sub.A),.int .i64 (d.Sub.Pc),.int .i64 (d.Sub.E),.int .i64 (d.Sub.Row),.int .i64 (d.Sub.B),.int .i64 (d.Sub.H),.int .i64 (d.Sub.Out),.int .i64 (d.Sub.Code),.bool (d.Sub.dB),v1,v2,v3,v4,v5,v6]) (A:=[]) (B:=[bL [v1] d.Reads,bL [v2] d.aU,bL [v3] d.gN,bL [v4] d.iM,bL [v5] d.cD,bL [v6] d.dR]) (cQ rfl) (cZ (c1:=[.int .i64 (d.Code)]) (c2:=[.int .i64 (d.Sub.Kind),.int .i64 (d.Sub.A),.int .i64 (d.Sub.Pc),.int .i64 (d.Sub.E),.int .i64 (d.Sub.Row),.int .i64 (d.Sub.B),.int .i64 (d.Sub.H),.int .i64 (d.Sub.Out),.int .i64 (d.Sub.Code),.bool (d.Sub.dB),v1,v2,v3,v4,v5,v6]) (A:=[]) (B:=[bL [v1] d.Reads,bL [v2] d.aU,bL [v3] d.gN,bL [v4] d.iM,bL [v5] d.cD,bL [v6] d.dR]) (cQ rfl) (cZ (c1:=[.int .i64 (d.Sub.Kind),.int .i64 (d.Sub.A),.int .i64 (d.Sub.Pc),.int .i64 (d.Sub.E),.int .i64 (d.Sub.Row),.int .i64 (d.Sub.B),.int .i64 (d.Sub.H),.int .i64 (d.Sub.Out),.int .i64 (d.Sub.Code),.bool (d.Sub.dB)]) (c2:=[v1,v2,v3,v4,v5,v6]) (A:=[]) (B:=[bL [v1] d.Reads,bL [v2] d.aU,bL [v3] d.gN,bL [v4] d.iM,bL [v5] d.cD,bL [v6] d.dR]) (cQ (aV0 _)) (cZ (c1:=[v1]) (c2:=[v2,v3,v4,v5,v6]) (A:=[bL [v1] d.Reads]) (B:=[bL [v2] d.aU,bL [v3] d.gN,bL [v4] d.iM,bL [v5] d.cD,bL [v6] d.dR]) HZ (cZ (c1:=[v2]) (c2:=[v3,v4,v5,v6]) (A:=[bL [v2] d.aU]) (B:=[bL [v3] d.gN,bL [v4] d.iM,bL [v5] d.cD,bL [v6] d.dR]) HZ (cZ (c1:=[v3]) (c2:=[v4,v5,v6]) (A:=[bL [v3] d.gN]) (B:=[bL [v4] d.iM,bL [v5] d.cD,bL [v6] d.dR]) HZ (cZ (c1:=[v4]) (c2:=[v5,v6]) (A:=[bL [v4] d.iM]) (B:=[bL [v5] d.cD,bL [v6] d.dR]) HZ (cZ (c1:=[v5]) (c2:=[v6]) (A:=[bL [v5] d.cD]) (B:=[bL [v6] d.dR]) HZ HZ rfl) rfl) rfl) rfl) rfl) rfl) rfl) rfl) rfl) rfl) rfl) rfl) rfl) rfl) rfl) rfl) rfl) rfl) rfl))
structure QO where
 Kind:Int
 Who:Int
 aI:Int
 Code:Int
 cB:List kJ
 gN:List gN
 deriving DecidableEq,Inhabited
instance:aJ QO:=aJ.via (fun d=>(d.Kind,d.Who,d.aI,d.Code,d.cB,d.gN))
instance:Fits QO:=Fits.via (fun d=>(d.Kind,d.Who,d.aI,d.Code,d.cB,d.gN))
theorem bBP{S:cN}{w:World}{cs:List Value}{d:QO}(h:aJ.rd S w cs d):∃v0 v1:Value,cs=[.int .i64 (d.Kind),.int .i64 (d.Who),.int .i64 (d.aI),.int .i64 (d.Code),v0,v1]/\aJ.rd S w [v0] d.cB/\aJ.rd S w [v1] d.gN:=by obtain⟨c0,r0,e0,h0,n0⟩:=h;have q0:c0=[_]:=h0;obtain⟨c1,r1,e1,h1,n1⟩:=n0;have q1:c1=[_]:=h1;obtain⟨c2,r2,e2,h2,n2⟩:=n1;have q2:c2=[_]:=h2;obtain⟨c3,r3,e3,h3,n3⟩:=n2;have q3:c3=[_]:=h3;obtain⟨c4,r4,e4,h4,n4⟩:=n3;obtain⟨u4,q4⟩:=jD h4;rw[q4] at h4;obtain⟨u5,q5⟩:=jD n4;rw[q5] at n4;exact⟨u4,u5,by rw[e0,e1,e2,e3,e4,q0,q1,q2,q3,q4,q5];rfl,h4,n4⟩
theorem bBQ(d:QO){v0:Value}{v1:Value}:OP [.int .i64 (d.Kind),.int .i64 (d.Who),.int .i64 (d.aI),.int .i64 (d.Code),v0,v1] d [bL [v0] d.cB,bL [v1] d.gN]:=(show OP (α:=Int×Int×Int×Int×(List kJ)×(List gN)) _ (d.Kind,d.Who,d.aI,d.Code,d.cB,d.gN) _ from(cZ (c1:=[.int .i64 (d.Kind)]) (c2:=[.int .i64 (d.Who),.int .i64 (d.aI),.int .i64 (d.Code),v0,v1]) (A:=[]) (B:=[bL [v0] d.cB,bL [v1] d.gN]) (cQ rfl) (cZ (c1:=[.int .i64 (d.Who)]) (c2:=[.int .i64 (d.aI),.int .i64 (d.Code),v0,v1]) (A:=[]) (B:=[bL [v0] d.cB,bL [v1] d.gN]) (cQ rfl) (cZ (c1:=[.int .i64 (d.aI)]) (c2:=[.int .i64 (d.Code),v0,v1]) (A:=[]) (B:=[bL [v0] d.cB,bL [v1] d.gN]) (cQ rfl) (cZ (c1:=[.int .i64 (d.Code)]) (c2:=[v0,v1]) (A:=[]) (B:=[bL [v0] d.cB,bL [v1] d.gN]) (cQ rfl) (cZ (c1:=[v0]) (c2:=[v1]) (A:=[bL [v0] d.cB]) (B:=[bL [v1] d.gN]) HZ HZ rfl) rfl) rfl) rfl) rfl))
structure Table where
 aA:aA
 dP:List dZ
 aH:List aR
 cC:List aN
 Log:List QO
 aI:Int
 deriving DecidableEq,Inhabited
instance:aJ Table:=aJ.via (fun d=>(d.aA,d.dP,d.aH,d.cC,d.Log,d.aI))
instance:Fits Table:=Fits.via (fun d=>(d.aA,d.dP,d.aH,d.cC,d.Log,d.aI))
structure Span where
 a4K:Int
 To:Int
 deriving DecidableEq,Inhabited
instance:aJ Span:=aJ.via (fun d=>(d.a4K,d.To))
instance:Fits Span:=Fits.via (fun d=>(d.a4K,d.To))
instance:Flat Span:=⟨fun h=>Flat.own_of (α:=Int×Int) h,fun h=>Flat.no (α:=Int×Int) h⟩
end Go.Gv
end
