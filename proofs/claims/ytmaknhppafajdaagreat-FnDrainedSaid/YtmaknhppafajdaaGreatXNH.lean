import Derived.Test.YtmaknhppafajdaaGreatXNG
set_option linter.unusedVariables false
set_option linter.unusedSimpArgs false
set_option linter.unusedSectionVars false
set_option linter.constructorNameAsVariable false
set_option linter.unnecessarySimpa false
noncomputable section
namespace Go.Gv
noncomputable section
variable {b:aA} {c:List Int} {J:Int->bA} {L:List Ev} {n:Int} (h:Sv b c J L n) (hb:lY b) (hep:Ep b.aB J) {w:Int} (hw:0<=w/\w<=2)
include h hb hep hw
theorem Sv.make{b':aA}{c':List Int}{j':bA}{L':List Ev}{n':Int}(ow':Ow b' (nm c' (KW J w j')))
  (cv':∀k,0<=k/\k<=1->(swp L' k).Handle=cellAt c' k/\(cellAt c' k≠0->uH b'.Mem.aE (cellAt c' k % 32)=(swp L' k).dV))
  (fr:∀v,0<=v/\v<=2->v≠w->Frm b b' c c' J (KW J w j') v (J v)) (jw:Jv b' c' (KW J w j') (rdx L' j'.aI) w j')
  (rd:∀m,((J w).cN=true->m≠(J w).aI)->rdx L' m=rdx L m) (tr:TrL L') (se:∀e∈L',e.aI<=n') (hn:n<=n')
  (js:j'.cN=true->j'.aI<=n'/\(j'.aI=(J w).aI/\(J w).cN=true\/n < j'.aI)):Sv b' c' (KW J w j') L' n':=by
 refine⟨ow',cv',fun v hv=>?_,tr,se,fun v hv hbv=>?_,fun v u hv hu hbv hbu hvu=>?_⟩
 ·by_cases q:v=w
  ·subst q;rw [dE];exact jw
  ·rw [eM _ _ q]
   refine(h.jv v hv).frame hv hb.1.2.1 (fun g p=>(hep.2 v hv (fun z=>?_) p.1 p.2).1) (fr v hv q) fun bv=>rd _ fun bw=>h.se.2.2 v w hv hw bv bw q
   have:=z.2.2
   rcases g with g | g <;> omega
 ·by_cases q:v=w
  ·subst q;rw [dE] at hbv ⊢;exact(js hbv).1
  ·rw [eM _ _ q] at hbv ⊢
   exact Int.le_trans (h.se.2.1 v hv hbv) hn
 ·have key:∀u,0<=u/\u<=2->(J u).cN=true->u≠w->j'.cN=true->j'.aI≠(J u).aI:=fun u hu bu q bw=>by
   rcases(js bw).2 with ⟨a1,a2⟩ | a
   ·rw [a1];exact h.se.2.2 w u hw hu a2 bu (fun z=>q z.symm)
   ·have:=h.se.2.1 u hu bu;omega
  by_cases q:v=w
  ·subst q
   rw [dE] at hbv ⊢
   rw [eM _ _ (fun z=>hvu z.symm)] at hbu ⊢
   exact key u hu hbu (fun z=>hvu z.symm) hbv
  ·rw [eM _ _ q] at hbv ⊢
   by_cases q2:u=w
   ·subst q2
    rw [dE] at hbu ⊢
    exact fun z=>key v hv hbv q hbu z.symm
   ·rw [eM _ _ q2] at hbu ⊢
    exact h.se.2.2 v u hv hu hbv hbu hvu
omit h hb hep in
theorem GH{c':List Int}{j':bA}{i:Int}(hi:0<=i/\i<=4)(q:i≠w+2)(hc:∀k,0<=k/\k<=1->i=k->cellAt c' k=cellAt c k):nm c' (KW J w j') i=nm c J i:=by
 rcases aD5 hi with hk | ⟨v,hv,rfl⟩
 ·rw [kK _ _ hk,kK _ _ hk];exact hc i hk rfl
 ·rw [fI _ _ hv,fI _ _ hv,eM _ _ (by omega)]
structure Qt (b b':aA) (J:Int->bA) (w:Int) (j':bA):Prop where
 mem:b'.Mem=b.Mem
 lim:b'.aL=b.aL
 ep:b.aB.aG<=b'.aB.aG
 pin:∀v,0<=v/\v<=2->v≠w->Pinned b'.aB v->Pinned b.aB v/\(bQ b'.aB v).aG=(bQ b.aB v).aG
 haz:∀v,0<=v/\v<=2->v≠w->iL b'.iS v=iL b.iS v
 name:D0 j'=D0 (J w)
 old:(J w).Op.Kind=1->(J w).Pc=3->j'.Op.Kind=1/\j'.Pc=3/\j'.Old=(J w).Old/\(j'.Sub.Pc=0\/j'.Sub.E=(J w).Sub.E/\(J w).Sub.Pc≠0\/b.aB.aG<=j'.Sub.E)
 col:∀v,0<=v/\v<=2->∀H,iL b.iS v=H->UnJ (J w) v H->UnJ j' v H
omit h hb hep in
theorem Qt.safe{b':aA}{j':bA}(q:Qt b b' J w j'){e H:Int}(he:e<=b.aB.aG)(s:qT b c J e H):qT b' c (KW J w j') e H:=by
 rcases s with s | ⟨v,hv,k1,p3,o,s⟩ | s
 ·exact .inl s
 ·refine .inr (.inl ⟨v,hv,?_⟩)
  by_cases z:v=w
  ·subst z
   rw [dE]
   obtain⟨a1,a2,a3,a4⟩:=q.old k1 p3
   refine⟨a1,a2,by rw [a3];exact o,?_⟩
   rcases a4 with a4 | ⟨a4,a5⟩ | a4
   ·exact .inl a4
   ·rcases s with s | s
    ·exact absurd s a5
    ·exact .inr (by omega)
   ·exact .inr (by omega)
  ·rw [eM _ _ z];exact⟨k1,p3,o,s⟩
 ·rw [<-q.lim] at s;exact .inr (.inr s)
omit h hb hep in
theorem Qt.frm{b':aA}{j':bA}(q:Qt b b' J w j'){v:Int}(hv:0<=v/\v<=2)(hn:v≠w):Frm b b' c c J (KW J w j') v (J v):=by
 refine⟨q.ep,by rw [q.lim],q.pin v hv hn,q.haz v hv hn,fun e H _ he _ s=>q.safe hw he s,fun hz u a ha=>?_,fun e H _ _=>by rw [q.mem],fun _=>by rw [q.mem]⟩
 by_cases z:a=w
 ·subst z;rw [dE];exact q.col v hv _ hz (u _ hw)
 ·rw [eM _ _ z];exact u a ha
theorem Sv.quiet{b':aA}{j':bA}(q:Qt b b' J w j')(hB:(J w).cN=true)(hser:j'.aI=(J w).aI){l:List Ev}(hl:l=[]\/∃x,l=[DZ w (J w) x])
  (jw:Jv b' c (KW J w j') (rdx (L++l) j'.aI) w j'):Sv b' c (KW J w j') (L++l) n:=by
 have ow':Ow b' (nm c (KW J w j')):=h.ow.congr q.mem q.lim fun i hi=>by
  by_cases z:i=w+2
  ·subst z;rw [fI _ _ hw,fI _ _ hw,dE,q.name]
  ·exact GH hw hi z fun _ _ _=>rfl
 have fr:=fun v (hv:0<=v/\v<=2) hn=>q.frm (c:=c) hw hv hn
 have sn:=h.se.2.1 w hw hB
 rcases hl with rfl | ⟨x,rfl⟩
 ·rw [List.append_nil] at jw ⊢
  exact h.make hb hep hw ow' (fun k hk=>by rw [q.mem];exact h.cv k hk) fr jw (fun _ _=>rfl) h.tr h.se.1 (Int.le_refl _) fun _=>⟨by omega,.inl ⟨hser,hB⟩⟩
 ·have e2:∀k,swp (L ++ [DZ w (J w) x]) k=swp L k:=fun k=>by rw [aA4,if_neg (fun z=>by have:=z.1;simp [DZ] at this)]
  refine h.make hb hep hw ow' (fun k hk=>by rw [q.mem,e2];exact h.cv k hk) fr jw (fun m hm=>?_) (h.tr.snoc fun z=>by simp [DZ] at z) (fun e he=>?_) (Int.le_refl _) fun _=>⟨by omega,.inl ⟨hser,hB⟩⟩
  ·rw [WK,if_neg (fun z=>hm hB z.2.symm)]
  ·rcases List.mem_append.1 he with z | z
   ·exact h.se.1 e z
   ·rw [List.mem_singleton.1 z];exact sn
omit h hb hep hw in
theorem SJ(j:bA)(x:Int):rdx (L ++ [DZ w j x]) j.aI=some (DZ w j x,swp L j.Op.Cell):=by
 rw [WK,if_pos ⟨rfl,rfl⟩];rfl
end
noncomputable section
variable {b:aA} {c:List Int} {J:Int->bA} {o:Option (Ev×Ev)} {v:Int} {j:bA} (hb:j.cN=true)
include hb
theorem G3(k:j.Op.Kind=2\/j.Op.Kind=7)(g:aUI j->Pinned b.aB v->qT b c J (bQ b.aB v).aG j.H/\∃x,Saw o j.H x/\(¬aD4 j->uH b.Mem.aE (j.H % 32)=x.dV)/\(aD4 j->j.dV=x.dV))(t:j.Pc=9\/j.Pc=4->Told o j.Code j.dV):Jv b c J o v j:=
 ⟨fun q=>absurd (hb.symm.trans q) (by decide),fun q=>by omega,fun q=>by omega,fun q=>by omega,fun q=>by omega,fun q=>by omega,g,fun q=>by omega,fun q=>by omega,fun q=>by omega,fun _=>t,fun _ r=>absurd (by unfold Reads;omega) r⟩
theorem RX(k:j.Op.Kind=3)(z1:j.Pc=1\/j.Pc=2\/j.Pc=3->j.H≠0)(z2:j.Pc=2\/j.Pc=3->iL b.iS v=j.H)(z3:j.Pc=3->qT b c J 0 j.H/\OR J v j.H/\∃x,Saw o j.H x/\uH b.Mem.aE (j.H % 32)=x.dV)(t:j.Pc=9\/j.Pc=4->Told o j.Code j.dV):Jv b c J o v j:=
 ⟨fun q=>absurd (hb.symm.trans q) (by decide),fun q=>by omega,fun q=>by omega,fun q=>by omega,fun q=>by omega,fun q=>by omega,fun q=>by rcases q with q | q <;> omega,fun _=>z1,fun _=>z2,fun _=>z3,fun _=>t,fun _ r=>absurd (by unfold Reads;omega) r⟩
theorem RY(k:j.Op.Kind=1)(s0:j.Pc=0->j.Sub.Kind=1/\j.Sub.cO=false/\0<=j.Sub.Pc/\j.Sub.Pc<=3)(s1:j.Pc=1\/j.Pc=2->j.H≠0)(s2:j.Pc=2->uH b.Mem.aE (j.H % 32)=j.Op.dV)(s3:j.Pc=3->j.Old≠0/\aZ2 b j.Old j.Sub)(n:o=none):Jv b c J o v j:=
 ⟨fun q=>absurd (hb.symm.trans q) (by decide),fun _=>s0,fun _=>s1,fun _=>s2,fun _=>s3,fun q=>by omega,fun q=>by rcases q with q | q <;> omega,fun q=>by omega,fun q=>by omega,fun q=>by omega,fun r=>by unfold Reads at r;omega,fun _ _=>n⟩
theorem RZ(k:j.Op.Kind=4\/j.Op.Kind=5\/j.Op.Kind=6)(kk:j.Op.Kind=4->j.Pc=1->aZ3 b.aB.aG (bE b.aL v) j.Sub)(n:o=none):Jv b c J o v j:=
 ⟨fun q=>absurd (hb.symm.trans q) (by decide),fun q=>by omega,fun q=>by omega,fun q=>by omega,fun q=>by omega,kk,fun q=>by rcases q with q | q <;> omega,fun q=>by omega,fun q=>by omega,fun q=>by omega,fun r=>by unfold Reads at r;omega,fun _ _=>n⟩
end
theorem IF{j:bA}(h:j.Pc=0\/j.Pc=1/\j.Op.Kind=2\/j.Pc=4\/j.Pc=9):¬aUI j:=fun g=>by rcases g with g | g <;> omega
theorem OS{j:bA}{v H:Int}(h:j.Op.Kind≠4):UnJ j v H:=fun q=>absurd q h
theorem r9{j:bA}(h:j.Op.Kind≠1):D0 j=0:=if_neg h
theorem WL{j:bA}(h1:j.Pc≠1)(h2:j.Pc≠2)(h3:j.Pc≠3):D0 j=0:=by
 unfold D0
 split
 ·rw [if_neg (show ¬(j.Pc=1\/j.Pc=2) by omega)]
 ·rfl
theorem aP4{j:bA}(k:j.Op.Kind=1)(p:j.Pc=1\/j.Pc=2):D0 j=j.H:=by unfold D0;rw [if_pos k,if_pos p]
theorem nm3{j:bA}(k:j.Op.Kind=1)(p:j.Pc=3):D0 j=j.Old:=by unfold D0;rw [if_pos k,if_neg (by omega),if_pos p]
theorem R0{b:aA}{J:Int->bA}{w:Int}{j':bA}(name:D0 j'=D0 (J w))(old:(J w).Op.Kind≠1\/(J w).Pc≠3)(col:j'.Op.Kind≠4\/j'.Pc≠1):Qt b b J w j':=
 ⟨rfl,rfl,Int.le_refl _,fun _ _ _ p=>⟨p,rfl⟩,fun _ _ _=>rfl,name,fun k p=>by omega,fun _ _ _ _ _=>by rcases col with q | q;exact OS q;exact fun _ p=>absurd p q⟩
theorem R1{b:aA}{cl:aB}{J:Int->bA}{w:Int}{j':bA}(ep:b.aB.aG<=cl.aG)(pin:∀v,0<=v/\v<=2->v≠w->Pinned cl v->Pinned b.aB v/\(bQ cl v).aG=(bQ b.aB v).aG)(name:D0 j'=D0 (J w))(old:(J w).Op.Kind≠1\/(J w).Pc≠3)(col:j'.Op.Kind≠4\/j'.Pc≠1\/j'.Sub.Pc=0):Qt b ⟨b.Mem,cl,b.aL,b.iS⟩ J w j':=
 ⟨rfl,rfl,ep,pin,fun _ _ _=>rfl,name,fun k p=>by omega,fun _ _ _ _ _=>by
  rcases col with q | q | q
  ·exact OS q
  ·exact fun _ p=>absurd p q
  ·exact fun _ _ _=>by omega⟩
theorem aUK{b:aA}(hc:IC b.aB){w:Int}(hw:0<=w/\w<=2)(s:Sub):∃cl:aB,(OM b w s).1=⟨b.Mem,cl,b.aL,b.iS⟩/\cl.aG=b.aB.aG/\∀v,0<=v/\v<=2->v≠w->bQ cl v=bQ b.aB v:=by
 unfold OM GZ
 split
 ·exact⟨_,rfl,rfl,fun _ _ _=>rfl⟩
 split
 ·split
  ·refine⟨⟨b.aB.aG,b.aB.cG.set w.toNat ⟨true,s.E,false,0⟩⟩,rfl,rfl,fun v hv hn=>by rw [nV hc hw hv,if_neg hn]⟩
  ·exact⟨_,rfl,rfl,fun _ _ _=>rfl⟩
 split
 ·split
  ·exact⟨_,rfl,rfl,fun _ _ _=>rfl⟩
  ·exact⟨_,rfl,rfl,fun _ _ _=>rfl⟩
 ·exact⟨_,rfl,rfl,fun _ _ _=>rfl⟩
theorem aOM{c:aB}(hc:IC c){w:Int}(hw:0<=w/\w<=2):(rY c w).1.aG=c.aG/\∀v,0<=v/\v<=2->v≠w->bQ (rY c w).1 v=bQ c v:=by
 unfold rY
 split
 ·exact⟨rfl,fun v hv hn=>by rw [nV hc hw hv,if_neg hn]⟩
 ·exact⟨rfl,fun _ _ _=>rfl⟩
theorem WM{c c':aB}{v:Int}(h:bQ c' v=bQ c v)(p:Pinned c' v):Pinned c v/\(bQ c' v).aG=(bQ c v).aG:=by
 unfold Pinned at *;rw [h] at p;exact⟨p,by rw [h]⟩
theorem aMS{b:aA}(hc:IC b.aB)(s:Sub):∃cl:aB,(d9 b s).1=⟨b.Mem,cl,b.aL,b.iS⟩/\b.aB.aG<=cl.aG/\∀v,0<=v/\v<=2->Pinned cl v->Pinned b.aB v/\(bQ cl v).aG=(bQ b.aB v).aG:=by
 unfold d9
 split
 ·exact⟨_,rfl,Int.le_refl _,fun _ _ p=>⟨p,rfl⟩⟩
 split
 ·split
  ·rename_i hB
   obtain⟨l1,l2,_⟩:=aKK hc hB s.E
   have key:b.aB.aG<=(lZ b.aB s.B s.E).1.aG/\∀v,0<=v/\v<=2->Pinned (lZ b.aB s.B s.E).1 v->Pinned b.aB v/\(bQ (lZ b.aB s.B s.E).1 v).aG=(bQ b.aB v).aG:=⟨by omega,fun v hv p=>by
    obtain⟨a1,a2,a3⟩:=l2 v hv
    exact⟨⟨by rw [<-a1];exact p.1,a3 p.2⟩,a2⟩⟩
   split <;> exact⟨_,rfl,key.1,key.2⟩
  ·exact⟨_,rfl,Int.le_refl _,fun _ _ p=>⟨p,rfl⟩⟩
 split
 ·refine⟨_,rfl,?_,?_⟩
  ·unfold G8;split
   ·rename_i q;simp only;omega
   ·exact Int.le_refl _
  ·intro v hv p
   unfold G8 at p ⊢
   split
   ·rename_i q
    rw [if_pos q] at p
    exact⟨p,rfl⟩
   ·rename_i q
    rw [if_neg q] at p
    exact⟨p,rfl⟩
 ·exact⟨_,rfl,Int.le_refl _,fun _ _ p=>⟨p,rfl⟩⟩
theorem X5{z:List Int}(hz:ID z){w v:Int}(hw:0<=w/\w<=2)(hv:0<=v/\v<=2){H:Int}(hh:jH H):iL (DS z w H) v=if v=w then H else iL z v:=by
 have:=hz.1
 unfold DS iL
 rw [if_pos hh]
 simp only [List.getD_eq_getElem?_getD,List.getElem?_set]
 by_cases q:v=w
 ·subst q;simp [show v.toNat < z.length by omega]
 ·rw [if_neg q,if_neg (by omega)]
theorem aON{z:List Int}(hz:ID z){w v:Int}(hw:0<=w/\w<=2)(hv:0<=v/\v<=2)(hn:v≠w):iL (RT z w) v=iL z v:=by
 unfold RT
 split
 ·rfl
 ·unfold iL
  simp only [List.getD_eq_getElem?_getD,List.getElem?_set]
  rw [if_neg (by omega)]
theorem aMT{c:List Int}(h2:c.length=2){k i:Int}(hk:0<=k/\k<=1)(hi:0<=i/\i<=1)(x:Int):cellAt (c.set k.toNat x) i=if i=k then x else cellAt c i:=by
 unfold cellAt
 simp only [List.getD_eq_getElem?_getD,List.getElem?_set]
 by_cases q:i=k
 ·subst q;simp [show i.toNat < c.length by omega]
 ·rw [if_neg q,if_neg (by omega)]
end Go.Gv
end
noncomputable section
namespace Go.Gv
noncomputable section
variable {s:aD} (hs:mW s) {n:Int} (h:Sv s.aA s.Cells (aJ s) s.Log n) (hep:Ep s.aA.aB (aJ s)) {w:Int} (hw:0<=w/\w<=2) {j:bA} (hj:aJ s w=j) (hb:j.cN=true) (hjk:lH j.Op/\cW j.H/\cW j.Old)
include hs h hep hw hj hb
theorem aD6{pc:Int}(g:aUI j)(l:aD4 j):Told (rdx s.Log j.aI) (jI s.aA.aB w j pc).Code (jI s.aA.aB w j pc).dV:=by
 unfold jI
 by_cases q:(bQ s.aA.aB w).On=true/\(bQ s.aA.aB w).dC=false
 ·rw [if_pos q]
  have:=h.jv w hw
  rw [hj] at this
  obtain⟨_,x,⟨e,x1,x2,x3,x4⟩,_,x5⟩:=this.g g q
  refine⟨fun _=>⟨e,x,x1,by rw [x3];exact x4,by rw [x2,x3],(x5 l).symm⟩,fun q=>by simp [b9] at q⟩
 ·rw [if_neg q];exact Told.other (by simp [b9]) (by simp [b9])
theorem aIT{e H:Int}(sa:qT s.aA s.Cells (aJ s) e H)(h0:H≠0):XY s.aA.Mem.aE H=uH s.aA.Mem.aE (H % 32):=by
 have l:=sa.live hs.1 h.ow h0
 exact aUE l.1 (hJ l.2.1)
include hjk
theorem aZ4(k2:j.Op.Kind=2):Sv (NC s w j).b (NC s w j).c (KW (aJ s) w (NC s w j).j) (s.Log++(NC s w j).l) n:=by
 have hB:(aJ s w).cN=true:=by rw [hj];exact hb
 have hc:=hs.1.1.2.1
 have own:=h.jv w hw
 have nk:(aJ s w).Op.Kind≠1\/(aJ s w).Pc≠3:=.inl (by rw [hj];omega)
 have nm0:∀j':bA,j'.Op.Kind=j.Op.Kind->D0 j'=D0 (aJ s w):=fun j' q=>by rw [r9 (by omega),r9 (by rw [hj];omega)]
 have nc:∀j':bA,j'.Op.Kind=j.Op.Kind->j'.Op.Kind≠4\/j'.Pc≠1:=fun j' q=>.inl (by omega)
 have q0:=fun(j':bA) (q:j'.Op.Kind=j.Op.Kind)=>R0 (b:=s.aA) (J:=aJ s) (w:=w) (nm0 j' q) nk (nc j' q)
 have cell:=hjk.1.2.2.1
 have hcv:=h.cv j.Op.Cell cell
 rw [hj] at own
 unfold NC
 by_cases p0:j.Pc=0
 ·rw [if_pos p0]
  obtain⟨_,_,_,i4⟩:=hep.1 w hw hB
  rw [hj] at i4
  obtain⟨sk,sd,_⟩:=i4 ⟨hb,.inl k2,p0⟩
  have es:eF s.aA w j.Sub=OM s.aA w j.Sub:=by unfold eF;simp [sk,sd]
  rw [es]
  obtain⟨cl,e1,e2,e3⟩:=aUK hc hw j.Sub
  simp only [e1]
  refine h.quiet hs.1 hep hw (R1 (by omega) (fun v hv hn p=>WM (e3 v hv hn) p) (nm0 _ (by split <;> rfl)) nk (.inl (by split <;> (simp only [b9];omega)))) hB (by rw [hj];split <;> rfl) (.inl rfl) ?_
  split
  ·exact G3 hb (.inl k2) (fun g=>absurd g (IF (.inr (.inl ⟨rfl,k2⟩)))) (fun q=>by simp [b9] at q)
  ·exact G3 hb (.inl k2) (fun g=>absurd g (IF (.inl p0))) (fun q=>by simp only at q;omega)
 rw [if_neg p0]
 by_cases p1:j.Pc=1
 ·rw [if_pos p1]
  by_cases c0:cellAt s.Cells j.Op.Cell=0
  ·rw [if_pos c0,c0]
   refine h.quiet hs.1 hep hw (by exact q0 _ rfl) hB (by exact(congrArg bA.aI hj).symm) (.inr ⟨0,by rw [hj]⟩) ?_
   have rs:=SJ (L:=s.Log) (w:=w) j 0
   refine G3 hb (.inl k2) (fun g=>absurd g (IF (.inr (.inr (.inl rfl))))) fun _=>⟨fun q=>by simp [b9] at q,fun _=>⟨_,_,rs,by rw [hcv.1,c0],rfl⟩⟩
  ·rw [if_neg c0]
   refine h.quiet hs.1 hep hw (by exact q0 _ rfl) hB (by exact(congrArg bA.aI hj).symm) (.inr ⟨_,by rw [hj]⟩) ?_
   have rs:=SJ (L:=s.Log) (w:=w) j (cellAt s.Cells j.Op.Cell)
   refine G3 hb (.inl k2) (fun _ _=>⟨.inl ⟨_,cell,rfl⟩,_,⟨_,rs,rfl,hcv.1,c0⟩,fun _=>hcv.2 c0,fun l=>?_⟩) (fun q=>by simp [b9] at q)
   rcases l with ⟨_,l⟩ | ⟨l,_⟩
   ·simp [b9] at l
   ·simp only [b9] at l;omega
 rw [if_neg p1]
 by_cases p2:j.Pc=2
 ·rw [if_pos p2]
  have q:=q0 (b9 {j with dV:=XY s.aA.Mem.aE j.H} 3 0) rfl
  refine h.quiet hs.1 hep hw q hB (by exact(congrArg bA.aI hj).symm) (.inl rfl) ?_
  rw [List.append_nil]
  refine G3 hb (.inl k2) (fun _ p=>?_) (fun q=>by simp [b9] at q)
  obtain⟨sa,x,x1,x2,_⟩:=own.g (.inl ⟨k2,.inl p2⟩) p
  have x2:=x2 fun l=>by rcases l with l | l <;> omega
  have h0:=x1.choose_spec.2.2.2
  refine⟨q.safe hw ((DP hc hw).1.2) sa,x,x1,fun nl=>absurd (.inl ⟨k2,rfl⟩) nl,fun _=>?_⟩
  show XY s.aA.Mem.aE j.H=x.dV
  rw [aIT hs h hep hw hj hb sa h0,x2]
 rw [if_neg p2]
 by_cases p3:j.Pc=3
 ·rw [if_pos p3]
  have ct:=aD6 hs h hep hw hj hb (pc:=4) (.inl ⟨k2,.inr p3⟩) (.inl ⟨k2,p3⟩)
  have ce:(jI s.aA.aB w j 4).Op=j.Op/\(jI s.aA.aB w j 4).aI=j.aI/\(jI s.aA.aB w j 4).cN=true/\(jI s.aA.aB w j 4).Pc=4:=by unfold jI;split <;> exact⟨rfl,rfl,hb,rfl⟩
  generalize jI s.aA.aB w j 4=j' at ct ce
  refine h.quiet hs.1 hep hw (by exact q0 _ (by rw [ce.1])) hB (by rw [hj];exact ce.2.1) (.inl rfl) ?_
  rw [List.append_nil]
  exact G3 ce.2.2.1 (.inl (by rw [ce.1];exact k2)) (fun g=>absurd g (IF (.inr (.inr (.inl ce.2.2.2))))) fun _=>by rw [ce.2.1];exact ct
 rw [if_neg p3]
 by_cases p4:j.Pc=4
 ·rw [if_pos p4]
  obtain⟨u1,u2⟩:=aOM hc hw
  refine h.quiet hs.1 hep hw (R1 (by omega) (fun v hv hn p=>WM (u2 v hv hn) p) (nm0 (b9 j 9 j.Code) rfl) nk (.inl (by simp only [b9];omega))) hB (by exact(congrArg bA.aI hj).symm) (.inl rfl) ?_
  rw [List.append_nil]
  exact G3 hb (.inl k2) (fun g=>absurd g (IF (.inr (.inr (.inr rfl))))) fun _=>own.t (.inl k2) (.inr p4)
 rw [if_neg p4]
 refine h.quiet hs.1 hep hw (by exact q0 _ rfl) hB (by exact(congrArg bA.aI hj).symm) (.inl rfl) ?_
 exact G3 hb (.inl k2) (fun g=>absurd g (IF (.inr (.inr (.inr rfl))))) fun _=>Told.other (by simp [b9]) (by simp [b9])
theorem aW6(k7:j.Op.Kind=7):Sv (GG s w j).b (GG s w j).c (KW (aJ s) w (GG s w j).j) (s.Log++(GG s w j).l) n:=by
 have hB:(aJ s w).cN=true:=by rw [hj];exact hb
 have hc:=hs.1.1.2.1
 have own:=h.jv w hw
 have nk:(aJ s w).Op.Kind≠1\/(aJ s w).Pc≠3:=.inl (by rw [hj];omega)
 have nm0:∀j':bA,j'.Op.Kind=j.Op.Kind->D0 j'=D0 (aJ s w):=fun j' q=>by rw [r9 (by omega),r9 (by rw [hj];omega)]
 have nc:∀j':bA,j'.Op.Kind=j.Op.Kind->j'.Op.Kind≠4\/j'.Pc≠1:=fun j' q=>.inl (by omega)
 have q0:=fun(j':bA) (q:j'.Op.Kind=j.Op.Kind)=>R0 (b:=s.aA) (J:=aJ s) (w:=w) (nm0 j' q) nk (nc j' q)
 have cell:=hjk.1.2.2.1
 have hcv:=h.cv j.Op.Cell cell
 rw [hj] at own
 have fin:∀{j':bA},j'.Op=j.Op->j'.aI=j.aI->j'.cN=true->j'.Pc=9->Told (rdx s.Log j.aI) j'.Code j'.dV->Sv s.aA s.Cells (KW (aJ s) w j') (s.Log ++ []) n:=fun e1 e2 e3 e4 e5=>by
  refine h.quiet hs.1 hep hw (by exact q0 _ (by rw [e1])) hB (by rw [hj];exact e2) (.inl rfl) ?_
  rw [List.append_nil]
  exact G3 e3 (.inr (by rw [e1];exact k7)) (fun g=>absurd g (IF (.inr (.inr (.inr e4))))) fun _=>by rw [e2];exact e5
 unfold GG
 by_cases p0:j.Pc=0
 ·rw [if_pos p0]
  split
  ·exact fin rfl rfl hb rfl (Told.other (by simp [b9]) (by simp [b9]))
  split
  ·exact fin rfl rfl hb rfl (Told.other (by simp [b9]) (by simp [b9]))
  by_cases c0:cellAt s.Cells j.Op.Cell=0
  ·rw [if_pos c0,c0]
   refine h.quiet hs.1 hep hw (by exact q0 _ rfl) hB (by exact(congrArg bA.aI hj).symm) (.inr ⟨0,by rw [hj]⟩) ?_
   have rs:=SJ (L:=s.Log) (w:=w) j 0
   refine G3 hb (.inr k7) (fun g=>absurd g (IF (.inr (.inr (.inr rfl))))) fun _=>⟨fun q=>by simp [b9] at q,fun _=>⟨_,_,rs,by rw [hcv.1,c0],rfl⟩⟩
  ·rw [if_neg c0]
   refine h.quiet hs.1 hep hw (by exact q0 _ rfl) hB (by exact(congrArg bA.aI hj).symm) (.inr ⟨_,by rw [hj]⟩) ?_
   have rs:=SJ (L:=s.Log) (w:=w) j (cellAt s.Cells j.Op.Cell)
   refine G3 hb (.inr k7) (fun _ _=>⟨.inl ⟨_,cell,rfl⟩,_,⟨_,rs,rfl,hcv.1,c0⟩,fun _=>hcv.2 c0,fun l=>?_⟩) (fun q=>by simp [b9] at q)
   rcases l with ⟨l,_⟩ | ⟨_,l⟩
   ·simp only [b9] at l;omega
   ·simp [b9] at l
 rw [if_neg p0]
 by_cases p1:j.Pc=1
 ·rw [if_pos p1]
  have q:=q0 (b9 {j with dV:=XY s.aA.Mem.aE j.H} 2 0) rfl
  refine h.quiet hs.1 hep hw q hB (by exact(congrArg bA.aI hj).symm) (.inl rfl) ?_
  rw [List.append_nil]
  refine G3 hb (.inr k7) (fun _ p=>?_) (fun q=>by simp [b9] at q)
  obtain⟨sa,x,x1,x2,_⟩:=own.g (.inr ⟨k7,.inl p1⟩) p
  have x2:=x2 fun l=>by rcases l with l | l <;> omega
  have h0:=x1.choose_spec.2.2.2
  refine⟨q.safe hw ((DP hc hw).1.2) sa,x,x1,fun nl=>absurd (.inr ⟨k7,rfl⟩) nl,fun _=>?_⟩
  show XY s.aA.Mem.aE j.H=x.dV
  rw [aIT hs h hep hw hj hb sa h0,x2]
 rw [if_neg p1]
 by_cases p2:j.Pc=2
 ·rw [if_pos p2]
  have ct:=aD6 hs h hep hw hj hb (pc:=9) (.inr ⟨k7,.inr p2⟩) (.inr ⟨k7,p2⟩)
  have ce:(jI s.aA.aB w j 9).Op=j.Op/\(jI s.aA.aB w j 9).aI=j.aI/\(jI s.aA.aB w j 9).cN=true/\(jI s.aA.aB w j 9).Pc=9:=by unfold jI;split <;> exact⟨rfl,rfl,hb,rfl⟩
  exact fin ce.1 ce.2.1 ce.2.2.1 ce.2.2.2 ct
 rw [if_neg p2]
 exact fin rfl rfl hb rfl (Told.other (by simp [b9]) (by simp [b9]))
theorem aZ5(k3:j.Op.Kind=3):Sv (LX s w j).b (LX s w j).c (KW (aJ s) w (LX s w j).j) (s.Log++(LX s w j).l) n:=by
 have hB:(aJ s w).cN=true:=by rw [hj];exact hb
 have hc:=hs.1.1.2.1
 have hz:=hs.1.1.2.2.2
 have own:=h.jv w hw
 have nk:(aJ s w).Op.Kind≠1\/(aJ s w).Pc≠3:=.inl (by rw [hj];omega)
 have nm0:∀j':bA,j'.Op.Kind=j.Op.Kind->D0 j'=D0 (aJ s w):=fun j' q=>by rw [r9 (by omega),r9 (by rw [hj];omega)]
 have nc:∀j':bA,j'.Op.Kind=j.Op.Kind->j'.Op.Kind≠4\/j'.Pc≠1:=fun j' q=>.inl (by omega)
 have q0:=fun(j':bA) (q:j'.Op.Kind=j.Op.Kind)=>R0 (b:=s.aA) (J:=aJ s) (w:=w) (nm0 j' q) nk (nc j' q)
 have cell:=hjk.1.2.2.1
 have hcv:=h.cv j.Op.Cell cell
 rw [hj] at own
 unfold LX
 by_cases p0:j.Pc=0
 ·rw [if_pos p0]
  by_cases c0:cellAt s.Cells j.Op.Cell=0
  ·rw [if_pos c0]
   refine h.quiet hs.1 hep hw (by exact q0 _ rfl) hB (by exact(congrArg bA.aI hj).symm) (.inr ⟨0,by rw [hj]⟩) ?_
   have rs:=SJ (L:=s.Log) (w:=w) j 0
   exact RX hb k3 (fun q=>by simp [b9] at q) (fun q=>by simp [b9] at q) (fun q=>by simp [b9] at q) fun _=>⟨fun q=>by simp [b9] at q,fun _=>⟨_,_,rs,by rw [hcv.1,c0],rfl⟩⟩
  ·rw [if_neg c0]
   refine h.quiet hs.1 hep hw (by exact q0 _ rfl) hB (by exact(congrArg bA.aI hj).symm) (.inl rfl) ?_
   exact RX hb k3 (fun _=>c0) (fun q=>by simp [b9] at q) (fun q=>by simp [b9] at q) (fun q=>by simp [b9] at q)
 rw [if_neg p0]
 by_cases p1:j.Pc=1
 ·rw [if_pos p1]
  have h0:=own.z1 k3 (.inl p1)
  have hh:jH j.H:=hjk.2.1.resolve_left h0
  have q:Qt s.aA ⟨s.aA.Mem,s.aA.aB,s.aA.aL,DS s.aA.iS w j.H⟩ (aJ s) w (b9 j 2 0):=⟨rfl,rfl,Int.le_refl _,fun _ _ _ p=>⟨p,rfl⟩,fun v hv hn=>by rw [X5 hz hw hv hh,if_neg hn],nm0 _ rfl,fun k p=>by omega,fun _ _ _ _ _=>OS (by simp only [b9];omega)⟩
  refine h.quiet hs.1 hep hw q hB (by exact(congrArg bA.aI hj).symm) (.inl rfl) ?_
  exact RX hb k3 (fun _=>h0) (fun _=>by rw [X5 hz hw hw hh,if_pos rfl];rfl) (fun q=>by simp [b9] at q) (fun q=>by simp [b9] at q)
 rw [if_neg p1]
 by_cases p2:j.Pc=2
 ·rw [if_pos p2]
  by_cases ce:cellAt s.Cells j.Op.Cell=j.H
  ·rw [if_pos ce]
   have h0:=own.z1 k3 (.inr (.inl p2))
   refine h.quiet hs.1 hep hw (by exact q0 _ rfl) hB (by exact(congrArg bA.aI hj).symm) (.inr ⟨j.H,by rw [hj]⟩) ?_
   have rs:=SJ (L:=s.Log) (w:=w) j j.H
   refine RX hb k3 (fun _=>h0) (fun _=>own.z2 k3 (.inl p2)) (fun _=>⟨.inl ⟨_,cell,ce⟩,fun a ha=>?_,_,⟨_,rs,rfl,by rw [hcv.1,ce];rfl,h0⟩,?_⟩) (fun q=>by simp [b9] at q)
   ·by_cases z:a=w
    ·subst z;rw [dE];exact OS (by simp only [b9];omega)
    ·rw [eM _ _ z]
     intro k4 a1 aH
     simp only [b9] at aH
     obtain⟨_,_,ck⟩:=(h.jv a ha).k k4 a1
     have hl:=(h.ow.live j.Op.Cell (by omega) (by rw [kK _ _ cell,ce];exact h0)).2
     rw [kK _ _ cell,ce] at hl
     have no:∀{l},DR (bE s.aA.aL a) l->l.H=j.H->False:=fun{l} at_ e=>by
      obtain⟨b1,b2,b3⟩:=at_
      have hm:=GF hs.1.1.2.2.1 ha (WC (l:=bE s.aA.aL a) (k:=l.Row) ⟨b1,b2⟩)
      apply hl
      rw [<-e,<-b3]
      exact aOJ hm (hs.1.2 _ hm).1.1
     rcases ck with ck | ⟨_,ck | ck | ck⟩
     ·exact⟨fun z=>by omega,by omega⟩
     ·exact⟨fun z=>by omega,by omega⟩
     ·exact absurd (no ck.2.2.1 aH) id
     ·exact absurd (no ck.2.1 aH) id
   ·show uH s.aA.Mem.aE (j.H % 32)=_
    rw [<-ce];exact hcv.2 (by rw [ce];exact h0)
  ·rw [if_neg ce]
   refine h.quiet hs.1 hep hw (by exact q0 _ rfl) hB (by exact(congrArg bA.aI hj).symm) (.inl rfl) ?_
   exact RX hb k3 (fun q=>by simp [b9] at q) (fun q=>by simp [b9] at q) (fun q=>by simp [b9] at q) (fun q=>by simp [b9] at q)
 rw [if_neg p2]
 by_cases p3:j.Pc=3
 ·rw [if_pos p3]
  refine h.quiet hs.1 hep hw (by exact q0 _ rfl) hB (by exact(congrArg bA.aI hj).symm) (.inl rfl) ?_
  rw [List.append_nil]
  obtain⟨sa,u,x,x1,x2⟩:=own.z3 k3 p3
  obtain⟨e,y1,y2,y3,h0⟩:=x1
  refine RX hb k3 (fun q=>by simp [b9] at q) (fun q=>by simp [b9] at q) (fun q=>by simp [b9] at q) fun _=>⟨fun _=>⟨e,x,y1,by rw [y3];exact h0,by rw [y2,y3],?_⟩,fun q=>by simp [b9] at q⟩
  show x.dV=XY s.aA.Mem.aE j.H
  rw [aIT hs h hep hw hj hb sa h0,x2]
 rw [if_neg p3]
 by_cases p4:j.Pc=4
 ·rw [if_pos p4]
  have q:Qt s.aA ⟨s.aA.Mem,s.aA.aB,s.aA.aL,RT s.aA.iS w⟩ (aJ s) w (b9 j 9 j.Code):=⟨rfl,rfl,Int.le_refl _,fun _ _ _ p=>⟨p,rfl⟩,fun v hv hn=>aON hz hw hv hn,nm0 _ rfl,fun k p=>by omega,fun _ _ _ _ _=>OS (by simp only [b9];omega)⟩
  refine h.quiet hs.1 hep hw q hB (by exact(congrArg bA.aI hj).symm) (.inl rfl) ?_
  rw [List.append_nil]
  exact RX hb k3 (fun q=>by simp [b9] at q) (fun q=>by simp [b9] at q) (fun q=>by simp [b9] at q) fun _=>own.t (.inr (.inl k3)) (.inr p4)
 rw [if_neg p4]
 refine h.quiet hs.1 hep hw (by exact q0 _ rfl) hB (by exact(congrArg bA.aI hj).symm) (.inl rfl) ?_
 exact RX hb k3 (fun q=>by simp [b9] at q) (fun q=>by simp [b9] at q) (fun q=>by simp [b9] at q) fun _=>Told.other (by simp [b9]) (by simp [b9])
end
end Go.Gv
end
noncomputable section
namespace Go.Gv
theorem map_inj{α:Type}{f:α->Int}:∀{l:List α},(l.map f).Nodup->∀x∈l,∀y∈l,f x=f y->x=y
 | [],_,x,hx,_,_,_=>by cases hx
 | a :: t, h, x, hx, y, hy, e => by
  rw [List.map_cons,List.nodup_cons] at h
  rcases List.mem_cons.1 hx with ex | hx
  ·rcases List.mem_cons.1 hy with ey | hy
   ·rw [ex,ey]
   ·exact absurd (List.mem_map.2 ⟨y,hy,by rw [<-e,ex]⟩) h.1
  ·rcases List.mem_cons.1 hy with ey | hy
   ·exact absurd (List.mem_map.2 ⟨x,hx,by rw [e,ey]⟩) h.1
   ·exact map_inj h.2 x hx y hy e
theorem aD7{l:List aY}(h3:l.length=3){w v:Int}(hw:0<=w/\w<=2)(hv:0<=v/\v<=2)(hn:v≠w)(x:aY):bE (l.set w.toNat x) v=bE l v:=by
 unfold bE
 simp only [List.getD_eq_getElem?_getD,List.getElem?_set]
 rw [if_neg (by omega)]
theorem aUL{l:List aY}(hl:oP l){w:Int}(hw:0<=w/\w<=2){x r:cZ}:r∈bC (l.set w.toNat ⟨bE l w ++ [x]⟩)↔r∈bC l\/r=x:=by
 have h3:=hl.1
 have kx:w.toNat < l.length:=by omega
 have hrow:l[w.toNat].Rows=bE l w:=by
  have:=A1 hl hw
  rw [fH hw.1 (by omega)] at this
  injection this with this
  rw [this]
 rw [EG kx,BC kx,hrow]
 simp only [List.mem_append,List.mem_singleton]
 constructor
 ·rintro(a | (a | a) | a)
  ·exact .inl (.inl a)
  ·exact .inl (.inr (.inl a))
  ·exact .inr a
  ·exact .inl (.inr (.inr a))
 ·rintro((a | a | a) | a)
  ·exact .inl a
  ·exact .inr (.inl (.inl a))
  ·exact .inr (.inr a)
  ·exact .inr (.inl (.inr a))
noncomputable section
variable {s:aD} (hs:mW s) {n:Int} (h:Sv s.aA s.Cells (aJ s) s.Log n) (hep:Ep s.aA.aB (aJ s)) {w:Int} (hw:0<=w/\w<=2) {j:bA} (hj:aJ s w=j) (hb:j.cN=true) (hjk:lH j.Op/\cW j.H/\cW j.Old)
include hs h hep hw hj hb
theorem aKX{b':aA}(hl:b'.aL=s.aA.aL){j':bA}(h3:(aJ s w).Pc≠3\/(aJ s w).Op.Kind≠1){e H:Int}(sa:qT s.aA s.Cells (aJ s) e H):qT b' s.Cells (KW (aJ s) w j') e H:=by
 rcases sa with sa | ⟨v,hv,k1,p3,o⟩ | sa
 ·exact .inl sa
 ·have z:v≠w:=fun z=>by subst z;omega
  exact .inr (.inl ⟨v,hv,by rw [eM _ _ z];exact⟨k1,p3,o⟩⟩)
 ·rw [<-hl] at sa;exact .inr (.inr sa)
theorem aIU{j':bA}(hk:j'.Op.Kind≠4){v H:Int}(u:OR (aJ s) v H):OR (KW (aJ s) w j') v H:=fun a ha=>by
 by_cases z:a=w
 ·subst z;rw [dE];exact OS hk
 ·rw [eM _ _ z];exact u a ha
include hjk
theorem aZ6(k1:j.Op.Kind=1):Sv (OO s w j).b (OO s w j).c (KW (aJ s) w (OO s w j).j) (s.Log++(OO s w j).l) n:=by
 have hB:(aJ s w).cN=true:=by rw [hj];exact hb
 have hc:=hs.1.1.2.1
 have hm:=hs.1.1.1
 have own:=h.jv w hw
 have cell:=hjk.1.2.2.1
 have hcv:=h.cv j.Op.Cell cell
 have hval:0<=j.Op.dV/\j.Op.dV<=65535:=by have:=hjk.1.2.2.2;rw [if_pos k1] at this;exact this.2
 have sn:=h.se.2.1 w hw hB
 rw [hj] at own sn
 have rn:=own.n hb (by unfold Reads;omega)
 have i4:(w+2:Int) ≥ 0/\w+2<=4:=by omega
 unfold OO
 by_cases p0:j.Pc=0
 ·rw [if_pos p0]
  obtain⟨sk,sd,sp⟩:=own.s0 k1 p0
  obtain⟨e1,e2,e3,e4⟩:=aW4 hm hw sk sd sp
  have eb:(eF s.aA w j.Sub).1=⟨(eF s.aA w j.Sub).1.Mem,s.aA.aB,s.aA.aL,s.aA.iS⟩:=by rw [<-e1,<-e2,<-e3]
  have n0:D0 (aJ s w)=0:=by rw [hj];exact WL (by omega) (by omega) (by omega)
  have nk:(aJ s w).Op.Kind≠1\/(aJ s w).Pc≠3:=.inr (by rw [hj];omega)
  generalize hr:eF s.aA w j.Sub=r at e1 e2 e3 e4 eb
  rcases e4 with ⟨m0,m1⟩ | ⟨d,c0,hn,lv,tk⟩
  ·rw [m0] at eb
   have eb':r.1=s.aA:=by rw [eb]
   have q:=fun(j':bA) (hk:j'.Op.Kind=j.Op.Kind) (hp:j'.Pc=0\/j'.Pc=9)=>R0 (b:=s.aA) (J:=aJ s) (w:=w) (j':=j') (by rw [n0,WL (by omega) (by omega) (by omega)]) nk (.inl (by omega))
   rcases m1 with ⟨d,c0⟩ | ⟨d,m1⟩
   ·rw [if_pos d,if_pos c0,eb']
    refine h.quiet hs.1 hep hw (by exact q _ rfl (.inr rfl)) hB (by exact(congrArg bA.aI hj).symm) (.inl rfl) ?_
    rw [List.append_nil]
    exact RY hb k1 (fun q=>by simp [b9] at q) (fun q=>by simp [b9] at q) (fun q=>by simp [b9] at q) (fun q=>by simp [b9] at q) rn
   ·rw [d,if_neg (by simp),eb']
    refine h.quiet hs.1 hep hw (by exact q _ rfl (.inl p0)) hB (by rw [hj]) (.inl rfl) ?_
    rw [List.append_nil]
    exact RY hb k1 (fun _=>⟨m1.1,d,m1.2⟩) (fun q=>by simp only at q;omega) (fun q=>by simp only at q;omega) (fun q=>by simp only at q;omega) rn
  ·rw [if_pos d,if_neg (by omega),if_pos hn,List.append_nil]
   have h0:r.2.Out≠0:=by unfold jH at hn;omega
   have nj:D0 (b9 {j with Sub:=r.2,H:=r.2.Out} 1 0)=r.2.Out:=aP4 k1 (.inl rfl)
   have dat:∀H,hC s.aA.Mem H->uH r.1.Mem.aE (H % 32)=uH s.aA.Mem.aE (H % 32):=fun H hl=>(tk.same _ hl.2.1).2
   refine h.make hs.1 hep hw ?_ (fun k hk=>?_) (fun v hv hn=>⟨by rw [e1];exact Int.le_refl _,by rw [e2],fun p=>by rw [e1] at p ⊢;exact⟨p,rfl⟩,by rw [e3],fun e H _ _ _ sa=>aKX hs h hep hw hj hb e2 nk.symm sa,fun _ u=>aIU hs h hep hw hj hb (by simp only [b9];omega) u,fun e H sa hH=>dat H (sa.live hs.1 h.ow hH),fun hH=>?_⟩) ?_ (fun _ _=>rfl) h.tr h.se.1 (Int.le_refl _) fun _=>⟨sn,.inl ⟨by rw [hj];rfl,hB⟩⟩
   ·refine h.ow.a3G hs.1 e2 tk lv (i:=w+2) ⟨by omega,by omega⟩ (by rw [fI _ _ hw,n0]) (by rw [fI _ _ hw,dE,nj]) fun i hi q=>GH hw hi q fun _ _ _=>rfl
   ·refine⟨(h.cv k hk).1,fun q=>?_⟩
    have l:=(h.ow.live k (by omega) (by rw [kK _ _ hk];exact q)).1
    rw [kK _ _ hk] at l
    rw [dat _ l];exact(h.cv k hk).2 q
   ·have l:=(h.ow.live (v+2) (by omega) (by rw [fI _ _ hv];exact hH)).1
    rw [fI _ _ hv] at l
    exact dat _ l
   ·exact RY hb k1 (fun q=>by simp [b9] at q) (fun _=>h0) (fun q=>by simp [b9] at q) (fun q=>by simp [b9] at q) rn
 rw [if_neg p0]
 by_cases p1:j.Pc=1
 ·rw [if_pos p1]
  have nk:(aJ s w).Op.Kind≠1\/(aJ s w).Pc≠3:=.inr (by rw [hj];omega)
  have hH:=own.s1 k1 (.inl p1)
  have nw:D0 (aJ s w)=j.H:=by rw [hj];exact aP4 k1 (.inl p1)
  have lv:=(h.ow.live (w+2) (by omega) (by rw [fI _ _ hw,nw];exact hH)).1
  rw [fI _ _ hw,nw] at lv
  obtain⟨c0,st⟩:=aKU hm lv hval
  rw [c0,if_pos rfl,List.append_nil]
  have nj:D0 (b9 j 2 0)=j.H:=aP4 (j:=b9 j 2 0) k1 (.inr rfl)
  have dat:∀H,hC s.aA.Mem H->H % 32≠j.H % 32->uH (wB s.aA.Mem j.H j.Op.dV).1.aE (H % 32)=uH s.aA.Mem.aE (H % 32):=fun H hl q=>by rw [st.dat _ (hJ hl.2.1),if_neg q]
  have gen:∀H,hC s.aA.Mem H->iG (wB s.aA.Mem j.H j.Op.dV).1.aE (H % 32)=iG s.aA.Mem.aE (H % 32):=fun H hl=>st.gen _ (hJ hl.2.1)
  have ap:∀i,0<=i/\i<=4->i≠w+2->nm s.Cells (aJ s) i≠0->nm s.Cells (aJ s) i % 32≠j.H % 32:=fun i hi q hn e=>by
   have l:=(h.ow.live i hi hn).1
   have:=WJ l lv e
   exact q (h.ow.once i (w+2) hi (by omega) hn (by rw [fI _ _ hw,nw];exact this))
  refine h.make hs.1 hep hw ?_ (fun k hk=>?_) (fun v hv hn=>⟨Int.le_refl _,rfl,fun p=>⟨p,rfl⟩,rfl,fun e H _ _ _ sa=>aKX hs h hep hw hj hb rfl nk.symm sa,fun _ u=>aIU hs h hep hw hj hb (by simp only [b9];omega) u,fun e H sa hH'=>?_,fun hH'=>?_⟩) ?_ (fun _ _=>rfl) h.tr h.se.1 (Int.le_refl _) fun _=>⟨sn,.inl ⟨by rw [hj];rfl,hB⟩⟩
  ·have he:∀i,0<=i/\i<=4->nm s.Cells (KW (aJ s) w (b9 j 2 0)) i=nm s.Cells (aJ s) i:=fun i hi=>by
    by_cases z:i=w+2
    ·subst z;rw [fI _ _ hw,fI _ _ hw,dE,nj,nw]
    ·exact GH hw hi z fun _ _ _=>rfl
   refine⟨fun i hi hn=>?_,fun i k hi hk hn e=>?_,fun t ht hh=>?_⟩
   ·rw [he i hi] at hn ⊢
    obtain⟨a,b⟩:=h.ow.live i hi hn
    exact⟨⟨a.1,by rw [st.state];exact a.2.1,by rw [gen _ a];exact a.2.2⟩,b⟩
   ·rw [he i hi] at hn
    rw [he i hi,he k hk] at e
    exact h.ow.once i k hi hk hn e
   ·rw [st.state] at ht
    obtain⟨i,a,b,c⟩:=h.ow.all t ht hh
    exact⟨i,a,by rw [he i a];exact b,by rw [he i a];exact c⟩
  ·refine⟨(h.cv k hk).1,fun q=>?_⟩
   have hn:nm s.Cells (aJ s) k≠0:=by rw [kK _ _ hk];exact q
   have l:=(h.ow.live k (by omega) hn).1
   have a:=ap k (by omega) (by omega) hn
   rw [kK _ _ hk] at l a
   show uH (wB s.aA.Mem j.H j.Op.dV).1.aE _=_
   rw [dat _ l a];exact(h.cv k hk).2 q
  ·have l:=sa.live hs.1 h.ow hH'
   have a:=sa.apart hs.1 h.ow hH' hw (by rw [hj];exact k1) (by rw [hj];exact .inl p1) (by rw [hj];exact hH)
   rw [hj] at a
   exact dat _ l a
  ·have hn':nm s.Cells (aJ s) (v+2)≠0:=by rw [fI _ _ hv];exact hH'
   have l:=(h.ow.live (v+2) (by omega) hn').1
   have a:=ap (v+2) (by omega) (by omega) hn'
   rw [fI _ _ hv] at l a
   exact dat _ l a
  ·refine RY hb k1 (fun q=>by simp [b9] at q) (fun _=>hH) (fun _=>?_) (fun q=>by simp [b9] at q) rn
   show uH (wB s.aA.Mem j.H j.Op.dV).1.aE (j.H % 32)=j.Op.dV
   rw [st.dat _ (hJ lv.2.1),if_pos rfl]
 rw [if_neg p1]
 by_cases p2:j.Pc=2
 ·rw [if_pos p2]
  have hH:=own.s1 k1 (.inr p2)
  have nw:D0 (aJ s w)=j.H:=by rw [hj];exact aP4 k1 (.inr p2)
  have c2:=hs.2.1
  have cs:=fun i (hi:0<=i/\i<=1)=>aMT (c:=s.Cells) c2 cell hi j.H
  have je:∃j',(if cellAt s.Cells j.Op.Cell=0 then b9 {j with Old:=0} 9 0 else b9 {j with Sub:=tA 2 (cellAt s.Cells j.Op.Cell),Old:=cellAt s.Cells j.Op.Cell} 3 0)=j'/\D0 j'=cellAt s.Cells j.Op.Cell/\j'.Op=j.Op/\j'.aI=j.aI/\j'.cN=true/\(cellAt s.Cells j.Op.Cell≠0->j'.Pc=3/\j'.Old=cellAt s.Cells j.Op.Cell/\j'.Sub.Pc=0) /\
    ((cellAt s.Cells j.Op.Cell=0/\j'.Pc=9)\/j'.Pc=3/\j'.Old≠0/\aZ2 s.aA j'.Old j'.Sub):=by
   by_cases c0:cellAt s.Cells j.Op.Cell=0
   ·exact⟨b9 {j with Old:=0} 9 0,by rw [if_pos c0],by rw [c0];exact WL (by simp [b9]) (by simp [b9]) (by simp [b9]),rfl,rfl,hb,fun z=>absurd c0 z,.inl ⟨c0,rfl⟩⟩
   ·exact⟨b9 {j with Sub:=tA 2 (cellAt s.Cells j.Op.Cell),Old:=cellAt s.Cells j.Op.Cell} 3 0,by rw [if_neg c0],nm3 k1 rfl,rfl,rfl,hb,fun _=>⟨rfl,rfl,rfl⟩,.inr ⟨rfl,c0,rfl,rfl,rfl,.inl rfl⟩⟩
  obtain⟨j',ej,nj,jo,jse,jb,j3,jc⟩:=je
  rw [ej]
  generalize hE:(⟨2,w,j.aI,j.Op.Cell,j.H,j.Op.dV,0⟩:Ev)=E
  have eK:E.Kind=2:=by rw [<-hE]
  have eC:E.Cell=j.Op.Cell:=by rw [<-hE]
  have eH:E.Handle=j.H:=by rw [<-hE]
  have eV:E.dV=j.Op.dV:=by rw [<-hE]
  have eS:E.aI=j.aI:=by rw [<-hE]
  have sE:∀k,swp (s.Log ++ [E]) k=if k=j.Op.Cell then E else swp s.Log k:=fun k=>by
   rw [aA4,eK,eC]
   by_cases z:k=j.Op.Cell
   ·rw [if_pos ⟨rfl,z.symm⟩,if_pos z]
   ·rw [if_neg (fun q=>z q.2.symm),if_neg z]
  have rE:∀m,rdx (s.Log ++ [E]) m=rdx s.Log m:=fun m=>by rw [WK,if_neg (fun z=>by have:=z.1;omega)]
  have safe:∀e H,H≠0->qT s.aA s.Cells (aJ s) e H->qT s.aA (s.Cells.set j.Op.Cell.toNat j.H) (KW (aJ s) w j') e H:=fun e H h0 sa=>by
   rcases sa with ⟨k,hk,q⟩ | ⟨v,hv,v1,v2,v3⟩ | sa
   ·by_cases z:k=j.Op.Cell
    ·subst z
     obtain⟨a1,a2,a3⟩:=j3 (by rw [q];exact h0)
     exact .inr (.inl ⟨w,hw,by rw [dE,jo];exact⟨k1,a1,by rw [a2,q],.inl a3⟩⟩)
    ·exact .inl ⟨k,hk,by rw [cs k hk,if_neg z];exact q⟩
   ·have z:v≠w:=fun z=>by subst z;rw [hj] at v2;omega
    exact .inr (.inl ⟨v,hv,by rw [eM _ _ z];exact⟨v1,v2,v3⟩⟩)
   ·exact .inr (.inr sa)
  show Sv s.aA (s.Cells.set j.Op.Cell.toNat j.H) (KW (aJ s) w j') (s.Log ++ [E]) n
  refine h.make hs.1 hep hw ?_ (fun k hk=>?_) (fun v hv hn=>⟨Int.le_refl _,rfl,fun p=>⟨p,rfl⟩,rfl,fun e H h0 _ _ sa=>safe e H h0 sa,fun _ u=>aIU hs h hep hw hj hb (by rw [jo];omega) u,fun _ _ _ _=>rfl,fun _=>rfl⟩) ?_ (fun m _=>rE m) (h.tr.snoc fun z=>by omega) (fun e he=>?_) (Int.le_refl _) fun _=>⟨by rw [jse];exact sn,.inl ⟨by rw [hj];exact jse,hB⟩⟩
  ·refine h.ow.perm rfl rfl (fun i=>if i=j.Op.Cell then w+2 else if i=w+2 then j.Op.Cell else i) (fun i hi=>?_) (fun i=>?_) (fun i hi=>?_)
   ·(try simp only);split <;> (try split) <;> omega
   ·by_cases a:i=j.Op.Cell
    ·simp only [if_pos a,if_neg (show ¬w+2=j.Op.Cell by omega),if_true];omega
    ·by_cases b:i=w+2
     ·simp only [if_neg a,if_pos b,if_true];omega
     ·simp only [if_neg a,if_neg b]
   ·(try simp only)
    by_cases a:i=j.Op.Cell
    ·rw [if_pos a,a,kK _ _ cell,cs _ cell,if_pos rfl,fI _ _ hw,nw]
    ·rw [if_neg a]
     by_cases b:i=w+2
     ·rw [if_pos b,b,fI _ _ hw,dE,nj,kK _ _ cell]
     ·rw [if_neg b]
      exact GH hw hi b fun k hk e=>by rw [cs k hk,if_neg (by omega)]
  ·rw [sE k,cs k hk]
   by_cases z:k=j.Op.Cell
   ·simp only [if_pos z]
    exact⟨eH,fun _=>by rw [eV];exact own.s2 k1 p2⟩
   ·simp only [if_neg z];exact h.cv k hk
  ·rw [rE,jse]
   have p93:j'.Pc=9\/j'.Pc=3:=jc.imp And.right And.left
   refine RY jb (by rw [jo];exact k1) (fun q=>by omega) (fun q=>by omega) (fun q=>by omega) (fun q=>?_) rn
   rcases jc with ⟨_,z⟩ | ⟨_,z⟩
   ·omega
   ·exact z
  ·rcases List.mem_append.1 he with z | z
   ·exact h.se.1 e z
   ·rw [List.mem_singleton.1 z,eS];exact sn
 rw [if_neg p2]
 by_cases p3:j.Pc=3
 ·rw [if_pos p3]
  obtain⟨o0,sk,sd,sa,sp⟩:=own.s3 k1 p3
  have es:eF s.aA w j.Sub=AN s.aA w j.Sub:=by unfold eF;simp [sk,sd]
  have nw:D0 (aJ s w)=j.Old:=by rw [hj];exact nm3 k1 p3
  have lo:=h.ow.live (w+2) (by omega) (by rw [fI _ _ hw,nw];exact o0)
  rw [fI _ _ hw,nw] at lo
  rw [es]
  unfold AN
  rcases sp with sp | ⟨sp,se0,se1⟩
  ·simp only [if_pos sp,sd,aN,if_false]
   have q:Qt s.aA s.aA (aJ s) w {j with Sub:={j.Sub with Pc:=1,E:=s.aA.aB.aG,cO:=false}}:=⟨rfl,rfl,Int.le_refl _,fun _ _ _ p=>⟨p,rfl⟩,fun _ _ _=>rfl,(by rw [nw];exact nm3 (j:={j with Sub:={j.Sub with Pc:=1,E:=s.aA.aB.aG,cO:=false}}) k1 p3),fun _ _=>⟨k1,p3,by rw [hj],.inr (.inr (Int.le_refl _))⟩,fun _ _ _ _ _=>OS (by simp only;omega)⟩
   refine h.quiet hs.1 hep hw q hB (by rw [hj]) (.inl rfl) ?_
   rw [List.append_nil]
   exact RY hb k1 (fun q=>by simp only at q;omega) (fun q=>by simp only at q;omega) (fun q=>by simp only at q;omega) (fun _=>⟨o0,sk,rfl,sa,.inr ⟨rfl,hc.1.1,Int.le_refl _⟩⟩) rn
  ·have hcond:hC s.aA.Mem j.Sub.A/\¬BI s.aA.aL (j.Sub.A % 32):=by rw [sa];exact lo
   simp only [if_neg (show ¬j.Sub.Pc=0 by omega),if_pos sp,if_pos (show 0<=j.Sub.E/\j.Sub.E<=s.aA.aB.aG from ⟨se0,se1⟩),if_pos hcond,o7,if_true,List.append_nil]
   have hL:=hs.1.1.2.2.1
   have fa:=fun r=>aUL (l:=s.aA.aL) hL hw (x:=⟨j.Sub.A,j.Sub.E⟩) (r:=r)
   have n9:∀sub,D0 (b9 {j with Sub:=sub} 9 0)=0:=fun sub=>WL (by simp [b9]) (by simp [b9]) (by simp [b9])
   have ro:=fun v (hv:0<=v/\v<=2) hn=>aD7 hL.1 hw hv hn ⟨bE s.aA.aL w ++ [⟨j.Sub.A,j.Sub.E⟩]⟩
   generalize hN:s.aA.aL.set w.toNat ⟨bE s.aA.aL w ++ [⟨j.Sub.A,j.Sub.E⟩]⟩=NL at fa ro
   refine h.make hs.1 hep hw ?_ (fun k hk=>h.cv k hk) (fun v hv hn=>⟨Int.le_refl _,ro v hv hn,fun p=>⟨p,rfl⟩,rfl,fun e H h0 _ _ x=>?_,fun _ u=>aIU hs h hep hw hj hb (by simp only [b9];omega) u,fun _ _ _ _=>rfl,fun _=>rfl⟩) ?_ (fun _ _=>rfl) h.tr h.se.1 (Int.le_refl _) fun _=>⟨sn,.inl ⟨by rw [hj];rfl,hB⟩⟩
   ·refine h.ow.retired rfl (i:=w+2) ⟨by omega,by omega⟩ (by rw [fI _ _ hw,nw];exact o0) (fun t=>?_) (by rw [fI _ _ hw,dE,n9]) fun i hi q=>GH hw hi q fun _ _ _=>rfl
    rw [fI _ _ hw,nw]
    unfold BI
    constructor
    ·rintro⟨r,r1,r2,r3⟩
     rcases(fa r).1 r1 with z | z
     ·exact .inl ⟨r,z,r2,r3⟩
     ·right;rw [<-r3,z,sa]
    ·rintro(⟨r,r1,r2,r3⟩ | z)
     ·exact⟨r,(fa r).2 (.inl r1),r2,r3⟩
     ·exact⟨_,(fa _).2 (.inr rfl),by simp only;rw [sa];exact lo.1.1,by simp only;rw [sa,z]⟩
   ·rcases x with x | ⟨u,hu,u1,u2,u3,u4⟩ | ⟨r,r1,r2⟩
    ·exact .inl x
    ·by_cases z:u=w
     ·subst z
      rw [hj] at u3 u4
      exact .inr (.inr ⟨_,(fa _).2 (.inr rfl),by simp only;rw [sa];exact u3,by simp only;omega⟩)
     ·exact .inr (.inl ⟨u,hu,by rw [eM _ _ z];exact⟨u1,u2,u3,u4⟩⟩)
    ·exact .inr (.inr ⟨r,(fa r).2 (.inl r1),r2⟩)
   ·exact RY hb k1 (fun q=>by simp [b9] at q) (fun q=>by simp [b9] at q) (fun q=>by simp [b9] at q) (fun q=>by simp [b9] at q) rn
 rw [if_neg p3]
 refine h.quiet hs.1 hep hw (R0 (by rw [hj,WL p1 p2 p3,WL (by simp [b9]) (by simp [b9]) (by simp [b9])]) (.inr (by rw [hj];exact p3)) (.inl (by simp only [b9];omega))) hB (by exact(congrArg bA.aI hj).symm) (.inl rfl) ?_
 rw [List.append_nil]
 exact RY hb k1 (fun q=>by simp [b9] at q) (fun q=>by simp [b9] at q) (fun q=>by simp [b9] at q) (fun q=>by simp [b9] at q) rn
end
end Go.Gv
end
noncomputable section
namespace Go.Gv
structure a3L (b:aA) (w:Int) (NL:List aY) (r:cZ):Prop where
 mem:r∈bC b.aL
 live:hC b.Mem r.Handle
 rest:∀x∈bC b.aL,x.Handle≠r.Handle->x∈bC NL
 sub:∀x∈bC NL,x∈bC b.aL/\x.Handle≠r.Handle
 uni:∀x∈bC b.aL,x.Handle=r.Handle->x=r
 other:∀v,0<=v/\v<=2->v≠w->bE NL v=bE b.aL v
theorem aOO{b:aA}(hb:lY b){w:Int}(hw:0<=w/\w<=2){k:Int}(hk:0<=k/\k < (bE b.aL w).length):a3L b w (b.aL.set w.toNat ⟨(bE b.aL w).eraseIdx k.toNat⟩) (GD (bE b.aL w) k):=by
 have hL:=hb.1.2.2.1
 have h3:=hL.1
 have kx:w.toNat < b.aL.length:=by omega
 have hm:=WC (l:=bE b.aL w) hk
 have hf:=GF hL hw hm
 have hjl:k.toNat < (bE b.aL w).length:=by omega
 have er:GD (bE b.aL w) k=(bE b.aL w)[k.toNat]:=by
  have:=aKN (l:=bE b.aL w) hjl
  rw [show((k.toNat:Nat):Int)=k by omega] at this
  exact this
 have hrow:b.aL[w.toNat].Rows=bE b.aL w:=by
  have:=A1 hL hw
  rw [fH hw.1 (by omega)] at this
  injection this with this
  rw [this]
 have hperm:=aDO hjl
 have hset:bC (b.aL.set w.toNat ⟨(bE b.aL w).eraseIdx k.toNat⟩)=bC (b.aL.take w.toNat)++((bE b.aL w).eraseIdx k.toNat++bC (b.aL.drop (w.toNat+1))):=EG kx _
 have hspl:bC b.aL=bC (b.aL.take w.toNat)++(bE b.aL w++bC (b.aL.drop (w.toNat+1))):=by rw [BC kx,hrow]
 have hp:(bC b.aL).Perm (GD (bE b.aL w) k :: bC (b.aL.set w.toNat ⟨(bE b.aL w).eraseIdx k.toNat⟩)):=by
  rw [hspl,hset,er]
  have e1:=(hperm.append_right (bC (b.aL.drop (w.toNat+1)))).append_left (bC (b.aL.take w.toNat))
  refine e1.trans ?_
  rw [List.cons_append]
  exact List.perm_middle
 have nd:=hL.2.2.2
 have nd2:=(hp.map lG).nodup_iff.1 nd
 rw [List.map_cons,List.nodup_cons] at nd2
 refine⟨hf,(hb.2 _ hf).1,fun x hx hn=>?_,fun x hx=>⟨hp.mem_iff.2 (List.mem_cons_of_mem _ hx),fun e=>?_⟩,fun x hx e=>?_,fun v hv hn=>aD7 h3 hw hv hn _⟩
 ·rcases List.mem_cons.1 (hp.mem_iff.1 hx) with z | z
  ·exact absurd (by rw [z]) hn
  ·exact z
 ·exact nd2.1 (List.mem_map.2 ⟨x,hx,by unfold lG;rw [e]⟩)
 ·exact map_inj nd x hx _ hf (by unfold lG;rw [e])
noncomputable section
variable {s:aD} (hs:mW s) {n:Int} (h:Sv s.aA s.Cells (aJ s) s.Log n) (hep:Ep s.aA.aB (aJ s)) {w:Int} (hw:0<=w/\w<=2) {j:bA} (hj:aJ s w=j) (hb:j.cN=true) (hjk:lH j.Op/\cW j.H/\cW j.Old)
include hs h hep hw hj hb
theorem aD8(k4:j.Op.Kind=4)(p1:j.Pc=1){j':bA}(jo:j'.Op=j.Op)(jse:j'.aI=j.aI)(jb:j'.cN=true)(jp:(dP s.aA w j.Sub).2.cO=true/\j'.Pc=9\/(dP s.aA w j.Sub).2.cO=false/\j'.Pc=1/\j'.Sub=(dP s.aA w j.Sub).2) :
  Sv (dP s.aA w j.Sub).1 s.Cells (KW (aJ s) w j') (s.Log ++ []) n:=by
 have hB:(aJ s w).cN=true:=by rw [hj];exact hb
 have hL:=hs.1.1.2.2.1
 have own:=h.jv w hw
 rw [hj] at own
 have rn:=own.n hb (by unfold Reads;omega)
 obtain⟨sk,sd,ck⟩:=own.k k4 p1
 have nk:(aJ s w).Op.Kind≠1\/(aJ s w).Pc≠3:=.inl (by rw [hj];omega)
 have n0:D0 (aJ s w)=0:=r9 (by rw [hj];omega)
 have nj:D0 j'=0:=r9 (by rw [jo];omega)
 have quiet:(dP s.aA w j.Sub).1=s.aA->(∀v,0<=v/\v<=2->∀H,iL s.aA.iS v=H->UnJ j v H->j'.Pc=1->UnJ j' v H)->(j'.Pc=1->aZ3 s.aA.aB.aG (bE s.aA.aL w) j'.Sub)->Sv (dP s.aA w j.Sub).1 s.Cells (KW (aJ s) w j') (s.Log ++ []) n:=fun eb hu hk=>by
  rw [eb]
  have q:Qt s.aA s.aA (aJ s) w j':=⟨rfl,rfl,Int.le_refl _,fun _ _ _ p=>⟨p,rfl⟩,fun _ _ _=>rfl,by rw [nj,n0],fun k _=>by rw [hj] at k;omega,fun v hv H hz u=>by
   rw [hj] at u
   by_cases z:j'.Pc=1
   ·exact hu v hv H hz u z
   ·exact fun _ p=>absurd p z⟩
  refine h.quiet hs.1 hep hw q hB (by rw [hj];exact jse) (.inl rfl) ?_
  rw [List.append_nil,jse]
  exact RZ jb (.inl (by rw [jo];exact k4)) (fun _ p=>hk p) rn
 have e0:=hep
 unfold dP at jp quiet ⊢
 rcases ck with q0 | ⟨eE,⟨q1,r0⟩ | ⟨q2,hB2,ha,hr⟩ | ⟨q3,ha,hr⟩⟩
 ·simp only [if_pos q0] at jp quiet ⊢
  rcases jp with jp | ⟨jd,jp,js⟩
  ·rw [sd] at jp;cases jp.1
  refine quiet trivial (fun v hv H hz u _ _ _ _=>?_) fun _=>?_
  ·rw [js];exact⟨fun z=>by simp at z,by simp⟩
  ·rw [js];exact⟨sk,sd,.inr ⟨Int.le_refl _,.inl ⟨rfl,by simp⟩⟩⟩
 ·simp only [if_neg (show ¬j.Sub.Pc=0 by omega),if_pos q1] at jp quiet ⊢
  by_cases q:rA (bE s.aA.aL w) j.Sub.E j.Sub.Row.toNat < (bE s.aA.aL w).length
  ·simp only [if_pos q] at jp quiet ⊢
   rcases jp with jp | ⟨jd,jp,js⟩
   ·rw [sd] at jp;cases jp.1
   obtain⟨f1,f2⟩:=aDT q
   refine quiet trivial (fun v hv H hz u _ _ _ _=>?_) fun _=>?_
   ·rw [js];exact⟨fun _=>hv.1,by simp⟩
   ·rw [js]
    refine⟨sk,sd,.inr ⟨eE,.inr (.inl ⟨rfl,by simp,⟨by simp only;omega,by simp only;omega,rfl⟩,?_⟩)⟩⟩
    simp only
    rw [aKN q];exact f2
  ·simp only [if_neg q] at jp quiet ⊢
   rcases jp with ⟨jd,jp⟩ | ⟨jd,jp,js⟩
   ·exact quiet trivial (fun v hv H hz u p=>by omega) fun p=>by omega
   ·cases jd
 ·simp only [if_neg (show ¬j.Sub.Pc=0 by omega),if_neg (show ¬j.Sub.Pc=1 by omega),if_pos q2,if_pos (show(0<=j.Sub.B/\j.Sub.B<=2)/\DR (bE s.aA.aL w) j.Sub from ⟨hB2,ha⟩)] at jp quiet ⊢
  by_cases q:iL s.aA.iS j.Sub.B=j.Sub.H
  ·simp only [if_pos q] at jp quiet ⊢
   rcases jp with jp | ⟨jd,jp,js⟩
   ·rw [sd] at jp;cases jp.1
   refine quiet trivial (fun v hv H hz u _ _ _ _=>?_) fun _=>?_
   ·rw [js];exact⟨fun z=>by simp at z,by simp⟩
   ·rw [js];exact⟨sk,sd,.inr ⟨eE,.inl ⟨rfl,by have:=ha.1;simp only;omega⟩⟩⟩
  ·simp only [if_neg q] at jp quiet ⊢
   rcases jp with jp | ⟨jd,jp,js⟩
   ·rw [sd] at jp;cases jp.1
   refine quiet trivial (fun v hv H hz u _ _ _ hH=>?_) fun _=>?_
   ·rw [js] at hH ⊢
    simp only at hH ⊢
    obtain⟨u1,u2⟩:=u k4 p1 hH
    have u1:=u1 q2
    have ne:j.Sub.B≠v:=fun z=>q (by rw [z,hz,hH])
    refine⟨fun _=>by omega,?_⟩
    rw [if_neg (by omega)];omega
   ·rw [js]
    refine⟨sk,sd,.inr ⟨eE,.inr ?_⟩⟩
    by_cases z:j.Sub.B=2
    ·exact .inr ⟨by simp only [if_pos z],ha,hr⟩
    ·exact .inl ⟨by simp only [if_neg z],by simp only;omega,ha,hr⟩
 ·simp only [if_neg (show ¬j.Sub.Pc=0 by omega),if_neg (show ¬j.Sub.Pc=1 by omega),if_neg (show ¬j.Sub.Pc=2 by omega),if_pos q3,if_pos (show DR (bE s.aA.aL w) j.Sub/\wA (GD (bE s.aA.aL w) j.Sub.Row) j.Sub.E from ⟨ha,hr⟩)] at jp ⊢
  rcases jp with jp | ⟨jd,jp,js⟩
  ·rw [sd] at jp;cases jp.1
  obtain⟨a0,a1,a2⟩:=ha
  obtain⟨o1,o2,o3,o4,o5,o6⟩:=aOO hs.1 hw (k:=j.Sub.Row) ⟨a0,a1⟩
  rw [a2] at o2 o3 o4 o5
  generalize s.aA.aL.set w.toNat ⟨(bE s.aA.aL w).eraseIdx j.Sub.Row.toNat⟩=NL at o3 o4 o6
  obtain⟨f1,f2,f3,f4⟩:=aD1 hs.1.1.1 hw o2
  have fs:=fun{t:Int} (ht:t≠j.Sub.H % 32)=>aMI hs.1.1.1 hw o2 ht
  have dat:∀H,hC s.aA.Mem H->uH (DQ s.aA.Mem w j.Sub.H).aE (H % 32)=uH s.aA.Mem.aE (H % 32):=fun H hl=>aUG hs.1.1.1 o2 (hJ hl.2.1)
  have hheld:BI s.aA.aL (j.Sub.H % 32):=⟨_,o1,by rw [a2];exact o2.1,by rw [a2]⟩
  have hrl:=fun(H:Int)=>(h.ow.live H)
  have ripe:(GD (bE s.aA.aL w) j.Sub.Row).aG<=j.Sub.E - 2:=by
   have:=hr.2
   have ec:=hs.1.1.2.1.1
   rw [aO (by have:=hr.1;omega) (by omega)] at this
   exact this
  have hln:∀t,t≠j.Sub.H % 32->(BI NL t↔BI s.aA.aL t):=fun t ht=>by
   constructor
   ·rintro⟨r,r1,r2,r3⟩
    exact⟨r,(o4 r r1).1,r2,r3⟩
   ·rintro⟨r,r1,r2,r3⟩
    exact⟨r,o3 r r1 (fun z=>ht (by rw [<-r3,z])),r2,r3⟩
  rw [List.append_nil]
  have un':∀v,0<=v/\v<=2->∀H,OR (aJ s) v H->OR (KW (aJ s) w j') v H:=fun v hv H u a ha'=>by
   by_cases z:a=w
   ·subst z;rw [dE]
    intro _ _ _
    rw [js];exact⟨fun z=>by simp at z,by simp⟩
   ·rw [eM _ _ z];exact u a ha'
  refine h.make hs.1 hep hw ?_ (fun k hk=>?_) (fun v hv hn=>⟨Int.le_refl _,o6 v hv hn,fun p=>⟨p,rfl⟩,rfl,fun e H h0 _ hbl sa=>?_,fun _ u=>un' v hv _ u,fun e H sa hH'=>dat H (sa.live hs.1 h.ow hH'),fun hH'=>?_⟩) ?_ (fun _ _=>rfl) h.tr h.se.1 (Int.le_refl _) fun _=>⟨by rw [jse,<-hj];exact h.se.2.1 w hw hB,.inl ⟨by rw [hj];exact jse,hB⟩⟩
  ·refine h.ow.a14 (x:=j.Sub.H % 32) hheld f4 (fun t ht=>fs ht) (fun t ht h3=>by rw [f2 t (hJ h3),if_neg ht]) hln fun i hi=>?_
   by_cases z:i=w+2
   ·subst z;rw [fI _ _ hw,fI _ _ hw,dE,nj,n0]
   ·exact GH hw hi z fun _ _ _=>rfl
  ·refine⟨(h.cv k hk).1,fun q=>?_⟩
   have l:=(h.ow.live k (by omega) (by rw [kK _ _ hk];exact q)).1
   rw [kK _ _ hk] at l
   show uH (DQ s.aA.Mem w j.Sub.H).aE _=_
   rw [dat _ l];exact(h.cv k hk).2 q
  ·rcases sa with sa | ⟨u,hu,u1,u2,u3⟩ | ⟨r,r1,r2,r3⟩
   ·exact .inl sa
   ·have z:u≠w:=fun z=>by subst z;rw [hj] at u1;omega
    exact .inr (.inl ⟨u,hu,by rw [eM _ _ z];exact⟨u1,u2,u3⟩⟩)
   ·refine .inr (.inr ⟨r,o3 r r1 fun z=>?_,r2,r3⟩)
    rcases hbl with hbl | ⟨u,hu,un⟩
    ·have er:=o5 r r1 z
     rw [er] at r3
     omega
    ·have:=un w hw
     rw [hj] at this
     exact(this k4 p1 (by rw [<-z];exact r2)).2 q3
  ·have l:=(h.ow.live (v+2) (by omega) (by rw [fI _ _ hv];exact hH')).1
   rw [fI _ _ hv] at l
   exact dat _ l
  ·rw [jse]
   refine RZ jb (.inl (by rw [jo];exact k4)) (fun _ _=>?_) rn
   rw [js]
   exact⟨sk,sd,.inr ⟨eE,.inl ⟨rfl,a0⟩⟩⟩
include hjk
theorem aUM(k:j.Op.Kind=4\/j.Op.Kind=5\/j.Op.Kind=6):Sv (o8 s w j).b (o8 s w j).c (KW (aJ s) w (o8 s w j).j) (s.Log++(o8 s w j).l) n:=by
 have hB:(aJ s w).cN=true:=by rw [hj];exact hb
 have hc:=hs.1.1.2.1
 have own:=h.jv w hw
 have nk:(aJ s w).Op.Kind≠1\/(aJ s w).Pc≠3:=.inl (by rw [hj];omega)
 have nm0:∀j':bA,j'.Op.Kind=j.Op.Kind->D0 j'=D0 (aJ s w):=fun j' q=>by rw [r9 (by omega),r9 (by rw [hj];omega)]
 rw [hj] at own
 have rn:=own.n hb (by unfold Reads;omega)
 have bad:Sv s.aA s.Cells (KW (aJ s) w (b9 j 9 1)) (s.Log ++ []) n:=by
  refine h.quiet hs.1 hep hw (R0 (j':=b9 j 9 1) (nm0 _ rfl) nk (.inr (by simp [b9]))) hB (by exact(congrArg bA.aI hj).symm) (.inl rfl) ?_
  rw [List.append_nil]
  exact RZ hb k (fun _ q=>by simp [b9] at q) rn
 unfold o8
 by_cases k6:j.Op.Kind=6
 ·rw [if_pos k6]
  by_cases p0:j.Pc=0
  ·rw [if_pos p0]
   obtain⟨u1,u2⟩:=aOM hc hw
   refine h.quiet hs.1 hep hw (R1 (by omega) (fun v hv hn p=>WM (u2 v hv hn) p) (nm0 (b9 j 9 _) rfl) nk (.inr (.inl (by simp [b9])))) hB (by exact(congrArg bA.aI hj).symm) (.inl rfl) ?_
   rw [List.append_nil]
   exact RZ hb k (fun _ q=>by simp [b9] at q) rn
  ·rw [if_neg p0];exact bad
 rw [if_neg k6]
 by_cases k5:j.Op.Kind=5
 ·by_cases p0:j.Pc=0
  ·rw [if_pos (.inl p0)]
   obtain⟨_,_,_,i4⟩:=hep.1 w hw hB
   rw [hj] at i4
   obtain⟨sk,sd,_⟩:=i4 ⟨hb,.inr k5,p0⟩
   have es:eF s.aA w j.Sub=OM s.aA w j.Sub:=by unfold eF;simp [sk,sd]
   rw [es]
   obtain⟨cl,e1,e2,e3⟩:=aUK hc hw j.Sub
   simp only [e1,if_pos k5]
   refine h.quiet hs.1 hep hw (R1 (by omega) (fun v hv hn p=>WM (e3 v hv hn) p) (nm0 _ (by split <;> rfl)) nk (.inl (by split <;> (simp only [b9];omega)))) hB (by rw [hj];split <;> rfl) (.inl rfl) ?_
   rw [List.append_nil]
   split
   ·exact RZ hb k (fun _ q=>by simp [b9] at q) rn
   ·exact RZ hb k (fun _ q=>by simp only at q;omega) rn
  ·rw [if_neg (fun q=>q.elim p0 fun q=>q.2 k5)];exact bad
 have k4:j.Op.Kind=4:=by omega
 by_cases p0:j.Pc=0
 ·rw [if_pos (.inl p0)]
  obtain⟨_,_,i3,_⟩:=hep.1 w hw hB
  rw [hj] at i3
  obtain⟨sk,sd,_⟩:=i3 ⟨hb,k4,p0⟩
  have es:eF s.aA w j.Sub=d9 s.aA j.Sub:=by unfold eF;simp [sk,sd]
  rw [es]
  obtain⟨cl,e1,e2,e3⟩:=aMS hc j.Sub
  simp only [e1,if_neg k5,if_pos p0]
  refine h.quiet hs.1 hep hw (R1 e2 (fun v hv hn p=>e3 v hv p) (nm0 _ (by split <;> rfl)) nk ?_) hB (by rw [hj];split <;> rfl) (.inl rfl) ?_
  ·split
   ·exact .inr (.inr rfl)
   ·exact .inr (.inl (by simp only;omega))
  rw [List.append_nil]
  split
  ·exact RZ hb k (fun _ _=>⟨rfl,rfl,.inl rfl⟩) rn
  ·exact RZ hb k (fun _ q=>by simp only at q;omega) rn
 by_cases p1:j.Pc=1
 ·rw [if_pos (.inr ⟨p1,k5⟩)]
  obtain⟨sk,sd,_⟩:=own.k k4 p1
  have es:eF s.aA w j.Sub=dP s.aA w j.Sub:=by unfold eF;simp [sk,sd]
  rw [es]
  simp only [if_neg k5,if_neg p0]
  cases hd:(dP s.aA w j.Sub).2.cO with
  | true=>rw [if_pos rfl];exact aD8 hs h hep hw hj hb k4 p1 rfl rfl hb (.inl ⟨hd,rfl⟩)
  | false=>rw [if_neg (by simp)];exact aD8 hs h hep hw hj hb k4 p1 rfl rfl hb (.inr ⟨hd,p1,rfl⟩)
 ·rw [if_neg (fun q=>q.elim p0 fun q=>p1 q.1)];exact bad
end
theorem aX6{b:aA}{c:List Int}{J:Int->bA}{o:Option (Ev×Ev)}{v:Int}:Jv b c J o v kY:=by
 have k:kY.Op.Kind=0:=rfl
 have bb:kY.cN=false:=rfl
 refine⟨fun _=>k,?_,?_,?_,?_,?_,?_,?_,?_,?_,?_,?_⟩
 ·intro q;omega
 ·intro q;omega
 ·intro q;omega
 ·intro q;omega
 ·intro q;omega
 ·intro q;rcases q with q | q <;> omega
 ·intro q;omega
 ·intro q;omega
 ·intro q;omega
 ·intro q;unfold Reads at q;omega
 ·intro q;rw [bb] at q;cases q
theorem aOP{s:aD}(hs:mW s){w:Int}(hw:0<=w/\w<=2)(hep:Ep s.aA.aB (aJ s))(h:Sv s.aA s.Cells (aJ s) s.Log s.aI):Sv (fJ s w).aA (fJ s w).Cells (aJ (fJ s w)) (fJ s w).Log (fJ s w).aI:=by
 have h3:=hs.2.2.1
 have hjk:JOk (aJ s w):=by
  have h:=BE hs hw
  rw [fH hw.1 (by omega)] at h
  injection h with h
  rw [<-h];exact hs.2.2.2.2.2.2 _ (List.getElem_mem _)
 have close:∀{b:aA} {c:List Int} {j':bA} {t:List Queue} {L:List Ev} {m:Int},Sv b c (KW (aJ s) w j') L m->Sv b c (aJ ⟨b,c,s.aU.set w.toNat j',t,L,m⟩) L m:=fun{b c j' t L m} x=>by
  have e:∀v,0<=v/\v<=2->aJ ⟨b,c,s.aU.set w.toNat j',t,L,m⟩ v=KW (aJ s) w j' v:=fun v hv=>jE h3 hw hv b c j' t L m
  have es:∀{e H},qT b c (KW (aJ s) w j') e H->qT b c (aJ ⟨b,c,s.aU.set w.toNat j',t,L,m⟩) e H:=fun{e' H} q=>by
   rcases q with q | ⟨v,hv,q⟩ | q
   ·exact .inl q
   ·exact .inr (.inl ⟨v,hv,by rw [e v hv];exact q⟩)
   ·exact .inr (.inr q)
  refine⟨x.ow.congr rfl rfl fun i hi=>?_,x.cv,fun v hv=>?_,x.tr,x.se.1,fun v hv=>by rw [e v hv];exact x.se.2.1 v hv,fun v u hv hu=>by rw [e v hv,e u hu];exact x.se.2.2 v u hv hu⟩
  ·rcases aD5 hi with hk | ⟨v,hv,rfl⟩
   ·rw [kK _ _ hk,kK _ _ hk]
   ·rw [fI _ _ hv,fI _ _ hv,e v hv]
  ·rw [e v hv]
   obtain⟨a1,a2,a3,a4,a5,a6,a7,a8,a9,a10,a11,a12⟩:=x.jv v hv
   refine⟨a1,a2,a3,a4,a5,a6,fun g p=>?_,a8,a9,fun k p=>?_,a11,a12⟩
   ·obtain⟨q,r⟩:=a7 g p
    exact⟨es q,r⟩
   ·obtain⟨q,u,r⟩:=a10 k p
    exact⟨es q,fun a ha=>by rw [e a ha];exact u a ha,r⟩
 unfold fJ
 by_cases hb:(aJ s w).cN=false
 ·rw [if_pos hb]
  unfold G0
  cases ho:eA s.bK w with
  | nil=>exact h
  | cons o r =>
   simp only
   by_cases hm:s.aI=1000000
   ·rw [if_pos hm];exact h
   rw [if_neg hm]
   refine close ?_
   obtain⟨f1,f2,_,_⟩:=aKS s.aA.aB w o (s.aI+1)
   have n0:D0 (aJ s w)=0:=r9 (by have:=(h.jv w hw).idle hb;omega)
   have k0:=(h.jv w hw).idle hb
   have st:(j4 s.aA.aB w o (s.aI+1)).Op=o/\((j4 s.aA.aB w o (s.aI+1)).Pc=0\/(j4 s.aA.aB w o (s.aI+1)).Pc=9/\(j4 s.aA.aB w o (s.aI+1)).Code=1)/\(o.Kind=1->(j4 s.aA.aB w o (s.aI+1)).Sub=tA 1 o.gX):=by
    unfold j4
    split
    ·exact⟨rfl,.inl rfl,fun _=>rfl⟩
    split
    ·rename_i q1 q2
     split
     ·exact⟨rfl,.inr ⟨rfl,rfl⟩,fun q=>absurd q q1⟩
     ·exact⟨rfl,.inl rfl,fun q=>absurd q q1⟩
    split
    ·rename_i q1 q2 q3
     exact⟨rfl,.inl rfl,fun q=>absurd q q1⟩
    ·rename_i q1 q2 q3
     exact⟨rfl,.inl rfl,fun q=>absurd q q1⟩
   obtain⟨so,sp,ss⟩:=st
   generalize j4 s.aA.aB w o (s.aI+1)=j at f1 f2 so sp ss
   generalize hE:(⟨1,w,s.aI+1,o.Cell,0,0,0⟩:Ev)=E
   have eK:E.Kind=1:=by rw [<-hE]
   have eS:E.aI=s.aI+1:=by rw [<-hE]
   have rE:∀m,rdx (s.Log ++ [E]) m=rdx s.Log m:=fun m=>by rw [WK,if_neg (fun z=>by have:=z.1;omega)]
   have sE:∀k,swp (s.Log ++ [E]) k=swp s.Log k:=fun k=>by rw [aA4,if_neg (fun z=>by have:=z.1;omega)]
   have nj:D0 j=0:=WL (by omega) (by omega) (by omega)
   have q:Qt s.aA s.aA (aJ s) w j:=R0 (by rw [n0,nj]) (.inl (by omega)) (.inr (by omega))
   refine h.make hs.1 hep hw ?_ (fun k hk=>by rw [sE];exact h.cv k hk) (fun v hv hn=>q.frm hw hv hn) ?_ (fun m _=>rE m) (h.tr.snoc fun z=>by omega) (fun e he=>?_) (by omega) fun _=>⟨by omega,.inr (by omega)⟩
   ·refine h.ow.congr rfl rfl fun i hi=>?_
    by_cases z:i=w+2
    ·subst z;rw [fI _ _ hw,fI _ _ hw,dE,nj,n0]
    ·exact GH hw hi z fun _ _ _=>rfl
   ·have rn:rdx (s.Log ++ [E]) j.aI=none:=by rw [rE];exact aW5 fun e he=>by have:=h.se.1 e he;omega
    refine⟨fun q=>(by rw [f1] at q;cases q),fun k p=>?_,fun k p=>by omega,fun k p=>by omega,fun k p=>by omega,fun k p=>by omega,fun g=>?_,fun k p=>by omega,fun k p=>by omega,fun k p=>by omega,fun k p=>?_,fun _ _=>rn⟩
    ·rw [ss (by rw [<-so];exact k)];exact⟨rfl,rfl,by simp [tA],by simp [tA]⟩
    ·exact absurd g (IF (by omega))
    ·exact Told.other (by omega) (by omega)
   ·rcases List.mem_append.1 he with z | z
    ·have:=h.se.1 e z;omega
    ·rw [List.mem_singleton.1 z,eS];omega
 rw [if_neg hb]
 have hb':(aJ s w).cN=true:=by simpa using hb
 by_cases h9:(aJ s w).Pc=9
 ·rw [if_pos h9]
  refine close ?_
  have own:=h.jv w hw
  have n0:D0 (aJ s w)=0:=WL (by omega) (by omega) (by omega)
  have nj:D0 kY=0:=r9 (by decide)
  generalize hE:ND w (aJ s w)=E
  have eK:E.Kind=4:=by rw [<-hE];rfl
  have eS:E.aI=(aJ s w).aI:=by rw [<-hE];rfl
  have eC:E.Code=(aJ s w).Code:=by rw [<-hE];rfl
  have eV:E.dV=(aJ s w).dV:=by rw [<-hE];rfl
  have rE:∀m,rdx (s.Log ++ [E]) m=rdx s.Log m:=fun m=>by rw [WK,if_neg (fun z=>by have:=z.1;omega)]
  have sE:∀k,swp (s.Log ++ [E]) k=swp s.Log k:=fun k=>by rw [aA4,if_neg (fun z=>by have:=z.1;omega)]
  have q:Qt s.aA s.aA (aJ s) w kY:=R0 (by rw [n0,nj]) (.inr (by omega)) (.inl (by decide))
  refine h.make hs.1 hep hw ?_ (fun k hk=>by rw [sE];exact h.cv k hk) (fun v hv hn=>q.frm hw hv hn) aX6 (fun m _=>rE m) (h.tr.snoc fun _ hr=>?_) (fun e he=>?_) (Int.le_refl _) fun q=>by cases q
  ·refine h.ow.congr rfl rfl fun i hi=>?_
   by_cases z:i=w+2
   ·subst z;rw [fI _ _ hw,fI _ _ hw,dE,nj,n0]
   ·exact GH hw hi z fun _ _ _=>rfl
  ·rw [eS] at hr ⊢
   rw [eC,eV]
   by_cases rr:Reads (aJ s w)
   ·exact own.t rr (.inl h9)
   ·exact absurd (own.n hb' rr) hr
  ·rcases List.mem_append.1 he with z | z
   ·exact h.se.1 e z
   ·rw [List.mem_singleton.1 z,eS];exact h.se.2.1 w hw hb'
 rw [if_neg h9]
 have hjo:=(v9 hb').1 hjk
 have hk:=hjo.1.1
 unfold jV
 refine close ?_
 unfold zL
 by_cases k1:(aJ s w).Op.Kind=1
 ·rw [if_pos k1];exact aZ6 hs h hep hw rfl hb' hjo k1
 rw [if_neg k1]
 by_cases k2:(aJ s w).Op.Kind=2
 ·rw [if_pos k2];exact aZ4 hs h hep hw rfl hb' hjo k2
 rw [if_neg k2]
 by_cases k3:(aJ s w).Op.Kind=3
 ·rw [if_pos k3];exact aZ5 hs h hep hw rfl hb' hjo k3
 rw [if_neg k3]
 by_cases k7:(aJ s w).Op.Kind=7
 ·rw [if_pos k7];exact aW6 hs h hep hw rfl hb' hjo k7
 rw [if_neg k7]
 exact aUM hs h hep hw rfl hb' hjo (by omega)
end Go.Gv
end
noncomputable section
namespace Go.Gv
def lst(L:List Ev):Int:=L.foldl (fun a e=>if e.Kind=4/\e.Who=1/\e.Code=0 then e.dV else a) 0
def a19(a:Int)(e:Ev):Prop:=e.Kind=4->e.Who=1->e.Code=6\/(e.Code=8/\a=0)\/(e.Code=0/\(100<=e.dV/\e.dV<=105)/\a<=e.dV)
def Good(L:List Ev):Prop:=∀M e N,L=M++e :: N->a19 (lst M) e
theorem Good.snoc{L:List Ev}(h:Good L){e:Ev}(he:a19 (lst L) e):Good (L ++ [e]):=by
 intro M x N hx
 rcases List.eq_nil_or_concat N with rfl | ⟨N',y,rfl⟩
 ·obtain⟨rfl,q⟩:=List.append_inj' hx (by rfl)
  injection q with q
  subst q
  exact he
 ·have e1:M++x :: (N'.concat y)=(M++x :: N') ++ [y]:=by simp
  rw [e1] at hx
  exact h M x N' (List.append_inj' hx (by rfl)).1
def w1N(L:List Ev):Nat:=L.countP fun e=>e.Kind == 4 && e.Who == 1
structure Rg (T:Int->List dB) (J:Int->bA) (L:List Ev) (on:Bool):Prop where
 q0:∀o∈T 0,o.Kind=1/\o.Cell=0/\100<=o.dV/\o.dV<=105
 p0:(T 0).Pairwise fun a b=>a.dV < b.dV
 j0:(J 0).cN=true->(J 0).Op.Kind=1/\(J 0).Op.Cell=0/\(100<=(J 0).Op.dV/\(J 0).Op.dV<=105)/\∀o∈T 0,(J 0).Op.dV < o.dV
 sw:∀e∈L,e.Kind=2->e.Cell=0/\(100<=e.dV/\e.dV<=105)/\(∀o∈T 0,e.dV < o.dV)/\((J 0).cN=true->(J 0).Pc=0\/(J 0).Pc=1\/(J 0).Pc=2->e.dV < (J 0).Op.dV)
 q1:∀o∈T 1,(o.Kind=2\/o.Kind=3)/\o.Cell=0
 j1:(J 1).cN=true->((J 1).Op.Kind=2\/(J 1).Op.Kind=3)/\(J 1).Op.Cell=0/\((J 1).Code=0\/(J 1).Code=6\/(J 1).Code=8)/\(0<=(J 1).Pc/\(J 1).Pc<=4\/(J 1).Pc=9)
 q2:∀o∈T 2,o.Kind=4
 j2:(J 2).cN=true->(J 2).Op.Kind=4
 pin:on=true->(J 1).cN=true/\(J 1).Op.Kind=2/\(J 1).Pc≠9
 cnt:w1N L+(if (J 1).cN=true then 1 else 0)+(T 1).length=6
 m1:lst L<=(swp L 0).dV/\(lst L≠0->(swp L 0).Handle≠0)
 m2:(J 1).cN=true->∀e x,rdx L (J 1).aI=some (e,x)->x.dV<=(swp L 0).dV/\lst L<=x.dV/\(x.Handle≠0->(swp L 0).Handle≠0/\100<=x.dV/\x.dV<=105)/\(x.Handle=0->lst L=0)
 a3O:Good L
noncomputable section
variable (s:aD) (w:Int) (j:bA)
end
structure a3X (s:aD) (w:Int) (j:bA) (r:JR):Prop where
 ev:r.l=[]\/∃x,r.l=[DZ w j x]
 code:r.j.Code=0\/r.j.Code=6\/r.j.Code=8
 pc:0<=r.j.Pc/\r.j.Pc<=4\/r.j.Pc=9
 on:(bQ r.b.aB w).On=true->j.Op.Kind=2/\r.j.Pc≠9
noncomputable section
variable {T:Int->List dB} {J:Int->bA} {L:List Ev} {on:Bool} (h:Rg T J L on)
include h
theorem Rg.congr{T':Int->List dB}{J':Int->bA}{on':Bool}(t0:T' 0=T 0)(t1:T' 1=T 1)(j0:J' 0=J 0)(j1:J' 1=J 1)(t2:∀o∈T' 2,o.Kind=4)(j2:(J' 2).cN=true->(J' 2).Op.Kind=4)(o:on'=true->on=true):Rg T' J' L on':=by
 refine⟨by rw [t0];exact h.q0,by rw [t0];exact h.p0,by rw [t0,j0];exact h.j0,by rw [t0,j0];exact h.sw,by rw [t1];exact h.q1,by rw [j1];exact h.j1,t2,j2,by rw [j1];exact fun q=>h.pin (o q),by rw [t1,j1];exact h.cnt,h.m1,by rw [j1];exact h.m2,h.a3O⟩
end
noncomputable section
variable {s:aD} (hs:mW s) (hv:Sv s.aA s.Cells (aJ s) s.Log s.aI) (hep:Ep s.aA.aB (aJ s)) (h:Rg (eA s.bK) (aJ s) s.Log (bQ s.aA.aB 1).On)
include hs hv hep h
end
end Go.Gv
end
noncomputable section
namespace Go.Gv
theorem sv0(t:List Queue):Sv (fW t).aA (fW t).Cells (aJ (fW t)) (fW t).Log (fW t).aI:=by
 have e1:∀v:Int,0<=v/\v<=2->aJ (fW t) v=kY:=fun v hv=>by
  have hc:v=0\/v=1\/v=2:=by omega
  rcases hc with rfl | rfl | rfl <;> rfl
 have c0:∀k:Int,0<=k/\k<=1->cellAt (fW t).Cells k=0:=fun k hk=>by
  have hc:k=0\/k=1:=by omega
  rcases hc with rfl | rfl <;> rfl
 have n0:∀i,0<=i/\i<=4->nm (fW t).Cells (aJ (fW t)) i=0:=fun i hi=>by
  rcases aD5 hi with hk | ⟨v,hv,rfl⟩
  ·rw [kK _ _ hk];exact c0 i hk
  ·rw [fI _ _ hv,e1 v hv];exact r9 (by decide)
 have un:∀t',dW aDU.Mem t'≠3:=fun t' h=>by
  have h1:=(gU.1 h).1
  obtain⟨a,b,c⟩:=pR h1
  have key:∀p:Nat,p < 6->bV aDU.Mem.aE p = -1:=by decide
  rw [key _ (by omega)] at c
  omega
 refine⟨⟨fun i hi hn=>absurd (n0 i hi) hn,fun i j hi _ hn=>absurd (n0 i hi) hn,fun t' ht=>absurd ht (un t')⟩,fun k hk=>⟨(c0 k hk).symm,fun q=>absurd (c0 k hk) q⟩,fun v hv=>by rw [e1 v hv];exact aX6,fun M e N hx=>by simp [fW] at hx,fun e he=>by simp [fW] at he,fun v hv hb=>(by rw [e1 v hv] at hb;cases hb),fun v u hv _ hb=>by rw [e1 v hv] at hb;cases hb⟩
end Go.Gv
end
noncomputable section
namespace Go.Gv
theorem X6 (μ : aD -> Nat) (P : aD -> Prop) (hP : ∀ s (w : Int), mW s -> (0 <= w /\ w <= 2) -> P s -> mW (fJ s w) /\ P (fJ s w) /\ (¬ zO s w -> μ (fJ s w) + 1 <= μ s)) : ∀ n k (s : aD), mW s -> P s -> 3 * μ s + wait s k < n -> m8 (RU n k s) /\ P (RU n k s)
 | 0,_,_,_,_,h=>absurd h (Nat.not_lt_zero _)
 | n + 1, k, s, hs, hp, h => by
  rw [RU]
  by_cases i:m8 s
  ·rw [if_pos i];exact⟨i,hp⟩
  rw [if_neg i]
  have hw:0<=(((k % 3:Nat):Int))/\(((k % 3:Nat):Int))<=2:=by omega
  by_cases q:zO s ((k % 3:Nat):Int)
  ·rw [aOH hs hw q]
   refine X6 μ P hP n (k+1) s hs hp ?_
   have e:wait s (k+1)+1<=wait s k:=by
    have wk:wait s k=if zO s (((k+1) % 3:Nat):Int) then 2 else 1:=by unfold wait;rw [if_pos q]
    rw [wk]
    by_cases q1:zO s (((k+1) % 3:Nat):Int)
    ·rw [if_pos q1]
     unfold wait
     rw [if_pos q1]
     by_cases q2:zO s (((k+1+1) % 3:Nat):Int)
     ·exfalso
      refine i (aKP hs fun v hv=>?_)
      have:v=((k % 3:Nat):Int)\/v=(((k+1) % 3:Nat):Int)\/v=(((k+1+1) % 3:Nat):Int):=by omega
      rcases this with e | e | e <;> rw [e] <;> assumption
     ·rw [if_neg q2];omega
    ·rw [if_neg q1]
     unfold wait
     rw [if_neg q1]
     omega
   omega
  ·obtain⟨o1,o2,o3⟩:=hP s _ hs hw hp
   refine X6 μ P hP n (k+1) _ o1 o2 ?_
   have:=o3 q
   have w2:∀s' k',wait s' k'<=2:=fun s' k'=>by unfold wait;split;split <;> omega;omega
   have:=w2 (fJ s ((k % 3:Nat):Int)) (k+1)
   omega
theorem aW7(b:aA)(w:Int)(s:Sub):(eF b w s).1.aB.aG<=b.aB.aG+1:=by
 unfold eF
 split
 ·show b.aB.aG<=_;omega
 split
 ·have e:(EJ b w s).1.aB=b.aB:=by
   unfold EJ xS;simp only [apply_ite Prod.fst,apply_ite aA.aB,ite_self]
  rw [e];omega
 split
 ·unfold AN;split;(show b.aB.aG<=_;omega);split;split;split <;> (show b.aB.aG<=_;omega);(show b.aB.aG<=_;omega);(show b.aB.aG<=_;omega)
 split
 ·unfold d9
  split
  ·show b.aB.aG<=_;omega
  split
  ·split
   ·have e:(lZ b.aB s.B s.E).1.aG=b.aB.aG:=by unfold lZ;split;rfl;split <;> rfl
    split <;> (simp only;omega)
   ·show b.aB.aG<=_;omega
  split
  ·simp only
   unfold G8
   split
   ·rename_i q;simp only;omega
   ·simp only;omega
  ·show b.aB.aG<=_;omega
 split
 ·unfold dP
  split;(show b.aB.aG<=_;omega)
  split
  ·split <;> (show b.aB.aG<=_;omega)
  split
  ·split
   ·split <;> (show b.aB.aG<=_;omega)
   ·show b.aB.aG<=_;omega
  split
  ·split <;> (show b.aB.aG<=_;omega)
  ·show b.aB.aG<=_;omega
 split
 ·unfold OM GZ
  split;(show b.aB.aG<=_;omega)
  split
  ·split <;> (simp only;split <;> (simp only;omega))
  split
  ·split <;> (show b.aB.aG<=_;omega)
  ·show b.aB.aG<=_;omega
 ·show b.aB.aG<=_;omega
theorem aUN(c:aB)(w:Int):(rY c w).1.aG=c.aG:=by unfold rY;split <;> rfl
theorem aW8(s:aD)(w:Int):(fJ s w).aA.aB.aG<=s.aA.aB.aG+1:=by
 have sb:=aW7 s.aA w (aJ s w).Sub
 have up:=aUN s.aA.aB w
 have z:s.aA.aB.aG<=s.aA.aB.aG+1:=by omega
 unfold fJ
 split
 ·unfold G0
  split
  ·exact z
  ·split <;> exact z
 split
 ·exact z
 show(zL s w (aJ s w)).b.aB.aG<=_
 generalize aJ s w=j at *
 unfold zL
 split
 ·unfold OO
  split
  ·split
   ·split;exact sb;split <;> exact sb
   ·exact sb
  split;exact z;split;exact z;split;exact sb;exact z
 split
 ·unfold NC
  split;exact sb;split;exact z;split;exact z;split;exact z;split
  ·show(rY s.aA.aB w).1.aG<=_;omega
  ·exact z
 split
 ·unfold LX
  split;(split <;> exact z);split;exact z;split;(split <;> exact z);split;exact z;split <;> exact z
 split
 ·unfold GG
  split;(split;exact z;split <;> exact z);split;exact z;split <;> exact z
 ·unfold o8
  split
  ·split
   ·show(rY s.aA.aB w).1.aG<=_;omega
   ·exact z
  split;exact sb;exact z
end Go.Gv
end
noncomputable section
namespace Go.Gv
def left(p:oV):Int:=if p.On=true/\p.dC=false then 2 - p.Seen else 0
def pA(c:aB):Int:=left (bQ c 0)+left (bQ c 1)+left (bQ c 2)
theorem aD9{e:Int}{p:oV}(h:POk e p):0<=left p/\left p<=2:=by
 have:=h.2.1
 unfold left;split <;> omega
theorem aG4{c:aB}(hc:IC c):0<=pA c/\pA c<=6:=by
 have a:=aD9 (DP hc (w:=0) (by omega))
 have b:=aD9 (DP hc (w:=1) (by omega))
 have d:=aD9 (DP hc (w:=2) (by omega))
 unfold pA;omega
theorem aP5{c:aB}(hc:IC c){q:Int}(hq:0<=q/\q<=2)(e:Int):pA (lZ c q e).1<=pA c/\((lZ c q e).2=false->pA (lZ c q e).1+1<=pA c)/\(lZ c q e).1.aG=c.aG:=by
 have hp:=(DP hc hq).2.1
 have key:∀x:oV,left x<=left (bQ c q)->pA ⟨c.aG,c.cG.set q.toNat x⟩+left (bQ c q)=pA c+left x:=fun x _=>by
  unfold pA
  rw [nV hc hq (by omega),nV hc hq (by omega),nV hc hq (by omega)]
  have hc3:q=0\/q=1\/q=2:=by omega
  rcases hc3 with rfl | rfl | rfl
  ·rw [if_pos rfl,if_neg (by omega),if_neg (by omega)];omega
  ·rw [if_neg (by omega),if_pos rfl,if_neg (by omega)];omega
  ·rw [if_neg (by omega),if_neg (by omega),if_pos rfl];omega
 unfold lZ
 by_cases k1:(bQ c q).On=false\/(bQ c q).dC=true\/(bQ c q).aG=e
 ·rw [if_pos k1];exact⟨Int.le_refl _,fun z=>(by cases z),rfl⟩
 rw [if_neg k1]
 have on:(bQ c q).On=true:=by
  cases z:(bQ c q).On with
  | true=>rfl
  | false=>exact absurd (.inl z) k1
 have um:(bQ c q).dC=false:=by
  cases z:(bQ c q).dC with
  | false=>rfl
  | true=>exact absurd (.inr (.inl z)) k1
 have l0:left (bQ c q)=2 - (bQ c q).Seen:=if_pos ⟨on,um⟩
 by_cases k2:(bQ c q).Seen=2
 ·rw [if_pos k2]
  have l1:left ⟨(bQ c q).On,(bQ c q).aG,true,0⟩=0:=if_neg (fun z=>by have:=z.2;simp at this)
  have:=key ⟨(bQ c q).On,(bQ c q).aG,true,0⟩ (by omega)
  exact⟨by simp only;omega,fun z=>(by cases z),rfl⟩
 ·rw [if_neg k2]
  have l1:left ⟨(bQ c q).On,(bQ c q).aG,(bQ c q).dC,(bQ c q).Seen+1⟩=2 - ((bQ c q).Seen+1):=if_pos ⟨on,um⟩
  have:=key ⟨(bQ c q).On,(bQ c q).aG,(bQ c q).dC,(bQ c q).Seen+1⟩ (by omega)
  exact⟨by simp only;omega,fun _=>by simp only;omega,rfl⟩
def ndC(F E0 e:Int):Int:=F+(if e<=E0 then E0+2 - e else 1)
theorem SK{F F' E0 e e':Int}(hF:F'<=F)(he:e<=e'):ndC F' E0 e'<=ndC F E0 e:=by
 unfold ndC
 by_cases a:e'<=E0
 ·rw [if_pos a,if_pos (by omega)];omega
 ·rw [if_neg a]
  by_cases b:e<=E0
  ·rw [if_pos b];omega
  ·rw [if_neg b];omega
theorem aW9{F E0 e e':Int}(he:e+1<=e'):ndC F E0 e'+1<=ndC F E0 e\/E0+2<=e':=by
 unfold ndC
 by_cases a:E0+2<=e'
 ·exact .inr a
 ·left
  rw [if_pos (by omega:e<=E0)]
  split <;> omega
def JW(F E0 E q:Int)(j:bA):Prop:=
 if j.cN=false\/j.Pc=9 then ndC F E0 E<=q
 else if j.Pc=0 then ndC F E0 (if j.Sub.Pc=0 then E else j.Sub.E)<=q+1
 else (if j.Sub.Pc=0 then E0+2<=E else E0+2<=j.Sub.E/\j.Sub.Row=0)\/ndC F E0 E<=q
theorem JW.mono{F F' E0 E E' q:Int}{j:bA}(hF:F'<=F)(hE:E<=E')(h:JW F E0 E q j):JW F' E0 E' q j:=by
 unfold JW at *
 split
 ·rename_i a;rw [if_pos a] at h;exact Int.le_trans (SK hF hE) h
 rename_i a;rw [if_neg a] at h
 split
 ·rename_i b;rw [if_pos b] at h
  split
  ·rename_i c;rw [if_pos c] at h;exact Int.le_trans (SK hF hE) h
  ·rename_i c;rw [if_neg c] at h;exact Int.le_trans (SK hF (Int.le_refl _)) h
 rename_i b;rw [if_neg b] at h
 rcases h with h | h
 ·left
  split
  ·rename_i c;rw [if_pos c] at h;omega
  ·rename_i c;rw [if_neg c] at h;exact h
 ·exact .inr (Int.le_trans (SK hF hE) h)
def PU(j:bA):Int:=
 if j.cN=false then 0 else if j.Pc=9 then 1
 else if j.Pc=0 then (if j.Sub.Pc=0 then 8 else if j.Sub.Pc=1 then 7 - j.Sub.B else 4)
 else (if j.Sub.Pc=0 then 3 else if j.Sub.Pc=1 then 2 else if j.Sub.Pc=2 then 1 - j.Sub.B else -2)
def dcW(q r:Int)(j:bA):Nat:=(9 * q+5 * r+PU j).toNat
def dcS(s:aD):Nat:=dcW (eA s.bK 0).length (bE s.aA.aL 0).length (aJ s 0)+dcW (eA s.bK 1).length (bE s.aA.aL 1).length (aJ s 1)+dcW (eA s.bK 2).length (bE s.aA.aL 2).length (aJ s 2)
structure Dr (E0:Int) (C:List Int) (K:Nat) (s:aD):Prop where
 cells:s.Cells=C
 haz:∀v,0<=v/\v<=2->iL s.aA.iS v=0
 ep:E0<=s.aA.aB.aG/\s.aA.aB.aG+dcS s<=K
 job:∀v,0<=v/\v<=2->(aJ s v).cN=true->(aJ s v).Op.Kind=4/\((aJ s v).Pc=0\/(aJ s v).Pc=1\/(aJ s v).Pc=9)
 ops:∀v,0<=v/\v<=2->∀o∈eA s.bK v,o.Kind=4
 rows:∀r∈bC s.aA.aL,r.aG<=E0
 need:∀v,0<=v/\v<=2->bE s.aA.aL v=[]\/JW (pA s.aA.aB) E0 s.aA.aB.aG (eA s.bK v).length (aJ s v)
theorem Dr.make{E0:Int}{C:List Int}{K:Nat}{s s':aD}(h:Dr E0 C K s){w:Int}(hw:0<=w/\w<=2)(cells:s'.Cells=s.Cells)(haz:s'.aA.iS=s.aA.iS)
  (ep:s.aA.aB.aG<=s'.aA.aB.aG/\s'.aA.aB.aG<=s.aA.aB.aG+1) (lf:pA s'.aA.aB<=pA s.aA.aB)
  (jv:∀v,0<=v/\v<=2->v≠w->aJ s' v=aJ s v) (tv:∀v,0<=v/\v<=2->v≠w->eA s'.bK v=eA s.bK v) (rv:∀v,0<=v/\v<=2->v≠w->bE s'.aA.aL v=bE s.aA.aL v)
  (rows:∀r∈bC s'.aA.aL,r∈bC s.aA.aL)
  (cost:dcW (eA s'.bK w).length (bE s'.aA.aL w).length (aJ s' w)+1<=dcW (eA s.bK w).length (bE s.aA.aL w).length (aJ s w))
  (job:(aJ s' w).cN=true->(aJ s' w).Op.Kind=4/\((aJ s' w).Pc=0\/(aJ s' w).Pc=1\/(aJ s' w).Pc=9)) (ops:∀o∈eA s'.bK w,o.Kind=4)
  (need:(bE s.aA.aL w=[]\/JW (pA s.aA.aB) E0 s.aA.aB.aG (eA s.bK w).length (aJ s w))->bE s'.aA.aL w=[]\/JW (pA s'.aA.aB) E0 s'.aA.aB.aG (eA s'.bK w).length (aJ s' w)):Dr E0 C K s'/\dcS s'+1<=dcS s:=by
 have hc:dcS s'+1<=dcS s:=by
  have a:=fun v hv hn=>jv v hv hn
  have hw3:w=0\/w=1\/w=2:=by omega
  unfold dcS
  rcases hw3 with rfl | rfl | rfl
  ·rw [jv 1 (by omega) (by omega),jv 2 (by omega) (by omega),tv 1 (by omega) (by omega),tv 2 (by omega) (by omega),rv 1 (by omega) (by omega),rv 2 (by omega) (by omega)];omega
  ·rw [jv 0 (by omega) (by omega),jv 2 (by omega) (by omega),tv 0 (by omega) (by omega),tv 2 (by omega) (by omega),rv 0 (by omega) (by omega),rv 2 (by omega) (by omega)];omega
  ·rw [jv 0 (by omega) (by omega),jv 1 (by omega) (by omega),tv 0 (by omega) (by omega),tv 1 (by omega) (by omega),rv 0 (by omega) (by omega),rv 1 (by omega) (by omega)];omega
 refine⟨⟨by rw [cells];exact h.cells,by rw [haz];exact h.haz,⟨by have:=h.ep.1;omega,by have:=h.ep.2;omega⟩,fun v hv=>?_,fun v hv=>?_,fun r hr=>h.rows r (rows r hr),fun v hv=>?_⟩,hc⟩
 ·by_cases q:v=w
  ·subst q;exact job
  ·rw [jv v hv q];exact h.job v hv
 ·by_cases q:v=w
  ·subst q;exact ops
  ·rw [tv v hv q];exact h.ops v hv
 ·by_cases q:v=w
  ·subst q;exact need (h.need v hv)
  ·rw [jv v hv q,tv v hv q,rv v hv q]
   exact(h.need v hv).imp id fun z=>z.mono lf ep.1
noncomputable section
variable {s:aD} (hs:mW s) (hv:Sv s.aA s.Cells (aJ s) s.Log s.aI) (hep:Ep s.aA.aB (aJ s)) {E0:Int} {C:List Int} {K:Nat} (hK:K<=90000) (h:Dr E0 C K s) {w:Int} (hw:0<=w/\w<=2)
include hs hv hep hK h hw
theorem aZ7(hb:(aJ s w).cN=true)(p0:(aJ s w).Pc=0):Dr E0 C K (fJ s w)/\dcS (fJ s w)+1<=dcS s:=by
 have h3:=hs.2.2.1
 have hc:=hs.1.1.2.1
 obtain⟨k,_⟩:=h.job w hw hb
 obtain⟨_,_,i3,_⟩:=hep.1 w hw hb
 obtain⟨sk,sd,i4⟩:=i3 ⟨hb,k,p0⟩
 have ef:fJ s w=jV s w (o8 s w (aJ s w)):=by
  unfold fJ zL
  rw [if_neg (by simp [hb]),if_neg (by omega),if_neg (by omega),if_neg (by omega),if_neg (by omega),if_neg (by omega)]
 have es:eF s.aA w (aJ s w).Sub=d9 s.aA (aJ s w).Sub:=by unfold eF;simp [sk,sd]
 obtain⟨j',jd⟩:∃j',(if (d9 s.aA (aJ s w).Sub).2.cO then b9 {aJ s w with Sub:=tA 4 0} 1 0 else {aJ s w with Sub:=(d9 s.aA (aJ s w).Sub).2})=j':=⟨_,rfl⟩
 have eo:o8 s w (aJ s w)=⟨(d9 s.aA (aJ s w).Sub).1,s.Cells,j',[]⟩:=by
  unfold o8
  rw [if_neg (by omega),if_pos (.inl p0),es]
  simp only [if_neg (show ¬(aJ s w).Op.Kind=5 by omega),if_pos p0,jd]
 rw [ef,eo]
 unfold jV
 simp only [List.append_nil]
 have ja:=fun(v:Int) (hv:0<=v/\v<=2)=>jE h3 hw hv (d9 s.aA (aJ s w).Sub).1 s.Cells j' s.bK s.Log s.aI
 have eL:(d9 s.aA (aJ s w).Sub).1.aL=s.aA.aL:=by unfold d9;simp only [apply_ite Prod.fst,apply_ite aA.aL,ite_self]
 have eH:(d9 s.aA (aJ s w).Sub).1.iS=s.aA.iS:=by unfold d9;simp only [apply_ite Prod.fst,apply_ite aA.iS,ite_self]
 have main:(s.aA.aB.aG<=(d9 s.aA (aJ s w).Sub).1.aB.aG/\(d9 s.aA (aJ s w).Sub).1.aB.aG<=s.aA.aB.aG+1)/\pA (d9 s.aA (aJ s w).Sub).1.aB<=pA s.aA.aB /\
   PU j'+1<=PU (aJ s w)/\0<=PU j'/\j'.Op=(aJ s w).Op/\(j'.Pc=0\/j'.Pc=1) /\
   (JW (pA s.aA.aB) E0 s.aA.aB.aG (eA s.bK w).length (aJ s w)->JW (pA (d9 s.aA (aJ s w).Sub).1.aB) E0 (d9 s.aA (aJ s w).Sub).1.aB.aG (eA s.bK w).length j'):=by
  have hK2:=h.ep
  generalize hq:((eA s.bK w).length:Int)=q
  generalize hj:aJ s w=j at *
  have ob:∀{x:bA},x.cN=true->x.Pc=0->PU x=(if x.Sub.Pc=0 then 8 else if x.Sub.Pc=1 then 7 - x.Sub.B else 4):=fun{x} b p=>by unfold PU;rw [if_neg (by simp [b]),if_neg (by omega),if_pos p]
  have oc:∀{x:bA},x.cN=true->x.Pc=1->x.Sub.Pc=0->PU x=3:=fun{x} b p p'=>by unfold PU;rw [if_neg (by simp [b]),if_neg (by omega),if_neg (by omega),if_pos p']
  have nb:∀{x:bA} {F E:Int},x.cN=true->x.Pc=0->JW F E0 E q x=(ndC F E0 (if x.Sub.Pc=0 then E else x.Sub.E)<=q+1):=fun{x F E} b p=>by unfold JW;rw [if_neg (by simp [b];omega),if_pos p]
  have nc:∀{x:bA} {F E:Int},x.cN=true->x.Pc=1->x.Sub.Pc=0->(E0+2<=E\/ndC F E0 E<=q)->JW F E0 E q x:=fun{x F E} b p p' z=>by unfold JW;rw [if_neg (by simp [b];omega),if_neg (by omega),if_pos p'];exact z
  rw [nb (x:=j) hb p0,ob (x:=j) hb p0]
  unfold d9 at jd ⊢
  rcases i4 with i | ⟨ie,⟨i,iB⟩ | ⟨i,iB⟩⟩
  ·simp only [if_pos i,sd,aN,if_false] at jd ⊢
   subst jd
   refine⟨⟨by omega,by omega⟩,Int.le_refl _,?_,?_,rfl,.inl p0,fun z=>?_⟩
   ·rw [ob (by exact hb) (by exact p0)];simp
   ·rw [ob (by exact hb) (by exact p0)];simp
   ·rw [nb (by exact hb) (by exact p0)];simp only [if_neg (show ¬(1:Int)=0 by omega)];exact z
  ·simp only [if_neg (show ¬j.Sub.Pc=0 by omega),if_pos i,if_pos iB] at jd ⊢
   obtain⟨l1,l2,l3⟩:=aP5 hc iB j.Sub.E
   cases hl:(lZ s.aA.aB j.Sub.B j.Sub.E).2 with
   | true =>
    simp only [hl,if_true,sd,aN,if_false] at jd ⊢
    subst jd
    refine⟨⟨by omega,by omega⟩,l1,?_,?_,rfl,.inl p0,fun z=>?_⟩
    ·rw [ob (by exact hb) (by exact p0)]
     by_cases z:j.Sub.B=2
     ·simp only [if_pos z];rw [if_neg (by omega),if_neg (by omega)];omega
     ·simp only [if_neg z];rw [if_neg (by omega),if_pos trivial];omega
    ·rw [ob (by exact hb) (by exact p0)]
     by_cases z:j.Sub.B=2
     ·simp only [if_pos z];rw [if_neg (by omega),if_neg (by omega)];omega
     ·simp only [if_neg z];rw [if_neg (by omega),if_pos trivial];omega
    ·rw [nb (by exact hb) (by exact p0)]
     have:¬(if j.Sub.B=2 then (2:Int) else 1)=0:=by split <;> omega
     simp only [if_neg this]
     exact Int.le_trans (SK l1 (Int.le_refl _)) z
   | false =>
    have l2:=l2 hl
    simp only [hl,aN,if_false,o7,if_true] at jd ⊢
    subst jd
    refine⟨⟨by omega,by omega⟩,l1,?_,?_,rfl,.inr rfl,fun z=>?_⟩
    ·rw [oc (by exact hb) rfl rfl];omega
    ·rw [oc (by exact hb) rfl rfl];omega
    ·refine nc (by exact hb) rfl rfl (.inr ?_)
     have a:=SK (E0:=E0) (Int.le_refl (pA (lZ s.aA.aB j.Sub.B j.Sub.E).1)) (show j.Sub.E<=(lZ s.aA.aB j.Sub.B j.Sub.E).1.aG by omega)
     have b:ndC (pA (lZ s.aA.aB j.Sub.B j.Sub.E).1) E0 j.Sub.E+1<=ndC (pA s.aA.aB) E0 j.Sub.E:=by unfold ndC;omega
     omega
  ·simp only [if_neg (show ¬j.Sub.Pc=0 by omega),if_neg (show ¬j.Sub.Pc=1 by omega),if_pos i,o7,if_true] at jd ⊢
   subst jd
   have hl:pA (G8 s.aA.aB j.Sub.E).1=pA s.aA.aB:=by unfold G8;split <;> rfl
   have he:s.aA.aB.aG<=(G8 s.aA.aB j.Sub.E).1.aG/\(G8 s.aA.aB j.Sub.E).1.aG<=s.aA.aB.aG+1/\j.Sub.E+1<=(G8 s.aA.aB j.Sub.E).1.aG:=by
    unfold G8
    split
    ·rename_i q;simp only;omega
    ·rename_i q
     have:s.aA.aB.aG≠j.Sub.E:=fun z=>q ⟨z,by omega⟩
     simp only;omega
   refine⟨⟨he.1,he.2.1⟩,by omega,?_,?_,rfl,.inr rfl,fun z=>?_⟩
   ·rw [oc (by exact hb) rfl rfl];omega
   ·rw [oc (by exact hb) rfl rfl];omega
   ·refine nc (by exact hb) rfl rfl ?_
    rcases aW9 (F:=pA s.aA.aB) (E0:=E0) he.2.2 with a | a
    ·right;rw [hl];omega
    ·exact .inl a
 obtain⟨m1,m2,m3,m4,m5,m6,m7⟩:=main
 have jw:aJ (⟨(d9 s.aA (aJ s w).Sub).1,s.Cells,s.aU.set w.toNat j',s.bK,s.Log,s.aI⟩:aD) w=j':=by rw [ja w hw,dE]
 refine h.make hw rfl eH m1 m2 (fun v hv hn=>by rw [ja v hv,EM _ hn]) (fun _ _ _=>rfl) (fun v _ _=>by rw [eL]) (fun r hr=>by rw [eL] at hr;exact hr) ?_ (fun _=>?_) (h.ops w hw) fun z=>?_
 ·rw [jw,eL]
  show dcW (eA s.bK w).length (bE s.aA.aL w).length j'+1<=_
  unfold dcW
  omega
 ·rw [jw,m5]
  exact⟨k,by omega⟩
 ·rw [jw,eL]
  exact z.imp id m7
end
end Go.Gv
end
noncomputable section
namespace Go.Gv
theorem aEA{l:List cZ}{e:Int}(hl:l≠[])(h:∀r∈l,wA r e):rA l e 0=0:=by
 cases l with
 | nil=>exact absurd rfl hl
 | cons a t =>
  unfold rA
  rw [List.drop_zero,List.findIdx_cons,aZ (h a (List.mem_cons_self ..))]
  rfl
noncomputable section
variable {s:aD} (hs:mW s) (hv:Sv s.aA s.Cells (aJ s) s.Log s.aI) (hep:Ep s.aA.aB (aJ s)) {E0:Int} {C:List Int} {K:Nat} (hK:K<=90000) (h:Dr E0 C K s) {w:Int} (hw:0<=w/\w<=2)
include hs hv hep hK h hw
theorem aZ8(hb:(aJ s w).cN=true)(p1:(aJ s w).Pc=1):Dr E0 C K (fJ s w)/\dcS (fJ s w)+1<=dcS s:=by
 have h3:=hs.2.2.1
 have hL:=hs.1.1.2.2.1
 have hc:=hs.1.1.2.1
 obtain⟨k,_⟩:=h.job w hw hb
 obtain⟨sk,sd,ck⟩:=(hv.jv w hw).k k p1
 have ef:fJ s w=jV s w (o8 s w (aJ s w)):=by
  unfold fJ zL
  rw [if_neg (by simp [hb]),if_neg (by omega),if_neg (by omega),if_neg (by omega),if_neg (by omega),if_neg (by omega)]
 have es:eF s.aA w (aJ s w).Sub=dP s.aA w (aJ s w).Sub:=by unfold eF;simp [sk,sd]
 obtain⟨j',jd⟩:∃j',(if (dP s.aA w (aJ s w).Sub).2.cO then b9 {aJ s w with Sub:=(dP s.aA w (aJ s w).Sub).2,dV:=(dP s.aA w (aJ s w).Sub).2.Out} 9 (dP s.aA w (aJ s w).Sub).2.Code else {aJ s w with Sub:=(dP s.aA w (aJ s w).Sub).2})=j':=⟨_,rfl⟩
 have eo:o8 s w (aJ s w)=⟨(dP s.aA w (aJ s w).Sub).1,s.Cells,j',[]⟩:=by
  unfold o8
  rw [if_neg (by omega),if_pos (.inr ⟨p1,by omega⟩),es]
  simp only [if_neg (show ¬(aJ s w).Op.Kind=5 by omega),if_neg (show ¬(aJ s w).Pc=0 by omega),jd]
 rw [ef,eo]
 unfold jV
 simp only [List.append_nil]
 have ja:=fun(v:Int) (hv:0<=v/\v<=2)=>jE h3 hw hv (dP s.aA w (aJ s w).Sub).1 s.Cells j' s.bK s.Log s.aI
 have eC:(dP s.aA w (aJ s w).Sub).1.aB=s.aA.aB:=by unfold dP;simp only [apply_ite Prod.fst,apply_ite aA.aB,ite_self]
 have eH:(dP s.aA w (aJ s w).Sub).1.iS=s.aA.iS:=by unfold dP;simp only [apply_ite Prod.fst,apply_ite aA.iS,ite_self]
 have ripe:∀e:Int,E0+2<=e->e<=s.aA.aB.aG->∀r∈bE s.aA.aL w,wA r e:=fun e h1 h2 r hr=>by
  have hf:=GF hL hw hr
  have a:=h.rows r hf
  have b:=hL.2.2.1 r hf
  have:=hc.1
  unfold wA
  rw [aO (by have:=b.2.1;omega) (by omega)]
  have:=b.2.1
  omega
 have main:(∀r∈bC (dP s.aA w (aJ s w).Sub).1.aL,r∈bC s.aA.aL)/\(∀v,0<=v/\v<=2->v≠w->bE (dP s.aA w (aJ s w).Sub).1.aL v=bE s.aA.aL v) /\
   dcW (eA s.bK w).length (bE (dP s.aA w (aJ s w).Sub).1.aL w).length j'+1<=dcW (eA s.bK w).length (bE s.aA.aL w).length (aJ s w)/\j'.Op=(aJ s w).Op/\(j'.Pc=1\/j'.Pc=9) /\
   (bE s.aA.aL w=[]\/JW (pA s.aA.aB) E0 s.aA.aB.aG (eA s.bK w).length (aJ s w)->bE (dP s.aA w (aJ s w).Sub).1.aL w=[]\/JW (pA s.aA.aB) E0 s.aA.aB.aG (eA s.bK w).length j'):=by
  generalize hq:((eA s.bK w).length:Int)=q
  have q0:0<=q:=by omega
  generalize hj:aJ s w=j at *
  have ob:∀{x:bA},x.cN=true->x.Pc=1->PU x=(if x.Sub.Pc=0 then 3 else if x.Sub.Pc=1 then 2 else if x.Sub.Pc=2 then 1 - x.Sub.B else -2):=fun{x} b p=>by unfold PU;rw [if_neg (by simp [b]),if_neg (by omega),if_neg (by omega)]
  have o9:∀{x:bA},x.cN=true->x.Pc=9->PU x=1:=fun{x} b p=>by unfold PU;rw [if_neg (by simp [b]),if_pos p]
  have nb:∀{x:bA} {F E:Int},x.cN=true->x.Pc=1->JW F E0 E q x=((if x.Sub.Pc=0 then E0+2<=E else E0+2<=x.Sub.E/\x.Sub.Row=0)\/ndC F E0 E<=q):=fun{x F E} b p=>by unfold JW;rw [if_neg (by simp [b];omega),if_neg (by omega)]
  have n9:∀{x:bA} {F E:Int},x.Pc=9->JW F E0 E q x=(ndC F E0 E<=q):=fun{x F E} p=>by unfold JW;rw [if_pos (.inr p)]
  rw [nb (x:=j) hb p1]
  unfold dP at jd ⊢
  rcases ck with i | ⟨ie,⟨i,r0⟩ | ⟨i,iB,ia,ir⟩ | ⟨i,ia,ir⟩⟩
  ·simp only [if_pos i,sd,aN,if_false] at jd ⊢
   subst jd
   refine⟨fun _ hr=>hr,(by intros;trivial),?_,(by trivial),.inl p1,fun z=>z.imp id fun z=>?_⟩
   ·unfold dcW
    rw [ob (x:=j) hb p1,ob (by exact hb) (by exact p1),if_pos i]
    simp only [if_neg (show ¬(1:Int)=0 by omega),if_true]
    omega
   ·rw [nb (by exact hb) (by exact p1)]
    simp only [if_neg (show ¬(1:Int)=0 by omega)]
    exact z.imp (fun a=>⟨a,by trivial⟩) id
  ·simp only [if_neg (show ¬j.Sub.Pc=0 by omega),if_pos i] at jd ⊢
   by_cases f:rA (bE s.aA.aL w) j.Sub.E j.Sub.Row.toNat < (bE s.aA.aL w).length
   ·simp only [if_pos f,sd,aN,if_false] at jd ⊢
    subst jd
    refine⟨fun _ hr=>hr,(by intros;trivial),?_,(by trivial),.inl p1,fun z=>z.imp id fun z=>?_⟩
    ·unfold dcW
     rw [ob (x:=j) hb p1,ob (by exact hb) (by exact p1),if_neg (show ¬j.Sub.Pc=0 by omega),if_pos i]
     simp only [if_neg (show ¬(2:Int)=0 by omega),if_neg (show ¬(2:Int)=1 by omega),if_true]
     omega
    ·rw [nb (by exact hb) (by exact p1)]
     simp only [if_neg (show ¬(2:Int)=0 by omega)]
     refine z.imp (fun a=>⟨a.1,?_⟩) id
     have hne:bE s.aA.aL w≠[]:=fun e=>by rw [e] at f;simp at f
     rw [a.2,Int.toNat_zero,aEA hne (ripe _ a.1 ie)];rfl
   ·simp only [if_neg f,o7,if_true] at jd ⊢
    subst jd
    refine⟨fun _ hr=>hr,(by intros;trivial),?_,(by trivial),.inr (by trivial),fun z=>?_⟩
    ·unfold dcW
     rw [ob (x:=j) hb p1,o9 (by exact hb) rfl,if_neg (show ¬j.Sub.Pc=0 by omega),if_pos i]
     omega
    ·rcases z with z | z | z
     ·exact .inl z
     ·left
      by_cases e:bE s.aA.aL w=[]
      ·exact e
      ·exfalso
       apply f
       rw [z.2,Int.toNat_zero,aEA e (ripe _ z.1 ie)]
       exact List.length_pos_iff.2 e
     ·right;rw [n9 rfl];exact z
  ·simp only [if_neg (show ¬j.Sub.Pc=0 by omega),if_neg (show ¬j.Sub.Pc=1 by omega),if_pos i,if_pos (show(0<=j.Sub.B/\j.Sub.B<=2)/\DR (bE s.aA.aL w) j.Sub from ⟨iB,ia⟩)] at jd ⊢
   have hne:¬iL s.aA.iS j.Sub.B=j.Sub.H:=fun e=>by
    rw [h.haz _ iB] at e
    have hm:=GF hL hw (WC (l:=bE s.aA.aL w) (k:=j.Sub.Row) ⟨ia.1,ia.2.1⟩)
    have:=(hs.1.2 _ hm).1.1
    rw [ia.2.2,<-e] at this
    unfold jH at this;omega
   simp only [if_neg hne,sd,aN,if_false] at jd ⊢
   subst jd
   have r1:=ia.2.1
   have r0:=ia.1
   refine⟨fun _ hr=>hr,(by intros;trivial),?_,(by trivial),.inl p1,fun z=>z.imp id fun z=>?_⟩
   ·unfold dcW
    rw [ob (x:=j) hb p1,ob (by exact hb) (by exact p1),if_neg (show ¬j.Sub.Pc=0 by omega),if_neg (show ¬j.Sub.Pc=1 by omega),if_pos i]
    by_cases b2:j.Sub.B=2
    ·simp only [if_pos b2,if_neg (show ¬(3:Int)=0 by omega),if_neg (show ¬(3:Int)=1 by omega),if_neg (show ¬(3:Int)=2 by omega)]
     omega
    ·simp only [if_neg b2,if_neg (show ¬(2:Int)=0 by omega),if_neg (show ¬(2:Int)=1 by omega),if_true]
     omega
   ·rw [nb (by exact hb) (by exact p1)]
    have:¬(if j.Sub.B=2 then (3:Int) else 2)=0:=by split <;> omega
    simp only [if_neg this]
    exact z
  ·simp only [if_neg (show ¬j.Sub.Pc=0 by omega),if_neg (show ¬j.Sub.Pc=1 by omega),if_neg (show ¬j.Sub.Pc=2 by omega),if_pos i,if_pos (show DR (bE s.aA.aL w) j.Sub/\wA (GD (bE s.aA.aL w) j.Sub.Row) j.Sub.E from ⟨ia,ir⟩),sd,aN,if_false] at jd ⊢
   subst jd
   obtain⟨o1,o2,o3,o4,o5,o6⟩:=aOO hs.1 hw (k:=j.Sub.Row) ⟨ia.1,ia.2.1⟩
   have r1:=ia.2.1
   have r0:=ia.1
   have hro:bE (s.aA.aL.set w.toNat ⟨(bE s.aA.aL w).eraseIdx j.Sub.Row.toNat⟩) w=(bE s.aA.aL w).eraseIdx j.Sub.Row.toNat:=UL hL.1 hw _
   have hlen:((bE s.aA.aL w).eraseIdx j.Sub.Row.toNat).length=(bE s.aA.aL w).length - 1:=List.length_eraseIdx_of_lt (by omega)
   refine⟨fun r hr=>(o4 r hr).1,o6,?_,(by trivial),.inl p1,fun z=>?_⟩
   ·rw [hro,hlen]
    unfold dcW
    rw [ob (x:=j) hb p1,ob (by exact hb) (by exact p1),if_neg (show ¬j.Sub.Pc=0 by omega),if_neg (show ¬j.Sub.Pc=1 by omega),if_neg (show ¬j.Sub.Pc=2 by omega)]
    simp only [if_neg (show ¬(1:Int)=0 by omega),if_true]
    omega
   ·rcases z with z | z
    ·rw [z] at r1
     simp only [List.length_nil] at r1
     omega
    ·right
     rw [nb (by exact hb) (by exact p1)]
     simp only [if_neg (show ¬(1:Int)=0 by omega)]
     exact z
 obtain⟨m1,m2,m3,m4,m5,m6⟩:=main
 have jw:aJ (⟨(dP s.aA w (aJ s w).Sub).1,s.Cells,s.aU.set w.toNat j',s.bK,s.Log,s.aI⟩:aD) w=j':=by rw [ja w hw,dE]
 refine h.make hw rfl eH (by rw [eC];omega) (by rw [eC];exact Int.le_refl _) (fun v hv hn=>by rw [ja v hv,EM _ hn]) (fun _ _ _=>rfl) m2 m1 ?_ (fun _=>?_) (h.ops w hw) fun z=>?_
 ·rw [jw];exact m3
 ·rw [jw,m4]
  exact⟨k,by omega⟩
 ·rw [jw,eC];exact m6 z
theorem aXA(hser:s.aI≠1000000)(hi:¬zO s w):Dr E0 C K (fJ s w)/\dcS (fJ s w)+1<=dcS s:=by
 have h3:=hs.2.2.1
 have t3:s.bK.length=3:=hs.2.2.2.1.1
 by_cases hb:(aJ s w).cN=false
 ·cases ho:eA s.bK w with
  | nil=>exact absurd ⟨hb,ho⟩ hi
  | cons o r =>
   have ef:fJ s w=⟨s.aA,s.Cells,s.aU.set w.toNat (j4 s.aA.aB w o (s.aI+1)),s.bK.set w.toNat ⟨r⟩,s.Log ++ [⟨1,w,s.aI+1,o.Cell,0,0,0⟩],s.aI+1⟩:=by
    unfold fJ G0
    rw [if_pos hb,ho]
    simp only
    rw [if_neg hser]
   rw [ef]
   have ok:=h.ops w hw
   rw [ho] at ok
   have k4:=ok o (List.mem_cons_self ..)
   have sj:j4 s.aA.aB w o (s.aI+1)=⟨true,o,s.aI+1,0,tA 3 0,0,0,0,0⟩:=by
    unfold j4
    rw [if_neg (by omega),if_neg (by omega),if_pos k4]
   rw [sj]
   have ja:=fun(v:Int) (hv:0<=v/\v<=2)=>jE h3 hw hv s.aA s.Cells ⟨true,o,s.aI+1,0,tA 3 0,0,0,0,0⟩ (s.bK.set w.toNat ⟨r⟩) (s.Log ++ [⟨1,w,s.aI+1,o.Cell,0,0,0⟩]) (s.aI+1)
   have ta:=fun(v:Int) (hv:0<=v/\v<=2)=>X0 t3 hw hv r
   have jw:=ja w hw
   rw [dE] at jw
   have tw:=ta w hw
   rw [if_pos rfl] at tw
   refine h.make hw rfl rfl ⟨Int.le_refl _,by simp only;omega⟩ (Int.le_refl _) (fun v hv hn=>by rw [ja v hv,EM _ hn]) (fun v hv hn=>by simp only;rw [ta v hv,if_neg hn]) (fun _ _ _=>rfl) (fun _ hr=>hr) ?_ (fun _=>?_) ?_ fun z=>z.imp id fun z=>?_
   ·rw [jw]
    simp only [tw,ho]
    have o1:PU ⟨true,o,s.aI+1,0,tA 3 0,0,0,0,0⟩=8:=rfl
    have o2:PU (aJ s w)=0:=if_pos hb
    unfold dcW
    rw [o1,o2,List.length_cons]
    omega
   ·rw [jw];exact⟨k4,.inl rfl⟩
   ·simp only [tw];exact fun x hx=>ok x (List.mem_cons_of_mem _ hx)
   ·rw [jw]
    simp only [tw]
    unfold JW at z ⊢
    rw [if_pos (.inl hb),ho,List.length_cons] at z
    rw [if_neg (by simp),if_pos rfl]
    simp only [tA,if_true]
    omega
 have hb':(aJ s w).cN=true:=by simpa using hb
 obtain⟨k,p⟩:=h.job w hw hb'
 rcases p with p | p | p
 ·exact aZ7 hs hv hep hK h hw hb' p
 ·exact aZ8 hs hv hep hK h hw hb' p
 ·have ef:fJ s w=⟨s.aA,s.Cells,s.aU.set w.toNat kY,s.bK,s.Log ++ [ND w (aJ s w)],s.aI⟩:=by
   unfold fJ
   rw [if_neg hb,if_pos p]
  rw [ef]
  have ja:=fun(v:Int) (hv:0<=v/\v<=2)=>jE h3 hw hv s.aA s.Cells kY s.bK (s.Log ++ [ND w (aJ s w)]) s.aI
  have jw:=ja w hw
  rw [dE] at jw
  refine h.make hw rfl rfl ⟨Int.le_refl _,by simp only;omega⟩ (Int.le_refl _) (fun v hv hn=>by rw [ja v hv,EM _ hn]) (fun _ _ _=>rfl) (fun _ _ _=>rfl) (fun _ hr=>hr) ?_ (fun q=>?_) (h.ops w hw) fun z=>z.imp id fun z=>?_
  ·rw [jw]
   have o1:PU kY=0:=rfl
   have o2:PU (aJ s w)=1:=by unfold PU;rw [if_neg hb,if_pos p]
   unfold dcW
   rw [o1,o2]
   simp only
   omega
  ·rw [jw] at q;cases q
  ·rw [jw]
   unfold JW at z ⊢
   rw [if_pos (.inr p)] at z
   rw [if_pos (.inl rfl)]
   exact z
end
end Go.Gv
end
noncomputable section
namespace Go.Gv
def NF:List Int->Int->List Int
 | [],x=>[x]
 | a :: t,x=>if a=x then a :: t else if x < a then x :: a :: t else a :: NF t x
theorem R2(y x:Int):∀l:List Int,y∈NF l x↔y=x\/y∈l
 | []=>by simp [NF]
 | a :: t => by
  unfold NF
  split
  ·rename_i h
   constructor
   ·exact .inr
   ·rintro(rfl | h')
    ·rw [<-h];exact List.mem_cons_self ..
    ·exact h'
  split
  ·rw [List.mem_cons]
  ·rw [List.mem_cons,List.mem_cons,R2 y x t]
   constructor
   ·rintro(h | h | h)
    ·exact .inr (.inl h)
    ·exact .inl h
    ·exact .inr (.inr h)
   ·rintro(h | h | h)
    ·exact .inr (.inl h)
    ·exact .inl h
    ·exact .inr (.inr h)
theorem YP(x:Int):∀{l:List Int},l.Pairwise (· < ·)->(NF l x).Pairwise (· < ·)
 | [],_=>List.pairwise_singleton _ _
 | a :: t, h => by
  have h':=List.pairwise_cons.1 h
  unfold NF
  split
  ·exact h
  split
  ·rename_i hx
   rw [List.pairwise_cons]
   refine⟨fun y hy=>?_,h⟩
   rcases List.mem_cons.1 hy with rfl | hy
   ·exact hx
   ·have:=h'.1 y hy;omega
  ·rename_i h1 h2
   rw [List.pairwise_cons]
   refine⟨fun y hy=>?_,YP x h'.2⟩
   rcases(R2 y x t).1 hy with rfl | hy
   ·omega
   ·exact h'.1 y hy
theorem aEB{x:Int}:∀{l:List Int},x∉l->(NF l x).length=l.length+1
 | [],_=>rfl
 | a :: t, h => by
  unfold NF
  rw [if_neg (fun e=>h (by rw [e];exact List.mem_cons_self ..))]
  split
  ·rfl
  ·rw [List.length_cons,aEB (fun z=>h (List.mem_cons_of_mem _ z))];rfl
theorem aEC{x:Int}:∀{l:List Int},l.Pairwise (· < ·)->x∈l->NF l x=l
 | [],_,h=>by cases h
 | a :: t, hp, h => by
  have h':=List.pairwise_cons.1 hp
  unfold NF
  split
  ·rfl
  ·rename_i ne
   have ht:x∈t:=by
    rcases List.mem_cons.1 h with e | e
    ·exact absurd e.symm ne
    ·exact e
   have:=h'.1 x ht
   rw [if_neg (by omega),aEC h'.2 ht]
noncomputable section
variable {l:List Int} (hl:l.length<=1000) {x:Int}
include hl
theorem aKY:∀d k:Nat,k+d=l.length->(∀y∈l.drop k,y≠x)->∀out:List Int,out.length<=100000+k->loop (jN l x) (out,true,(k:Int))=some (Out.brk (out++l.drop k,true))
 | 0, k, hk, _, out, _ => by
  refine bS ?_
  simp only [jN]
  rw [if_neg (by simp;omega),List.drop_of_length_le (by omega),List.append_nil]
 | d + 1, k, hk, hy, out, ho => by
  have hkl:k < l.length:=by omega
  have hd:l.drop k=l[k] :: l.drop (k+1):=List.drop_eq_getElem_cons hkl
  have ne:(l[k] == x)=false:=by simpa using hy l[k] (by rw [hd];exact List.mem_cons_self ..)
  rw [bW (s':=(out ++ [l[k]],true,((k+1:Nat):Int))) (by
   simp only [jN,qJ,qI]
   rw [if_pos (by simp;omega),aV hkl,aK,ne]
   simp only [aN,if_false,dK,aK]
   rw [aQ (by simp;omega),aO (by omega) (by omega)];rfl),aKY d (k+1) (by omega) (fun y h=>hy y (by rw [hd];exact List.mem_cons_of_mem _ h)) (out ++ [l[k]]) (by simp;omega),hd,List.append_assoc]
  rfl
theorem aKZ:∀d k:Nat,k+d=l.length->(l.drop k).Pairwise (· < ·)->∀out:List Int,out.length<=50000+k->((loop (jN l x) (out,false,(k:Int))).bind fun o=>vM x o)=some (if x∈l.drop k then l else out++NF (l.drop k) x)
 | 0, k, hk, _, out, ho => by
  rw [bS (r:=Out.brk (out,false)) (by simp only [jN];rw [if_neg (by simp;omega)]),aK]
  simp only [vM,I2,vL]
  rw [List.drop_of_length_le (by omega),if_pos (by simp),aQ (by simp;omega),if_neg (by simp)]
  rfl
 | d + 1, k, hk, hp, out, ho => by
  have hkl:k < l.length:=by omega
  have hd:l.drop k=l[k] :: l.drop (k+1):=List.drop_eq_getElem_cons hkl
  have hp':=hp
  rw [hd] at hp'
  obtain⟨h1,h2⟩:=List.pairwise_cons.1 hp'
  by_cases e:l[k]=x
  ·rw [bS (r:=Out.ret l) (by
    simp only [jN]
    rw [if_pos (by simp;omega),aV hkl,aK,if_pos (by simpa using e)]),aK]
   simp only [vM]
   rw [if_pos (by rw [hd,e];exact List.mem_cons_self ..)]
  have ne:(l[k] == x)=false:=by simpa using e
  by_cases g:x < l[k]
  ·have hx:∀y∈l.drop (k+1),y≠x:=fun y hy=>by have:=h1 y hy;omega
   rw [bW (s':=(out ++ [x] ++ [l[k]],true,((k+1:Nat):Int))) (by
    simp only [jN,qJ,qI]
    rw [if_pos (by simp;omega),aV hkl,aK,ne,aZ g]
    simp only [aN,if_false,iA,if_true,aK]
    rw [aQ (by simp;omega),aQ (by simp;omega),aO (by omega) (by omega)];rfl),aKY hl d (k+1) (by omega) hx _ (by simp;omega),aK]
   simp only [vM,I2,vL,dK,aN,if_false]
   rw [if_neg (by rw [hd];exact fun z=>(List.mem_cons.1 z).elim (fun z=>e z.symm) (fun z=>hx x z rfl)),hd]
   unfold NF
   rw [if_neg e,if_pos g]
   simp
  ·rw [bW (s':=(out ++ [l[k]],false,((k+1:Nat):Int))) (by
    simp only [jN,qJ,qI]
    rw [if_pos (by simp;omega),aV hkl,aK,ne,bI g]
    simp only [aN,if_false,iA,if_true,aK]
    rw [aQ (by simp;omega),aO (by omega) (by omega)];rfl),aKZ d (k+1) (by omega) h2 (out ++ [l[k]]) (by simp;omega),hd]
   have eI:NF (l[k] :: l.drop (k+1)) x=l[k] :: NF (l.drop (k+1)) x:=by
    conv=>lhs;unfold NF
    rw [if_neg e,if_neg g]
   rw [eI]
   by_cases m:x∈l.drop (k+1)
   ·rw [if_pos m,if_pos (List.mem_cons_of_mem _ m)]
   ·rw [if_neg m,if_neg (fun z=>(List.mem_cons.1 z).elim (fun z=>e z.symm) m)]
    simp
theorem put_eq(hp:l.Pairwise (· < ·)):vN l x=some (NF l x):=by
 have:=aKZ hl (x:=x) l.length 0 (by omega) (by rw [List.drop_zero];exact hp) [] (by simp)
 unfold vN
 rw [List.drop_zero] at this
 rw [show(([]:List Int),false,(0:Int))=([],false,((0:Nat):Int)) from rfl]
 by_cases m:x∈l
 ·rw [if_pos m] at this
  rw [aEC hp m];exact this
 ·rw [if_neg m] at this;exact this
end
def aED(l:List Int)(x:Int):List Int:=if x=0 then l else NF l x
def fC(c:List Int)(J:Int->bA):Nat->List Int
 | 0=>[]
 | k+1=>aED (fC c J k) (nm c J k)
theorem IG(c:List Int)(J:Int->bA):∀k,(fC c J k).Pairwise (· < ·)
 | 0=>List.Pairwise.nil
 | k + 1 => by
  have:=IG c J k
  unfold fC aED
  split
  ·exact this
  ·exact YP _ this
theorem NG(c:List Int)(J:Int->bA)(y:Int):∀k,y∈fC c J k↔∃i:Nat,i < k/\nm c J i=y/\y≠0
 | 0=>by simp [fC]
 | k + 1 => by
  have ih:=NG c J y k
  unfold fC aED
  constructor
  ·intro h
   split at h
   ·obtain⟨i,h1,h2⟩:=ih.1 h
    exact⟨i,by omega,h2⟩
   ·rename_i q
    rcases(R2 _ _ _).1 h with e | e
    ·exact⟨k,by omega,e.symm,by rw [e];exact q⟩
    ·obtain⟨i,h1,h2⟩:=ih.1 e
     exact⟨i,by omega,h2⟩
  ·rintro⟨i,h1,h2,h3⟩
   by_cases e:i=k
   ·subst e
    rw [if_neg (by rw [h2];exact h3),R2];exact .inl h2.symm
   ·have:=ih.2 ⟨i,by omega,h2,h3⟩
    split
    ·exact this
    ·rw [R2];exact .inr this
theorem SL(c:List Int)(J:Int->bA):∀k,(fC c J k).length<=k
 | 0=>Nat.le_refl _
 | k + 1 => by
  have ih:=SL c J k
  unfold fC aED
  split
  ·omega
  ·by_cases m:nm c J k∈fC c J k
   ·rw [aEC (IG c J k) m];omega
   ·rw [aEB m];omega
theorem add_eq(c:List Int)(J:Int->bA){k:Nat}(hk:k<=10)(x:Int):vN (fC c J k) x=some (NF (fC c J k) x):=put_eq (by have:=SL c J k;omega) (IG c J k)
noncomputable section
variable {s:aD} (hs:mW s) (hl:s.Log.length<=1000000)
include hs hl
theorem aMU:N5 s=some (fC s.Cells (aJ s) 5):=by
 have hsm:=KV hs hl
 have c2:=hs.2.1
 unfold N5
 rw [aN9 hsm,aZ hs,aK]
 have k1:loop (y9 s true) (([]:List Int),0)=some (fC s.Cells (aJ s) 2):=jG (f:=y9 s true) 2 (fun k=>(fC s.Cells (aJ s) k,(k:Int))) _ (fun k hk=>by
  have hx:idx s.Cells (k:Int)=some (nm s.Cells (aJ s) k):=by rw [EL hs (k:=(k:Int)) (by omega),kK _ _ (k:=(k:Int)) (by omega)]
  have ae:=add_eq s.Cells (aJ s) (k:=k) (by omega) (nm s.Cells (aJ s) k)
  have ew:bG ((k:Int)+1)=((k+1:Nat):Int):=by rw [aO (by omega) (by omega)];rfl
  simp only [y9,y8,FI]
  rw [if_pos (by simp;omega),if_pos trivial,hx]
  simp only [aK,ew]
  by_cases q:nm s.Cells (aJ s) k=0
  ·rw [if_neg (by simpa using q)]
   have:fC s.Cells (aJ s) (k+1)=fC s.Cells (aJ s) k:=by simp only [fC,aED];rw [if_pos q]
   rw [this]
  ·rw [if_pos (by simpa using q),ae,aK]
   have:fC s.Cells (aJ s) (k+1)=NF (fC s.Cells (aJ s) k) (nm s.Cells (aJ s) k):=by simp only [fC,aED];rw [if_neg q]
   rw [this]) (by simp [y9,y8])
 rw [k1,aK]
 simp only [S9,S8]
 have k2:loop (y7 s true) (fC s.Cells (aJ s) 2,0)=some (fC s.Cells (aJ s) 5):=jG (f:=y7 s true) 3 (fun k=>(fC s.Cells (aJ s) (k+2),(k:Int))) _ (fun k hk=>by
  have hx:idx s.aU (k:Int)=some (aJ s k):=BE hs (by omega)
  have en:nm s.Cells (aJ s) ((k+2:Nat):Int)=D0 (aJ s k):=by
   have:=fI s.Cells (aJ s) (v:=(k:Int)) (by omega)
   rw [<-this];rfl
  have ae:=fun x=>add_eq s.Cells (aJ s) (k:=k+2) (by omega) x
  have ew:bG ((k:Int)+1)=((k+1:Nat):Int):=by rw [aO (by omega) (by omega)];rfl
  have same:D0 (aJ s k)=0->fC s.Cells (aJ s) (k+1+2)=fC s.Cells (aJ s) (k+2):=fun q=>by
   rw [show k+1+2=(k+2)+1 by omega]
   conv=>lhs;unfold fC aED
   rw [en,if_pos q]
  have more:D0 (aJ s k)≠0->fC s.Cells (aJ s) (k+1+2)=NF (fC s.Cells (aJ s) (k+2)) (D0 (aJ s k)):=fun q=>by
   rw [show k+1+2=(k+2)+1 by omega]
   conv=>lhs;unfold fC aED
   rw [en,if_neg q]
  simp only [y7,y6,y5,FH,FG,y4]
  rw [if_pos (by simp;omega),if_pos trivial,hx,aK,ew]
  generalize aJ s k=j at same more
  by_cases k1:j.Op.Kind=1
  ·have k1':(j.Op.Kind != 1)=false:=by simpa using k1
   rw [k1',if_neg (by simp)]
   by_cases p1:j.Pc=1
   ·have e:D0 j=j.H:=aP4 k1 (.inl p1)
    rw [e] at same more
    have q1:(j.Pc == 1)=true:=by simpa using p1
    have q3:(j.Pc == 3)=false:=by rw [p1];rfl
    simp only [q1,q3,if_true,aN,if_false]
    by_cases z:j.H=0
    ·rw [if_neg (by simpa using z),same z]
    ·rw [if_pos (by simpa using z),ae,aK,more z]
   have q1:(j.Pc == 1)=false:=by simpa using p1
   by_cases p2:j.Pc=2
   ·have e:D0 j=j.H:=aP4 k1 (.inr p2)
    rw [e] at same more
    have q2:(j.Pc == 2)=true:=by simpa using p2
    have q3:(j.Pc == 3)=false:=by rw [p2];rfl
    simp only [q1,q2,q3,if_true,aN,if_false]
    by_cases z:j.H=0
    ·rw [if_neg (by simpa using z),same z]
    ·rw [if_pos (by simpa using z),ae,aK,more z]
   have q2:(j.Pc == 2)=false:=by simpa using p2
   by_cases p3:j.Pc=3
   ·have e:D0 j=j.Old:=nm3 k1 p3
    rw [e] at same more
    have q3:(j.Pc == 3)=true:=by simpa using p3
    simp only [q1,q2,q3,if_true,aN,if_false]
    by_cases z:j.Old=0
    ·rw [if_neg (by simpa using z),same z]
    ·rw [if_pos (by simpa using z),ae,aK,more z]
   ·have q3:(j.Pc == 3)=false:=by simpa using p3
    simp only [q1,q2,q3,aN,if_false]
    rw [same (WL p1 p2 p3)]
  ·have k1':(j.Op.Kind != 1)=true:=by simpa using k1
   rw [k1',if_pos rfl,same (r9 k1)]) (by simp [y7,y6])
 rw [k2];rfl
theorem aEE(ho:Ow s.aA (nm s.Cells (aJ s))):(mX s.aA 24).getD 4 0=((fC s.Cells (aJ s) 5).length:Int):=by
 have hb:=hs.1
 rw [aPY s.aA 24 4 (by omega)]
 have hsort:=IG s.Cells (aJ s) 5
 have lv:∀y∈fC s.Cells (aJ s) 5,hC s.aA.Mem y/\¬BI s.aA.aL (y % 32):=fun y hy=>by
  obtain⟨i,h1,h2,h3⟩:=(NG _ _ y 5).1 hy
  have:=ho.live (i:Int) (by omega) (by rw [h2];exact h3)
  rw [h2] at this;exact this
 have:=aPX (p:=fun i=>decide (rZ s.aA i=((4:Nat):Int))) (n:=24) (l:=(fC s.Cells (aJ s) 5).map (· % 32)) ?_ (fun x hx=>?_) (fun i hi=>?_)
 ·rw [this,List.length_map]
 ·rw [List.Nodup,List.pairwise_map]
  refine List.Pairwise.imp_of_mem (fun{a b} ha hb' hab e=>?_) hsort
  have:=WJ (lv a ha).1 (lv b hb').1 e
  omega
 ·obtain⟨y,hy,rfl⟩:=List.mem_map.1 hx
  have:=(lv y hy).1.1
  unfold jH at this
  (try simp only);omega
 ·rw [decide_eq_true_iff]
  unfold rZ
  constructor
  ·intro h
   split at h
   ·rename_i h3
    split at h
    ·omega
    ·rename_i nh
     obtain⟨k,hk,k1,k2⟩:=ho.all (i:Int) h3 nh
     refine List.mem_map.2 ⟨nm s.Cells (aJ s) k,(NG _ _ _ 5).2 ⟨k.toNat,by omega,by rw [Int.toNat_of_nonneg hk.1],k1⟩,k2⟩
   ·have:=aDW s.aA.Mem i;omega
  ·intro h
   obtain⟨y,hy,e⟩:=List.mem_map.1 h
   obtain⟨a,b⟩:=lv y hy
   have e:y % 32=(i:Int):=e
   rw [e] at b
   have:=a.2.1
   rw [e] at this
   rw [if_pos this,if_neg b];rfl
theorem aG6:idx (mX s.aA 24) 4=some ((mX s.aA 24).getD 4 0):=by
 have hl5:=UJ s.aA 24
 rw [show(4:Int)=((4:Nat):Int) from rfl,aV (by omega)]
 simp [List.getD_eq_getElem?_getD,List.getElem?_eq_getElem (show 4 < (mX s.aA 24).length by omega)]
theorem aEF(ho:Ow s.aA (nm s.Cells (aJ s))):C6 s=some true:=by
 have hsm:=KV hs hl
 have hb:=hs.1
 obtain⟨hcnt,h3,h9,h1,_⟩:=mI.facts hb.1.1
 have hnl:=SL s.Cells (aJ s) 5
 unfold C6
 rw [aMU hs hl,aK]
 have lp:loop (oJ s (fC s.Cells (aJ s) 5)) 0=some (Out.brk ()):=jG (f:=oJ s (fC s.Cells (aJ s) 5)) (fC s.Cells (aJ s) 5).length (fun k=>(k:Int)) _ (fun k hk=>by
  have hm:=List.getElem_mem hk
  obtain⟨i,i1,i2,i3⟩:=(NG _ _ _ 5).1 hm
  have lv:=ho.live (i:Int) (by omega) (by rw [i2];exact i3)
  rw [i2] at lv
  have ew:bG ((k:Int)+1)=((k+1:Nat):Int):=by rw [aO (by omega) (by omega)];rfl
  simp only [oJ,uB]
  rw [if_pos (by simp;omega),aV hk,aK,nU hb.1.1.1.1.1 (by omega) (by simp only [maxLen];omega) (by simp only [maxLen];omega),aZ lv.1]
  simp only [aK,dK,aN,if_false,cV,if_pos lv.1.1,AM hb.1.2.2.1,bI lv.2,ew]) (by simp [oJ])
 rw [lp,aK]
 simp only [KO,KN,uA]
 rw [aN9 hsm,aZ hs,aK,if_pos rfl,aDY hb,aK,aG6 hs hl,aK,aEE hs hl ho]
 simp
end
end Go.Gv
end
noncomputable section
namespace Go.Gv
def Hz1(z:Int)(j:bA):Prop:=(z≠0->j.cN=true/\j.Op.Kind=3/\j.Pc≠9)/\(j.cN=true->j.Op.Kind=3->0<=j.Pc/\j.Pc<=4\/j.Pc=9)
def Hz(s:aD):Prop:=∀v,0<=v/\v<=2->Hz1 (iL s.aA.iS v) (aJ s v)
theorem aUO(b:aA)(w:Int)(s:Sub):(eF b w s).1.iS=b.iS:=by
 unfold eF EJ xS AN d9 dP OM
 simp only [apply_ite Prod.fst,apply_ite aA.iS,ite_self]
theorem aZ9{s:aD}(hs:mW s){w:Int}(hw:0<=w/\w<=2){j:bA}(hb:j.cN=true)(k:j.Op.Kind=3)(hl:cW j.H)(hp:0<=j.Pc/\j.Pc<=4):Hz1 (iL (LX s w j).b.iS w) (LX s w j).j/\∀v,0<=v/\v<=2->v≠w->iL (LX s w j).b.iS v=iL s.aA.iS v:=by
 have hz:=hs.1.1.2.2.2
 have ok:∀{z:Int} {j':bA},j'.cN=true->j'.Op=j.Op->(0<=j'.Pc/\j'.Pc<=4)->Hz1 z j':=fun{z j'} a b c=>⟨fun _=>⟨a,by rw [b];exact k,by omega⟩,fun _ _=>.inl c⟩
 unfold LX
 by_cases p0:j.Pc=0
 ·rw [if_pos p0]
  split
  ·exact⟨ok hb rfl ⟨by simp [b9],by simp [b9]⟩,fun _ _ _=>rfl⟩
  ·exact⟨ok hb rfl ⟨by simp [b9],by simp [b9]⟩,fun _ _ _=>rfl⟩
 rw [if_neg p0]
 by_cases p1:j.Pc=1
 ·rw [if_pos p1]
  refine⟨ok hb rfl ⟨by simp [b9],by simp [b9]⟩,fun v hv hn=>?_⟩
  rcases hl with hl | hl
  ·show iL (DS s.aA.iS w j.H) v=_
   unfold DS
   rw [if_neg (by rw [hl];unfold jH;omega)]
  ·show iL (DS s.aA.iS w j.H) v=_
   rw [X5 hz hw hv hl,if_neg hn]
 rw [if_neg p1]
 by_cases p2:j.Pc=2
 ·rw [if_pos p2]
  split
  ·exact⟨ok hb rfl ⟨by simp [b9],by simp [b9]⟩,fun _ _ _=>rfl⟩
  ·exact⟨ok hb rfl ⟨by simp [b9],by simp [b9]⟩,fun _ _ _=>rfl⟩
 rw [if_neg p2]
 by_cases p3:j.Pc=3
 ·rw [if_pos p3]
  exact⟨ok hb rfl ⟨by simp [b9],by simp [b9]⟩,fun _ _ _=>rfl⟩
 rw [if_neg p3,if_pos (show j.Pc=4 by omega)]
 refine⟨⟨fun q=>?_,fun _ _=>.inr rfl⟩,fun v hv hn=>aON hz hw hv hn⟩
 exfalso
 apply q
 show iL (RT s.aA.iS w) w=0
 unfold RT
 split
 ·assumption
 ·have:=hz.1
  unfold iL
  simp only [List.getD_eq_getElem?_getD,List.getElem?_set]
  simp [show w.toNat < s.aA.iS.length by omega]
theorem aXB{s:aD}(hs:mW s){w:Int}(hw:0<=w/\w<=2)(h:Hz s):Hz (fJ s w):=by
 have h3:=hs.2.2.1
 have own:=h w hw
 unfold fJ
 by_cases hb:(aJ s w).cN=false
 ·rw [if_pos hb]
  unfold G0
  cases ho:eA s.bK w with
  | nil=>exact h
  | cons o r =>
   simp only
   by_cases hm:s.aI=1000000
   ·rw [if_pos hm];exact h
   rw [if_neg hm]
   intro v hv
   rw [jE h3 hw hv]
   by_cases q:v=w
   ·subst q
    rw [dE]
    refine⟨fun z=>?_,fun _ _=>?_⟩
    ·have:=(own.1 z).1;rw [hb] at this;cases this
    ·unfold j4
     split;exact .inl ⟨Int.le_refl _,by simp⟩
     split
     ·split
      ·exact .inr rfl
      ·exact .inl ⟨Int.le_refl _,by simp⟩
     split
     ·exact .inl ⟨Int.le_refl _,by simp⟩
     ·exact .inl ⟨Int.le_refl _,by simp⟩
   ·rw [EM _ q];exact h v hv
 rw [if_neg hb]
 have hb':(aJ s w).cN=true:=by simpa using hb
 by_cases h9:(aJ s w).Pc=9
 ·rw [if_pos h9]
  intro v hv
  rw [jE h3 hw hv]
  by_cases q:v=w
  ·subst q
   rw [dE]
   exact⟨fun z=>absurd h9 (own.1 z).2.2,fun z=>by cases z⟩
  ·rw [EM _ q];exact h v hv
 rw [if_neg h9]
 have J:=aZY hs hw h9
 have hjk:JOk (aJ s w):=by
  have h:=BE hs hw
  rw [fH hw.1 (by omega)] at h
  injection h with h
  rw [<-h];exact hs.2.2.2.2.2.2 _ (List.getElem_mem _)
 have hjo:=(v9 hb').1 hjk
 have key:Hz1 (iL (zL s w (aJ s w)).b.iS w) (zL s w (aJ s w)).j/\∀v,0<=v/\v<=2->v≠w->iL (zL s w (aJ s w)).b.iS v=iL s.aA.iS v:=by
  by_cases k3:(aJ s w).Op.Kind=3
  ·have e:zL s w (aJ s w)=LX s w (aJ s w):=by unfold zL;rw [if_neg (by omega),if_neg (by omega),if_pos k3]
   rw [e]
   exact aZ9 hs hw hb' k3 hjo.2.1 ((own.2 hb' k3).resolve_right h9)
  ·have eH:(zL s w (aJ s w)).b.iS=s.aA.iS:=by
    have sh:=aUO s.aA w (aJ s w).Sub
    unfold zL
    rw [if_neg k3]
    simp only [apply_ite JR.b,apply_ite aA.iS]
    unfold OO NC GG o8
    simp only [apply_ite JR.b,apply_ite aA.iS,sh,ite_self]
   rw [eH]
   have z0:iL s.aA.iS w=0:=by
    by_cases z:iL s.aA.iS w=0
    ·exact z
    ·exact absurd (own.1 z).2.1 k3
   exact⟨⟨fun z=>absurd z0 z,fun _ z=>by rw [J.op.1] at z;exact absurd z k3⟩,fun _ _ _=>rfl⟩
 unfold jV
 intro v hv
 rw [jE h3 hw hv]
 by_cases q:v=w
 ·subst q;rw [dE];exact key.1
 ·rw [EM _ q]
  show Hz1 (iL (zL s w (aJ s w)).b.iS v) _
  rw [key.2 v hv q];exact h v hv
end Go.Gv
end
noncomputable section
namespace Go.Gv
theorem aUP{l:List aY}(h3:l.length=3)(h:∀v:Int,0<=v/\v<=2->bE l v=[]):bC l=[]:=by
 unfold bC
 rw [List.flatMap_eq_nil_iff]
 intro x hx
 obtain⟨i,hi,e⟩:=List.getElem_of_mem hx
 have:=h (i:Int) (by omega)
 unfold bE at this
 rw [Int.toNat_natCast,List.getD_eq_getElem?_getD,List.getElem?_eq_getElem hi] at this
 rw [<-e];exact this
theorem aK0{s:aD}(hs:mW s)(h:∀v:Int,0<=v/\v<=2->bE s.aA.aL v=[]):IA s=some []:=by
 have hL:=hs.1.1.2.2.1
 have h3:=hL.1
 unfold IA
 have lp:loop (sW s) (([]:List Int),0)=some []:=jG (f:=sW s) 3 (fun k=>(([]:List Int),(k:Int))) _ (fun k hk=>by
  have hx:=A1 hL (w:=(k:Int)) (by omega)
  rw [h k (by omega)] at hx
  have lp2:loop (GV ⟨[]⟩) (([]:List Int),0)=some []:=bS (by simp [GV])
  simp only [sW]
  rw [if_pos (by simp;omega),hx,aK,lp2,aK]
  simp only [PC,PB]
  rw [aO (by omega) (by omega)];rfl) (by simp [sW,h3])
 rw [lp];rfl
theorem a0A{q r:Nat}{j:bA}(hj:j.cN=false):dcW q r j=9 * q+5 * r:=by
 unfold dcW PU
 rw [if_pos hj];omega
theorem aXC{s:aD}(hs:mW s)(hv:Sv s.aA s.Cells (aJ s) s.Log s.aI)(hep:Ep s.aA.aB (aJ s))(hz:Hz s)(hi:m8 s)(he:s.aA.aB.aG<=1000)(hl:s.Log.length<=1000)(hn:s.aI<=1000) :
  m8 (qS (tU s 8))/\mW (qS (tU s 8))/\(qS (tU s 8)).Cells=s.Cells/\(∀v:Int,0<=v/\v<=2->bE (qS (tU s 8)).aA.aL v=[])/\(qS (tU s 8)).Log.length<=10000 /\
   Sv (qS (tU s 8)).aA (qS (tU s 8)).Cells (aJ (qS (tU s 8))) (qS (tU s 8)).Log (qS (tU s 8)).aI:=by
 have hc:=aOE hs (n:=8) (by omega)
 obtain⟨_,f2,f3⟩:=aIR hc (show(tU s 8).Log.length<=100000 by show s.Log.length<=100000;omega)
 have f3':(qS (tU s 8)).Log.length<=s.Log.length+3000:=f3
 have jz:∀v,0<=v/\v<=2->(aJ s v).cN=false:=fun v hv=>hi.1 _ (X4 hs hv)
 have ops:∀v:Int,0<=v/\v<=2->eA (tU s 8).bK v=List.replicate 8 BF:=fun v hv=>by
  have hc3:v=0\/v=1\/v=2:=by omega
  rcases hc3 with rfl | rfl | rfl <;> rfl
 have ep0':=hs.1.1.2.1.1
 have lr:=aG4 hs.1.1.2.1
 have cost:dcS (tU s 8)<=600:=by
  have r:=fun(v:Int) (hv:0<=v/\v<=2)=>XW hs.1.1.2.2.1 hv
  have w1:=fun(v:Int) (hv:0<=v/\v<=2)=>a0A (q:=8) (r:=(bE s.aA.aL v).length) (jz v hv)
  have e:dcS (tU s 8)=dcW (8:Nat) (bE s.aA.aL 0).length (aJ s 0)+dcW (8:Nat) (bE s.aA.aL 1).length (aJ s 1)+dcW (8:Nat) (bE s.aA.aL 2).length (aJ s 2):=by
   unfold dcS
   rw [ops 0 (by omega),ops 1 (by omega),ops 2 (by omega),List.length_replicate];rfl
  rw [e,w1 0 (by omega),w1 1 (by omega),w1 2 (by omega)]
  have:=r 0 (by omega);have:=r 1 (by omega);have:=r 2 (by omega)
  omega
 have d0:Dr s.aA.aB.aG s.Cells 2000 (tU s 8):=by
  refine⟨rfl,fun v hv=>?_,⟨Int.le_refl _,by show s.aA.aB.aG+_<=_;omega⟩,fun v hv hb=>?_,fun v hv o ho=>?_,fun r hr=>(hs.1.2 r hr).2,fun v hv=>.inr ?_⟩
  ·by_cases z:iL s.aA.iS v=0
   ·exact z
   ·have:=((hz v hv).1 z).1;rw [jz v hv] at this;cases this
  ·have:(aJ s v).cN=true:=hb
   rw [jz v hv] at this;cases this
  ·rw [ops v hv] at ho
   rw [List.eq_of_mem_replicate ho];rfl
  ·unfold JW
   rw [if_pos (.inl (jz v hv)),ops v hv,List.length_replicate]
   show ndC (pA s.aA.aB) s.aA.aB.aG s.aA.aB.aG<=_
   unfold ndC
   rw [if_pos (Int.le_refl _)]
   omega
 let P:aD->Prop:=fun x=>Dr s.aA.aB.aG s.Cells 2000 x/\Ep x.aA.aB (aJ x)/\Sv x.aA x.Cells (aJ x) x.Log x.aI/\x.aI+dcS x<=3000/\x.Log.length+dcS x<=3000
 have step:∀(x:aD) (w:Int),mW x->(0<=w/\w<=2)->P x->mW (fJ x w)/\P (fJ x w)/\(¬zO x w->dcS (fJ x w)+1<=dcS x):=fun x w hx hw ⟨p1,p2,p3,p4,p5⟩=>by
  obtain⟨_,o1,o2⟩:=WD hx (by omega) hw
  by_cases q:zO x w
  ·rw [aOH hx hw q]
   exact⟨hx,⟨p1,p2,p3,p4,p5⟩,fun z=>absurd q z⟩
  ·obtain⟨a,b⟩:=aXA hx p3 p2 (by omega) p1 hw (by omega) q
   have sx:(fJ x w).aI<=x.aI+1:=by
    unfold fJ
    split
    ·unfold G0
     split
     ·omega
     ·split
      ·omega
      ·simp only;omega
    split
    ·simp only;omega
    ·unfold jV;simp only;omega
   exact⟨o1,⟨a,aOD hx hw p2,aOP hx hw p2 p3,by omega,by omega⟩,fun _=>b⟩
 obtain⟨gi,g1,_,g3,_⟩:=X6 dcS P step 3000 0 (tU s 8) hc ⟨d0,hep,hv,by show s.aI+_<=_;omega,by show s.Log.length+_<=_;omega⟩ (by
  have:wait (tU s 8) 0<=2:=by unfold wait;split;split <;> omega;omega
  omega)
 have gi':m8 (qS (tU s 8)):=gi
 have g1':Dr s.aA.aB.aG s.Cells 2000 (qS (tU s 8)):=g1
 have g3':Sv (qS (tU s 8)).aA (qS (tU s 8)).Cells (aJ (qS (tU s 8))) (qS (tU s 8)).Log (qS (tU s 8)).aI:=g3
 generalize qS (tU s 8)=z at f2 f3' gi' g1' g3'
 refine⟨gi',f2,g1'.cells,fun v hv=>?_,by omega,g3'⟩
 rcases g1'.need v hv with q | q
 ·exact q
 ·exfalso
  have jb:=gi'.1 _ (X4 f2 hv)
  have qz:(eA z.bK v).length=0:=by
   have tz:=f2.2.2.2.1.1
   have:=gi'.2 ⟨eA z.bK v⟩ (List.mem_of_getElem? (i:=v.toNat) (by
    unfold eA
    rw [List.getD_eq_getElem?_getD,List.getElem?_eq_getElem (show v.toNat < z.bK.length by omega)];rfl))
   simpa using this
  unfold JW at q
  rw [if_pos (.inl jb),qz] at q
  have:=aG4 f2.1.1.2.1
  unfold ndC at q
  split at q <;> omega
theorem aFY{code:List UInt8}(_:fit code):JB code=some true:=by
 unfold JB aBZ
 rw [aK]
 by_cases hcl:1048576 < (code.length:Int)
 ·rw [if_pos (by simpa using hcl)]
 rw [if_neg (by simpa using hcl)]
 obtain⟨x,ex,⟨hT,h8⟩,hp⟩:=aKT (code:=code) (by omega)
 rw [ex,aK,aTZ hT,aK]
 by_cases ht:JS x.bK
 ·rw [aZ ht,if_neg (by simp)]
  have hN:(OQ fun v=>(eA x.bK v).length) < 1000:=by
   have key:∀v,(eA x.bK v).length<=12:=fun v=>by
    unfold eA
    rw [List.getD_eq_getElem?_getD]
    cases e:x.bK[v.toNat]? with
    | none=>simp
    | some q=>exact(ht.2 q (List.mem_of_getElem? e)).1
   have a:=key 0;have b:=key 1;have c:=key 2
   simp only [OQ];omega
  generalize hNe:(OQ fun v=>(eA x.bK v).length)=N at hN
  let P:aD->Prop:=fun s=>(Tl N s/\phi s+s.Log.length<=774)/\Ep s.aA.aB (aJ s)/\Sv s.aA s.Cells (aJ s) s.Log s.aI/\Hz s/\s.aA.aB.aG+phi s<=774
  have ser:∀s:aD,P s->s.aI≠1000000:=fun s h=>by have:=h.1.1.tot;omega
  have step:∀(s:aD) (w:Int),mW s->(0<=w/\w<=2)->P s->mW (fJ s w)/\P (fJ s w):=fun s w hs hw h=>by
   obtain⟨_,o1,o2⟩:=WD hs (by have:=h.1.2;omega) hw
   obtain⟨⟨p1,p2⟩,p3,p4,p5,p6⟩:=h
   by_cases q:zO s w
   ·rw [aOH hs hw q];exact⟨hs,⟨p1,p2⟩,p3,p4,p5,p6⟩
   ·have:=aKO hs hw (ser s ⟨⟨p1,p2⟩,p3,p4,p5,p6⟩) q
    have:=aW8 s w
    exact⟨o1,⟨aWZ hs hw (by omega) p1,by omega⟩,aOD hs hw p3,aOP hs hw p3 p4,aXB hs hw p5,by omega⟩
  obtain⟨s,es,hs,hE,hl⟩:=a1T hT hp P (fun t h e=>by
   rw [e]
   have z0:(fW x.bK).Log.length=0:=rfl
   have e0:(fW x.bK).aA.aB.aG=0:=rfl
   have p0:=a3F ht h8
   refine⟨⟨hNe ▸ tl0 ht,by omega⟩,ep0 _,sv0 _,fun v hv=>?_,by omega⟩
   have hc:v=0\/v=1\/v=2:=by omega
   rcases hc with rfl | rfl | rfl <;> exact⟨fun q=>absurd rfl q,fun q=>by cases q⟩) (fun s w a b c=>(step s w a b c).2) ht
  obtain⟨e,f1,f2⟩:=aIR hs (by omega)
  obtain⟨gi,gT,gE,gV,gH,gK⟩:=aD3 P step ser 3000 0 s hs hE (by
   have:wait s 0<=2:=by unfold wait;split;split <;> omega;omega
   have:=hE.1.2
   omega)
  rw [es,aK,e,aK]
  have gi':m8 (qS s):=gi
  have gT':Tl N (qS s)/\phi (qS s)+(qS s).Log.length<=774:=gT
  have gE':Ep (qS s).aA.aB (aJ (qS s)):=gE
  have gV':Sv (qS s).aA (qS s).Cells (aJ (qS s)) (qS s).Log (qS s).aI:=gV
  have gH':Hz (qS s):=gH
  have gK':(qS s).aA.aB.aG+phi (qS s)<=774:=gK
  generalize qS s=z at f1 f2 gi' gT' gE' gV' gH' gK'
  have hser:z.aI<=1000:=by have:=gT'.1.tot;omega
  obtain⟨d1,d2,d3,d4,d5,d6⟩:=aXC f1 gV' gE' gH' gi' (by omega) (by omega) hser
  obtain⟨de,_,_⟩:=drain_eq f1 (by omega) gi' (n:=8) (by omega)
  rw [show((8:Nat):Int)=8 from rfl] at de
  rw [de,aK]
  generalize qS (tU z 8)=d at d1 d2 d3 d4 d5 d6
  have c2:=d2.2.1
  have hnil:=aUP d2.1.1.2.2.1.1 d4
  have hjobs:=d2.2.2.1
  have nz:∀v,0<=v/\v<=2->D0 (aJ d v)=0:=fun v hv=>r9 (by have:=(d6.jv v hv).idle (d1.1 _ (X4 d2 hv));omega)
  have cnt:∀k,k<=2->∃m:Nat,m<=2/\(fC d.Cells (aJ d) k).length=m/\loop (jO) (0,0,z,d)=loop (jO) ((m:Int),(k:Int),z,d):=by
   intro k
   induction k with
   | zero=>intro _;exact⟨0,by omega,rfl,rfl⟩
   | succ k ih =>
    intro hk
    obtain⟨m,m2,m3,m4⟩:=ih (by omega)
    have hx:idx d.Cells (k:Int)=some (nm d.Cells (aJ d) k):=by rw [EL d2 (k:=(k:Int)) (by omega),kK _ _ (k:=(k:Int)) (by omega)]
    have ew:bG ((k:Int)+1)=((k+1:Nat):Int):=by rw [aO (by omega) (by omega)];rfl
    have ew2:bG ((m:Int)+1)=((m+1:Nat):Int):=by rw [aO (by omega) (by omega)];rfl
    have nl:=SL d.Cells (aJ d) k
    by_cases q:nm d.Cells (aJ d) k=0
    ·refine⟨m,m2,?_,?_⟩
     ·rw [<-m3];simp only [fC,aED];rw [if_pos q]
     ·rw [m4]
      refine bW ?_
      simp only [jO,oK]
      rw [if_pos (by simp;omega),hx,aK,if_neg (by simpa using q),ew]
    ·refine⟨m+1,by omega,?_,?_⟩
     ·have nm:nm d.Cells (aJ d) k∉fC d.Cells (aJ d) k:=fun hm=>by
       obtain⟨i,i1,i2,i3⟩:=(NG _ _ _ k).1 hm
       have:=d6.ow.once (i:Int) (k:Int) (by omega) (by omega) (by rw [i2];exact i3) i2
       omega
      simp only [fC,aED]
      rw [if_neg q,aEB nm,m3]
     ·rw [m4]
      refine bW ?_
      simp only [jO,oK]
      rw [if_pos (by simp;omega),hx,aK,if_pos (by simpa using q),ew,ew2]
  obtain⟨m,m2,m3,m4⟩:=cnt 2 (by omega)
  have lp:loop (jO) (0,0,z,d)=some ((m:Int),z,d):=by
   rw [m4]
   refine bS ?_
   simp only [jO]
   rw [if_neg (by simp;omega)]
  rw [lp,aK]
  have n5:fC d.Cells (aJ d) 5=fC d.Cells (aJ d) 2:=by
   have st:∀k:Nat,2<=k->k<=4->fC d.Cells (aJ d) (k+1)=fC d.Cells (aJ d) k:=fun k h1 h2=>by
    have e:nm d.Cells (aJ d) (k:Int)=0:=by
     have:=fI d.Cells (aJ d) (v:=(k:Int) - 2) (by omega)
     rw [show(k:Int) - 2+2=k by omega] at this
     rw [this];exact nz _ (by omega)
    conv=>lhs;unfold fC aED
    rw [if_pos e]
   rw [st 4 (by omega) (by omega),st 3 (by omega) (by omega),st 2 (by omega) (by omega)]
  have ut:=aEE d2 (by omega) d6.ow
  rw [n5,m3] at ut
  simp only [KQ,KP,f7]
  rw [aKM f1.lens.1 f1.lens.2,aZ gi',aK,if_pos rfl,aKM d2.lens.1 d2.lens.2,aZ d1,aK,if_pos rfl,if_pos (by simp [hjobs]),aK0 d2 d4,aK,if_pos (by simp),aMJ d2.1.1.2.2.1,aK,hnil,if_pos (by simp),d3,aFT (by have:=f1.2.1;omega),aK,if_pos rfl,aDY d2.1,aK,aG6 d2 (by omega),aK,ut,if_pos (by simp),aEF d2 (by omega) d6.ow,aK]
 ·rw [bI ht];rfl
end Go.Gv
end
noncomputable section
namespace Go.Gv
def aUQ(n:Int):Prop:=0<=n/\n<=562949953421311
def aOQ(s:aP):Prop:=s.aS.length<=1048576/\∀x∈s.aS,aUQ x
theorem R3:∀(n:Nat) (l:List Nat),l.Nodup->(∀x∈l,x < n)->l.length<=n
 | 0, l, _, h => by
  cases l with
  | nil=>simp
  | cons x r=>exact absurd (h x List.mem_cons_self) (by omega)
 | n + 1, l, hn, h => by
  by_cases hm:n∈l
  ·have h1:=R3 n (l.erase n) (hn.erase n) fun x hx=>by
    have:=h x (List.mem_of_mem_erase hx)
    have hne:x≠n:=fun e=>by subst e;exact(hn.not_mem_erase) hx
    omega
   have:=List.length_erase_of_mem hm
   have:=List.length_pos_of_mem hm
   omega
  ·have:=R3 n l hn fun x hx=>by
    have:=h x hx
    have hne:x≠n:=fun e=>hm (e ▸ hx)
    omega
   omega
theorem mI.TN{m:Mem}(h:mI m):(c9 m.aC).length<=24/\(∀s∈m.aC.Global,aOQ s/\s.aS.length<=24)/\∀s∈m.aC.cL,aOQ s/\s.aS.length<=24:=by
 have hr:∀x∈c9 m.aC,0<=x/\x<=23:=h.1.2.2.2.2.1
 have hn:(c9 m.aC).Nodup:=h.1.2.2.2.2.2
 have h24:(c9 m.aC).length<=24:=by
  have h1:((c9 m.aC).map Int.toNat).Nodup:=by
   rw [List.nodup_iff_pairwise_ne] at hn ⊢
   rw [List.pairwise_map]
   exact hn.imp_of_mem fun{a b} ha hb hab e=>hab (by have:=hr a ha;have:=hr b hb;omega)
  have h2:∀y∈(c9 m.aC).map Int.toNat,y < 24:=by
   intro y hy
   obtain⟨x,hx,rfl⟩:=List.mem_map.1 hy
   have:=hr x hx
   omega
  have:=R3 24 _ h1 h2
  simpa using this
 have hal:=oO m.aC
 have hm1:∀s∈m.aC.Global,∀x∈s.aS,x∈c9 m.aC:=fun s hs x hx=>List.mem_append_left _ (List.mem_flatMap.2 ⟨s,hs,hx⟩)
 have hm2:∀s∈m.aC.cL,∀x∈s.aS,x∈c9 m.aC:=fun s hs x hx=>List.mem_append_right _ (List.mem_flatMap.2 ⟨s,hs,hx⟩)
 refine⟨h24,fun s hs=>?_,fun s hs=>?_⟩
 ·have:=zH hs
  exact⟨⟨by omega,fun x hx=>by have:=hr x (hm1 s hs x hx);unfold aUQ;omega⟩,by omega⟩
 ·have:=zH hs
  exact⟨⟨by omega,fun x hx=>by have:=hr x (hm2 s hs x hx);unfold aUQ;omega⟩,by omega⟩
end Go.Gv
end
noncomputable section
namespace Go.Gv
theorem mI.small{m:Mem}(h:mI m):tT m:=by
 have h1:=h.1.1.1.1;have h2:=h.1.1.1.2.1;have h3:=h.1.2.1;have h4:=h.1.2.2.1;have h5:=h.TN.1
 unfold tT;omega
end Go.Gv
end
