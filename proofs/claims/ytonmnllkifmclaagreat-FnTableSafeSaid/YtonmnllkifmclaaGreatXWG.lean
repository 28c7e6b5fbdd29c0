import Derived.Test.YtonmnllkifmclaaGreatXWF
set_option linter.unusedVariables false
set_option linter.unusedSimpArgs false
set_option linter.unusedSectionVars false
noncomputable section
namespace Go.Gv
theorem bJ5{z:List Int}(h:z=[0,0,0]){v:Int}(hv:j7 v):a6X z v=0:=by subst h;rcases(by omega:v=0\/v=1\/v=2) with rfl|rfl|rfl<;>rfl
section
variable {Ky:List Int} {b:aA} {k:List cQ} {c:Int->List Int} {q:Int->Nat} {J:Int->aI} {w:Int} (h:uV Ky b k c q J) (hl:∀v,j7 v->LkJ k v (J v)) (hw:j7 w) (hb:kD b) (hJ:∀v,j7 v->(J v).cR=true->JB (J v)) (hB:(J w).cR=true)
include h hl hw hb hJ hB
theorem a9M(hp:(J w).Pc=15):uV Ky (SC b w (J w)).1 k c q (zA J w (SC b w (J w)).2):=by
 have t:=h.tw w hw hB;have hj:=hJ w hw hB;have hc:=hb.1.2.1;have hk:=hj.k;have o1:∀{j':aI},j'.Pc=15->own j'=j'.bU.drop j'.K.toNat/\lC j'=[]:=λ{j'} q=>by simp[own,lC,aGT,q]
 have tw:∀{j':aI},j'.Pc=15\/j'.Pc=18->j'.aH=(J w).aH/\j'.Batch=(J w).Batch/\j'.At=(J w).At/\j'.Code=(J w).Code->TW Ky b.Mem k c (q w) j':=λ{j'} q ⟨e3,e4,e5,e6⟩=>by have cd:=t.cd;refine⟨by omega,λx=>by omega,λx=>by omega,λx=>by omega,by rw[e3,e5];exact t.wl,λx=>by omega,λx=>by omega,λx=>by omega,λx=>by omega,λx=>by omega,λx=>by omega,λx=>by omega,λx=>by omega,λx=>by omega,by omega,λx _=>by rw[e5,e4];exact t.at_ (by omega) (by omega),λx=>?_,λx=>by omega,by rw[e3,e4];exact t.ky⟩;have:=t.cl (by grind);omega
 unfold SC;by_cases c1:((J w).bU.length:Int)<=(J w).K
 ·rw[aL c1];have o2:own {J w with Pc:=18}=[]/\lC {J w with Pc:=18}=[]:=J2 (.inr (by simp));exact h.still hl hw hc hJ (λ_ _=>rfl) (by simp_all) (by grind) (.inl (by simp)) (λ_=>tw (.inr rfl) ⟨rfl,rfl,rfl,rfl⟩) (.no (by simp)) (.no (by simp))
 rw[aP c1];obtain⟨s0,s1,s2,s3,s4⟩:=(h.sb w hw).rt hp (by omega);have es:jG b w (J w).Sub=y9 b w (J w).Sub:=by grind[jG]
 rw[es];have hi:(J w).K.toNat<(J w).bU.length:=by omega
 have eA:(J w).Sub.A=(J w).bU[(J w).K.toNat]:=by grind
 have eo:own (J w)=(J w).Sub.A::(J w).bU.drop ((J w).K.toNat+1):=by simp_all
 have hm:(J w).Sub.A∈own (J w):=by grind
 have hn:=h.name hw hw hm;have hA:=h.ok w hw _ hm;have hi1:ind b ((J w).Sub.A % 32)=1:=by omega
 have hH:¬bD b.aM ((J w).Sub.A % 32):=λq=>by grind[YY]
 unfold y9;rcases s4 with p0|⟨p1,e0,e1⟩
 ·rw[aL p0,aP (by simp[s2])];refine h.quiet hl hw hc hJ (cl:=b.aD) (λ_ _=>rfl) rfl (λ_ x=>x) (λ_ _ _=>.inl rfl) (λ_ _ _ p=>⟨p,rfl⟩) (O4 _) (λ_=>tw (.inl hp) ⟨rfl,rfl,rfl,rfl⟩) (.no (by simp[hp])) ⟨λp=>absurd p (by simp[hp]),λ_ _=>⟨s0,s1,s2,s3,.inr ⟨rfl,hc.1.1,O4 _⟩⟩,λp=>absurd p (by simp[hp])⟩
 ·rw[nC,aL p1,aL ⟨e0,e1⟩,aL ⟨hA.1,hH⟩,aL (by rfl)];have hL:=hb.1.2.2.1;obtain⟨A,B,f1,f2⟩:=aSV hL hw;have hf:∀r,r∈cE (b.aM.set w.toNat ⟨dR b.aM w++[⟨(J w).Sub.A,(J w).Sub.E⟩]⟩)↔r∈cE b.aM\/r=⟨(J w).Sub.A,(J w).Sub.E⟩:=λr=>by grind
  have fin:∀{j':aI},j'.Pc=15->j'.K=(J w).K+1->j'.bU=(J w).bU->j'.aH=(J w).aH/\j'.Batch=(J w).Batch/\j'.At=(J w).At/\j'.Code=(J w).Code->(j'.K<j'.bU.length->j'.Sub.Pc=0)->SbJ {b with aM:=b.aM.set w.toNat ⟨dR b.aM w++[⟨(J w).Sub.A,(J w).Sub.E⟩]⟩} w j' ->
    uV Ky {b with aM:=b.aM.set w.toNat ⟨dR b.aM w++[⟨(J w).Sub.A,(J w).Sub.E⟩]⟩} k c q (zA J w j'):=λ{j'} q1 q2 q3 q4 q5 q6=>by
   have o':=o1 q1;have eo':own j'=(J w).bU.drop ((J w).K.toNat+1):=by(simp_all;omega)
   refine h.make hl hw hc hJ (y:=0) (z:=-1) ⟨λx hx _=>⟨hx,λ_=>rfl⟩,.inl rfl,.inl rfl,λi hi _=>⟨rfl,rfl⟩,.inl rfl,λr hr=>?_,by grind,λ_ x z=>by omega,λ_ _ _ p=>⟨p,rfl⟩,O4 _,λv hv hn=>aGU hL.1 hw hv hn _⟩ rfl h.ch h.key (λs=>?_) (λx hx=>h.ok w hw x (by grind)) (λ_=>tw (.inl q1) q4) (.no (by omega)) q6
   ·grind
   ·have u:=aC5 (J:=J) hw j' s;rw[eo,eo',UD] at u;have u2:=h.cnt s;by_cases q:(J w).Sub.A % 32=s
    ·rw[aL q] at u;have a2:ind {b with aM:=b.aM.set w.toNat ⟨dR b.aM w++[⟨(J w).Sub.A,(J w).Sub.E⟩]⟩} s=0:=YY (.inr ⟨⟨(J w).Sub.A,(J w).Sub.E⟩,(hf _).2 (.inr rfl),hA.1.1,q⟩);grind
    ·rw[aP q] at u;have a2:ind {b with aM:=b.aM.set w.toNat ⟨dR b.aM w++[⟨(J w).Sub.A,(J w).Sub.E⟩]⟩} s=ind b s:=aSW Iff.rfl ⟨λ⟨r,hr,x1,x2⟩=>by
      rcases(hf r).1 hr with a|rfl
      ·exact⟨r,a,x1,x2⟩
      grind,λ⟨r,hr,x⟩=>⟨r,(hf r).2 (.inl hr),x⟩⟩
     omega
  unfold YU;by_cases q:(J w).K+1<(J w).bU.length
  ·rw[aL q];exact fin hp rfl rfl ⟨rfl,rfl,rfl,rfl⟩ (λ_=>rfl) ⟨λp=>absurd p (by simp[hp]),λ_ _=>⟨by grind,rfl,rfl,rfl,.inl rfl⟩,λp=>absurd p (by simp[hp])⟩
  ·rw[aP q];exact fin hp rfl rfl ⟨rfl,rfl,rfl,rfl⟩ (λx=>absurd x q) ⟨λp=>absurd p (by simp[hp]),λ_ x=>absurd x q,λp=>absurd p (by simp[hp])⟩
theorem bIN(hp:(J w).Pc=17):uV Ky (QC b w (J w)).1 k c q (zA J w (QC b w (J w)).2):=by
 have t:=h.tw w hw hB;have hj:=hJ w hw hB;have hc:=hb.1.2.1;have o:=wD (j:=J w) (.inr (.inr hp));have tw:∀{m':Mem} {j':aI},j'.Pc=17\/j'.Pc=18->j'.bU=(J w).bU/\j'.aH=(J w).aH/\j'.Batch=(J w).Batch/\j'.At=(J w).At/\j'.Code=(J w).Code->TW Ky m' k c (q w) j':=λ{m' j'} q ⟨e2,e3,e4,e5,e6⟩=>by have cd:=t.cd;refine⟨by omega,λx=>by omega,λx=>by rw[e2];exact t.oO (by omega),λx=>by omega,by rw[e3,e5];exact t.wl,λx=>by omega,λx=>by omega,λx=>by omega,λx=>by omega,λx=>by omega,λx=>by omega,λx=>by omega,λx=>by omega,λx=>by omega,by omega,λx _=>by omega,λx=>?_,λx=>by omega,by rw[e3,e4];exact t.ky⟩;have:=t.cl (by grind);omega
 unfold QC;by_cases c1:(J w).eO.length=0
 ·rw[aL c1];have e0:=wE c1;have o2:own {J w with Pc:=18}=[]/\lC {J w with Pc:=18}=[]:=J2 (.inr (by simp));exact h.still hl hw hc hJ (λ_ _=>rfl) (by grind) (by grind) (.inl (by simp)) (λ_=>tw (.inr rfl) ⟨rfl,rfl,rfl,rfl,rfl⟩) (.no (by simp)) (.no (by simp))
 rw[aP c1]
 match hN:(J w).eO,c1 with
 |x::r,_=>
 have hm:x∈own (J w):=by grind
 have hA:=h.ok w hw x hm;have hn:=h.name hw hw hm;have hi1:ind b (x % 32)=1:=by omega
 have hH:¬bD b.aM (x % 32):=λq=>by grind[YY]
 show uV Ky (if bD b.aM (x % 32) then b else {b with Mem:=a38 b.Mem w x}) k c q (zA J w {J w with eO:=r});rw[aP hH];unfold a38;rw[aL hA.1];have kn:=a7G hb.1.1 hw hA.1;have o':own {J w with eO:=r}=r/\lC {J w with eO:=r}=r:=wD (j:={J w with eO:=r}) (.inr (.inr hp));have oth:Oth b {b with Mem:=sA b.Mem w x} k k c c J w {J w with eO:=r} 0 (x % 32):=⟨λy hy hz=>⟨(kn y hy hz).1,λ_=>(kn y hy hz).2⟩,.inr (.inr ⟨x,hm,rfl⟩),.inl rfl,λ_ _ _=>⟨rfl,rfl⟩,.inr λv hv hn hp' hpin y hy hs e=>by
   have:=aDV hy.1 hA.1 e;subst this;exact(hs.2 w hw).1 (by grind),λr hr=>.inl hr,λy hy=>.inl (by grind),λz=>absurd z (by simp[hp]),λ_ _ _ p=>⟨p,rfl⟩,O4 _,λ_ _ _=>rfl⟩
 have chs:=λi (hi:W3 i)=>(oth.chn h hw hi (λq=>((h.ch i hi).all 0 q).1.ne rfl)).2 rfl rfl;have fst:∀s,s≠x % 32->dZ (sA b.Mem w x) s=dZ b.Mem s:=λs hs=>aSR hb.1.1 hw hA.1 hs;have fz:=(aGS hb.1.1 hw hA.1).2.2.2;refine h.make hl hw hc hJ oth rfl (λi hi=>(chs i hi).1) (λi hi=>by rw[(chs i hi).2];exact h.key i hi) (λs=>?_) (λy hy=>?_) (λ_=>tw (.inl hp) ⟨rfl,rfl,rfl,rfl,rfl⟩) (.no (by simp[hp])) (.no (by simp[hp]))
 ·have u:=aC5 (J:=J) hw {J w with eO:=r} s;rw[o.1,o'.1,hN,UD] at u;have u2:=h.cnt s;by_cases q:x % 32=s
  ·rw[aL q] at u;grind[YY]
  ·rw[aP q] at u;have a2:ind {b with Mem:=sA b.Mem w x} s=ind b s:=aSW (by grind) Iff.rfl;omega
 ·rw[o'.1] at hy;have hm':y∈own (J w):=by grind
  refine(kn y (h.ok w hw y hm') λe=>?_).1;have u:=hn.1;have:2<=csL (own (J w)) (x % 32):=by rw[o.1,hN,UD,aL rfl];grind[OF]
  omega
theorem aSX(hE:∀v,j7 v->(J v).Pc=3\/(J v).Pc=4->lG b.aD v->b.aD.aJ<=(dB b.aD v).aJ+1)(hp:(J w).Pc=21){j':aI}(hj':(dO b w (J w).Sub).2.iB=true/\j'={J w with Pc:=19,Sub:=(dO b w (J w).Sub).2}\/(dO b w (J w).Sub).2.iB=false/\j'={J w with Sub:=(dO b w (J w).Sub).2}) :
  uV Ky (dO b w (J w).Sub).1 k c q (zA J w j')/\((dO b w (J w).Sub).2.iB=true->(dO b w (J w).Sub).2.Code=0):=by
 have t:=h.tw w hw hB;have hc:=hb.1.2.1;have hL:=hb.1.2.2.1;obtain⟨s1,s2,s3⟩:=(h.sb w hw).col hp;have p':j'.Pc=19\/j'.Pc=21:=by grind
 have tw:∀{m':Mem},TW Ky m' k c (q w) j':=λ{m'}=>by
  obtain⟨e1,e2,e3,e4,e5,e6⟩:j'.eO=(J w).eO/\j'.bU=(J w).bU/\j'.aH=(J w).aH/\j'.Batch=(J w).Batch/\j'.At=(J w).At/\j'.Code=(J w).Code:=by grind
  have cd:=t.cd;have at0:=t.at_;have hcol:=t.cl2 (.inr hp);have hbat:=(hJ w hw hB).bat;have hat:=(hJ w hw hB).at_;have hcm:=hbat.1 hcol;rw[hcm] at hat;simp only[List.length_nil] at hat;refine⟨by omega,λx=>by rw[e1];exact t.nO (by omega),λx=>by rw[e2];exact t.oO (by omega),λx=>by omega,by rw[e3,e5];exact t.wl,λx=>by omega,λx=>by omega,λx=>by omega,λx=>by omega,λx=>by omega,λx=>by omega,λx=>by omega,λx=>by omega,λx=>by omega,by omega,λx _=>by grind,λx=>by omega,λx=>by grind,by rw[e3,e4];exact t.ky⟩
 have o:=J2 (j:=J w) (.inr (by omega));have o':=J2 (j:=j') (.inr (by omega));have still:(dO b w (J w).Sub).1=b->(j'.Pc=21->bIH b.aD.aJ (dR b.aM w) j'.Sub)->uV Ky (dO b w (J w).Sub).1 k c q (zA J w j'):=λe q=>by rw[e];exact h.still hl hw hc hJ (λ_ _=>rfl) (by grind) (by grind) (.inl (by omega)) (λ_=>tw) (.no (by omega)) ⟨λp=>by omega,λp=>by omega,q⟩
 have sub':j'.Sub=(dO b w (J w).Sub).2:=by grind
 have nd:j'.Pc=21->(dO b w (J w).Sub).2.iB=false:=λq=>by grind
 have hrow:∀{i:Int},0<=i/\i<(dR b.aM w).length->P9 (dR b.aM w) i∈cE b.aM:=λhi=>aCV hL hw (aR6 hi);rcases s3 with p0|⟨el,⟨p1,r0⟩|⟨p2,hB2,ha,hr⟩|⟨p3,ha,hr⟩⟩
 ·have e:dO b w (J w).Sub=(b,{(J w).Sub with Pc:=1,E:=b.aD.aJ,Row:=0}):=by simp_all[dO]
  refine⟨still (by rw[e]) λq=>?_,λq=>by grind⟩;rw[sub',e];exact⟨s1,s2,.inr ⟨O4 _,.inl ⟨rfl,O4 _⟩⟩⟩
 ·by_cases q:uK (dR b.aM w) (J w).Sub.E (J w).Sub.Row.toNat<(dR b.aM w).length
  ·have e:dO b w (J w).Sub=(b,{(J w).Sub with Pc:=2,Row:=(uK (dR b.aM w) (J w).Sub.E (J w).Sub.Row.toNat:Int),B:=0,H:=(P9 (dR b.aM w) (uK (dR b.aM w) (J w).Sub.E (J w).Sub.Row.toNat:Int)).Handle}):=by simp_all[dO]
   obtain⟨g1,g2⟩:=a35 q;refine⟨still (by rw[e]) λ_=>?_,λz=>by grind⟩;rw[sub',e];refine⟨s1,s2,.inr ⟨el,.inr (.inl ⟨rfl,⟨O4 _,by simp⟩,⟨by simp,by grind,rfl⟩,?_⟩)⟩⟩;grind[a1D]
  simp_all[dO,A2,aP]
 ·have hH:(J w).Sub.H≠0:=by have:=(hb.2 _ (hrow ⟨ha.1,ha.2.1⟩)).1.1;rw[ha.2.2] at this;grind[kC]
  have e:dO b w (J w).Sub=(b,{(J w).Sub with Pc:=if(J w).Sub.B=2 then 3 else 2,B:=(J w).Sub.B+1}):=by unfold dO;rw[nC,nC,aL p2,aL ⟨hB2,ha⟩,aP (by rw[bJ5 h.hz hB2];omega)]
  refine⟨still (by rw[e]) λ_=>?_,λz=>by grind⟩;rw[sub',e];refine⟨s1,s2,.inr ⟨el,.inr ?_⟩⟩;by_cases z:(J w).Sub.B=2
  ·exact .inr ⟨aL z,ha,hr⟩
  ·exact .inl ⟨aP z,by grind,ha,hr⟩
 ·have e:dO b w (J w).Sub=({b with Mem:=sA b.Mem w (J w).Sub.H,aM:=b.aM.set w.toNat ⟨(dR b.aM w).eraseIdx (J w).Sub.Row.toNat⟩},{(J w).Sub with Pc:=1,Out:=aY ((J w).Sub.Out+1)}):=by simp_all[dO]
  refine⟨?_,λz=>by grind⟩;have hi:0<=(J w).Sub.Row/\(J w).Sub.Row<(dR b.aM w).length:=⟨ha.1,ha.2.1⟩;have hrm:=hrow hi;generalize hrr:P9 (dR b.aM w) (J w).Sub.Row=r at hrm hr;have eH:r.Handle=(J w).Sub.H:=by rw[<-hrr];exact ha.2.2
  have hv:=(hb.2 r hrm).1;rw[<-eH] at e;have hHd:bD b.aM (r.Handle % 32):=⟨r,hrm,hv.1,rfl⟩;have hil:(J w).Sub.Row.toNat<(dR b.aM w).length:=by omega
  have er:(dR b.aM w)[(J w).Sub.Row.toNat]=r:=by grind[a1D]
  obtain⟨A,B,f1,f2⟩:=aSV hL hw;have hperm:=aR3 hil;rw[er] at hperm;have hpf:(cE b.aM).Perm (r::cE (b.aM.set w.toNat ⟨(dR b.aM w).eraseIdx (J w).Sub.Row.toNat⟩)):=by grind
  have hnd:=(hpf.map pB).nodup_iff.1 hL.2.2.2;rw[OK,aK2] at hnd;have hheld:∀s,s≠r.Handle % 32->(bD (b.aM.set w.toNat ⟨(dR b.aM w).eraseIdx (J w).Sub.Row.toNat⟩) s↔bD b.aM s):=λs hs=>⟨λ⟨x,hx,y⟩=>⟨x,hpf.mem_iff.2 (qJ _ hx),y⟩,λ⟨x,hx,y⟩=>⟨x,(lW.1 (hpf.mem_iff.1 hx)).resolve_left λq=>hs (by grind),y⟩⟩;have kn:=a7G hb.1.1 hw hv;have fst:∀s,s≠r.Handle % 32->dZ (sA b.Mem w r.Handle) s=dZ b.Mem s:=λs hs=>aSR hb.1.1 hw hv hs;have fz:=(aGS hb.1.1 hw hv).2.2.2;have hrip:r.aJ<=(J w).Sub.E-2:=by have:=hr.2;rw[cA (by have:=hr.1;omega) (by have:=hc.1.2;omega)] at this;exact this
  rw[e];show uV Ky {b with Mem:=sA b.Mem w r.Handle,aM:=b.aM.set w.toNat ⟨(dR b.aM w).eraseIdx (J w).Sub.Row.toNat⟩} k c q (zA J w j');generalize hb':({b with Mem:=sA b.Mem w r.Handle,aM:=b.aM.set w.toNat ⟨(dR b.aM w).eraseIdx (J w).Sub.Row.toNat⟩}:aA)=b';have m1:b'.Mem=sA b.Mem w r.Handle:=by rw[<-hb']
  have m2:b'.aM=b.aM.set w.toNat ⟨(dR b.aM w).eraseIdx (J w).Sub.Row.toNat⟩:=by rw[<-hb']
  have m3:b'.aD=b.aD:=by rw[<-hb']
  have m4:b'.lX=b.lX:=by rw[<-hb']
  have oth:Oth b b' k k c c J w j' 0 (r.Handle % 32):=⟨λy hy hz=>by rw[m1];exact⟨(kn y hy hz).1,λ_=>(kn y hy hz).2⟩,.inr (.inl (YY (.inr hHd))),.inl rfl,λ_ _ _=>⟨rfl,rfl⟩,.inr λv hv' hn hp' hpin y hy hs ez=>by
    have:=aDV hy.1 hv ez;have:=hs.1 r hrm this.symm;have:=hE v hv' hp' hpin;omega,λx hx=>.inl (by rw[m2] at hx;exact hpf.mem_iff.2 (qJ _ hx)),by rw[o'.2];simp,λz=>by omega,λ_ _ _ p=>by rw[m3] at p ⊢;exact⟨p,rfl⟩,by rw[m3];exact O4 _,λv hv' hn=>by rw[m2];exact aGU hL.1 hw hv' hn _⟩
  have chs:=λi (hi:W3 i)=>(oth.chn h hw hi (λq=>((h.ch i hi).all 0 q).1.ne rfl)).2 rfl rfl;refine h.make hl hw hc hJ oth m4 (λi hi=>(chs i hi).1) (λi hi=>by rw[(chs i hi).2];exact h.key i hi) (λs=>?_) (λy hy=>by rw[o'.1] at hy;cases hy) (λ_=>tw) (.no (by omega)) ⟨λp=>by omega,λp=>by omega,λq=>?_⟩
  ·have u:=aC5 (J:=J) hw j' s;rw[o.1,o'.1] at u;have u2:=h.cnt s;by_cases q:s=r.Handle % 32
   ·have a1:ind b s=0:=YY (.inr (q ▸ hHd));have a2:ind b' s=0:=YY (.inl (by rw[m1,q];exact fz));omega
   ·have a2:ind b' s=ind b s:=aSW (by rw[m1,fst s q]) (by rw[m2];exact hheld s q);omega
  ·rw[sub',e,m3];exact⟨s1,s2,.inr ⟨el,.inl ⟨rfl,ha.1⟩⟩⟩
end
theorem a7M{l:List aX}{K:Int}(hK:0<=K)(h:K<l.length):eK l (K+1)=eK l K+if(l.getD K.toNat ⟨0,false,0⟩).KR then 0 else 1:=by
 have hi:K.toNat<l.length:=by omega
 unfold eK;rw[show(K+1).toNat=K.toNat+1 by omega,QN hi,List.filter_append,DA,OI,mP hi,Option.getD_some];grind
theorem a1L{l:List aX}{K:Int}(h:l.length<=K):eK l K=eK l l.length:=by grind[eK]
theorem bEV{n:gE}(h:aKN n):W0 n=n.Next:=by
 unfold W0;rcases h.2.2 with e|e
 ·rw[e];split<;>rfl
 ·rw[aL e]
theorem aIZ{j:aI}(h:9<=j.Pc/\j.Pc<=13):own j=j.eO.drop (eK j.aH j.K).toNat++j.bU/\lC j=j.eO.drop (eK j.aH j.K).toNat:=by unfold own lC aGT;grind
theorem ChT.last{m:Mem}{A:List Int}:∀{h:Int} {B:List Int} {x:Int},ChT m x (A++h::B)->(∀a,A.getLast?=some a->(fQ m a).Next=h)/\(A=[]->x=h):=by
 induction A with
 |nil=>exact λh=>⟨λa e=>by simp at e,λ_=>h.1⟩
 |cons a A ih=>
  intro h B x hc;refine⟨λz e=>?_,λe=>by cases e⟩;obtain⟨i1,i2⟩:=ih hc.2.2.2;grind
theorem ChT.cut{m m':Mem}{p:Int}(hp:fQ m' p={fQ m p with Next:=(fQ m (fQ m p).Next).Next})(ok:kS m' p):∀{A:List Int} {h:Int} {B:List Int} {x:Int},ChT m x (A++p::h::B)->(∀y∈A++B,kS m' y/\fQ m' y=fQ m y)->ChT m' x (A++p::B)
 |[],h,B,x,hc,hk=>by
  obtain⟨e1,a1,a2,e2,b1,b2,b3⟩:=hc;refine⟨e1,ok,?_,?_⟩
  ·rw[hp];exact⟨a2.1,a2.2.1,by rw[e2];exact b2.2.2⟩
  ·rw[hp,e2];exact b3.keep λy hy=>hk y (by simp[hy])
 |a::A,h,B,x,hc,hk=>by obtain⟨a1,a2⟩:=hk a (by simp);exact⟨hc.1,a1,by rw[a2];exact hc.2.2.1,by rw[a2];exact hc.2.2.2.cut hp ok λy hy=>hk y (by grind)⟩
section
variable {Ky:List Int} {b:aA} {k:List cQ} {c:Int->List Int} {q:Int->Nat} {J:Int->aI} {w:Int} (h:uV Ky b k c q J) (hl:∀v,j7 v->LkJ k v (J v)) (hw:j7 w) (hb:kD b) (hJ:∀v,j7 v->(J v).cR=true->JB (J v)) (hB:(J w).cR=true)
include h hl hw hb hJ hB
set_option maxHeartbeats 1000000 in
theorem bEW(hk2:k.length=2/\∀x∈k,BkV x)(hp:9<=(J w).Pc/\(J w).Pc<=13):∃c',uV Ky (J1 b k (J w)).1 (J1 b k (J w)).2.1 c' (upQ q w (qF Ky.length (q w) (J w))) (zA J w (J1 b k (J w)).2.2):=by
 have t:=h.tw w hw hB;have hj:=hJ w hw hB;have hc:=hb.1.2.1;have hk:=hj.k;have o:=aIZ hp;have hn7:=t.n7 (by omega);generalize hn:qF Ky.length (q w) (J w)=n;have eqw:upQ q w n w=n:=aL rfl;have hqv:∀v,v≠w->upQ q w n v=q v:=λv hv=>aP hv;generalize upQ q w n=qn at eqw hqv ⊢;subst eqw;have hcd:(J w).Code=0:=by have:=t.cd;omega
 have tw:∀{m':Mem} {k':List cQ} {c':Int->List Int} {j':aI},9<=j'.Pc/\j'.Pc<=14->j'.eO=(J w).eO/\j'.aH=(J w).aH/\j'.Batch=(J w).Batch/\j'.At=(J w).At/\j'.Code=(J w).Code/\j'.bD=(J w).bD->(j'.Pc<=13->(j'.bU.length:Int)<=if j'.Pc<=11 then j'.K else j'.K+1)->(10<=j'.Pc/\j'.Pc<=13->j'.K<j'.aH.length) ->
   (j'.Pc=10\/j'.Pc=11->∃A B,c' (bi j')=A++j'.H::B/\(j'.gN=A.getLastD 0/\∀a∈A,(fQ m' a).Key≠(uL j').Key)/\(j'.Pc=10->B.length<=qn w))->(j'.Pc=11->j'.Node=fQ m' j'.H/\j'.Node.Key=(uL j').Key)->(j'.Pc=12\/j'.Pc=13->(uL j').KR=false/\∀a∈c' (bi j'),(fQ m' a).Key≠(uL j').Key)->(j'.Pc=13->fQ m' (KB j')=⟨(uL j').Key,(uL j').fT,(iK k' (bi j')).Head⟩)->TW Ky m' k' c' (qn w) j':=
  λ{m' k' c' j'} q ⟨e1,e3,e4,e5,e6,e7⟩ q1 q2 q3 q4 q5 q6=>by
  refine⟨by omega,λx=>by omega,λx=>by omega,λx=>by omega,by rw[e3,e5];exact t.wl,λx=>by omega,λx=>⟨by grind,λ_=>q1 x.2⟩,λx=>by omega,λx=>by rw[e3,e7];exact t.l8 (by omega),q2,q3,q4,q5,q6,by omega,λx _=>by rw[e5,e4];exact t.at_ hcd (by omega),λx=>?_,λx=>by omega,by rw[e3,e4];exact t.ky⟩;have:=t.cl (by grind);omega
 have still:∀{j':aI},own j'=own (J w)->lC j'=lC (J w)\/lC j'=[]->9<=j'.Pc/\j'.Pc<=14->TW Ky b.Mem k c (qn w) j'->uV Ky b k c qn (zA J w j'):=λ{j'} e1 e2 q t'=>
  h.aYQ hl hw hc hJ hqv (λ_ _=>rfl) e1 (by grind) (.inl (by omega)) (λ_=>t') (.no (by omega)) (.no (by omega))
 unfold J1;by_cases c1:((J w).aH.length:Int)<=(J w).K
 ·rw[aL c1];grind[aPA,a1L,own,lC,aGT]
 rw[aP c1];have hi:(J w).K.toNat<(J w).aH.length:=by omega
 have er:uL (J w)=(J w).aH[(J w).K.toNat]:=by grind[uL]
 have hxm:uL (J w)∈(J w).aH:=by grind
 have hx:=hj.wr.2.1 _ hxm;have hbk:W3 (pJ (uL (J w)).Key):=by unfold pJ;omega
 have hheld:=t.l8 (by omega) _ hxm;have hlk:(iK k (pJ (uL (J w)).Key)).g9=w+1:=((hl w hw).iff _ hbk).1 hheld;have hch:=h.ch _ hbk;have hkey:=h.key _ hbk;have hol:=hn7.2 (by omega);have hpl:eK (J w).aH ((J w).K+1)=eK (J w).aH (J w).K+if(uL (J w)).KR then 0 else 1:=a7M hk.1 (by omega);have p0:0<=eK (J w).aH (J w).K:=by grind[eK]
 generalize hi':pJ (uL (J w)).Key=i at hbk hheld hlk hch hkey;have ebi:bi (J w)=i:=hi';have place:∀{b':aA} {k':List cQ} {c':Int->List Int} {j1:aI},j1.eO=(J w).eO/\j1.aH=(J w).aH/\j1.Batch=(J w).Batch/\j1.At=(J w).At/\j1.Code=(J w).Code/\j1.bD=(J w).bD/\j1.K=(J w).K->(j1.bU.length:Int)<=(J w).K+1->(∀a∈c' i,(fQ b'.Mem a).Key≠(uL (J w)).Key)->TW Ky b'.Mem k' c' (qn w) (VM j1 (uL (J w)))/\lC (VM j1 (uL (J w)))=lC (J w)/\own (VM j1 (uL (J w)))=lC (J w)++j1.bU/\(9<=(VM j1 (uL (J w))).Pc/\(VM j1 (uL (J w))).Pc<=14):=
  λ{b' k' c' j1} ⟨e1,e3,e4,e5,e6,e7,e8⟩ q1 q2=>by
  have ew:∀{j2:aI},j2.aH=j1.aH->j2.K=j1.K->uL j2=uL (J w):=λa a'=>by grind[uL]
  unfold VM;cases hd:(uL (J w)).KR
  ·rw[eD];have o':=aIZ (j:={j1 with Pc:=12}) (by simp);simp only at o';refine⟨tw (by simp) ⟨e1,e3,e4,e5,e6,e7⟩ (λ_=>by simp;omega) (λ_=>by simp only;rw[e8,e3];omega) (by simp) (by simp) (λ_=>by
    have e2:uL {j1 with Pc:=12}=uL (J w):=ew rfl rfl;have e9:bi {j1 with Pc:=12}=i:=by unfold bi;rw[e2];exact hi'
    rw[e2,e9];exact⟨hd,q2⟩) (by simp),?_,?_,by simp⟩
   ·rw[o'.2,o.2,e1,e3,e8]
   ·rw[o'.1,o.2,e1,e3,e8]
  ·rw[aL rfl];have o':=aIZ (j:={j1 with Pc:=9,K:=j1.K+1}) (by simp);simp only at o';rw[hd,aL rfl,Int.add_zero] at hpl;refine⟨tw (by simp) ⟨e1,e3,e4,e5,e6,e7⟩ (λ_=>by simp;omega) (by simp) (by simp) (by simp) (by simp) (by simp),?_,?_,by simp⟩
   ·rw[o'.2,o.2,e1,e3,e8,hpl]
   ·rw[o'.1,o.2,e1,e3,e8,hpl]
 have UG:own (J w)=lC (J w)++(J w).bU:=by rw[o.1,o.2]
 by_cases p9:(J w).Pc=9
 ·rw[aL p9];rw[aL (by omega)] at hol;refine⟨c,?_⟩;by_cases q:(iK k i).Head=0
  ·rw[aL q];have hnil:c i=[]:=by
    match hci:c i,hch with
    |[],_=>rfl
    |x::r,hch=>exact absurd (hch.1.symm.trans q) hch.2.1.ne
   obtain⟨a1,a2,a3,a4⟩:=place (b':=b) (k':=k) (c':=c) (j1:={J w with Pc:=10,H:=(iK k i).Head,gN:=0}) ⟨rfl,rfl,rfl,rfl,rfl,rfl,rfl⟩ (by simp only;omega) (by rw[hnil];simp);exact still (by rw[a3,UG]) (.inl a2) a4 a1
  ·rw[aP q];have o':=aIZ (j:={J w with Pc:=10,H:=(iK k i).Head,gN:=0}) (by simp);refine still (by rw[o'.1,o.1]) (.inl (by rw[o'.2,o.2])) (by simp) (tw (by simp) ⟨rfl,rfl,rfl,rfl,rfl,rfl⟩ (by simp;omega) (λ_=>by simp only;omega) (λ_=>?_) (by simp) (by simp) (by simp))
   match hci:c i,hch with
   |[],hch=>exact absurd hch q
   |x::r,hch=>
    refine⟨[],r,?_,⟨rfl,by simp⟩,λ_=>?_⟩
    rotate_left
    ·have:=GG hkey.1 λy hy=>(hkey.2 y hy).2;unfold rL at this;rw[hci,List.length_map,OJ] at this;rw[<-hn];unfold qF;rw[aL (.inr p9)];omega
    show c (pJ (uL (J w)).Key)=_;rw[hi',hci,aK0];simp only;rw[hch.1]
 rw[aP p9];by_cases p10:(J w).Pc=10
 ·rw[aL p10];rw[aL (by omega)] at hol;refine⟨c,?_⟩;obtain⟨A,B,e1,⟨e2,e3⟩,e4⟩:=t.st (.inl p10);rw[ebi] at e1;rw[e1] at hch;have hH:=hch.split;have hok:=hH.2.1;rw[a4R hok];by_cases q:(fQ b.Mem (J w).H).Key=(uL (J w)).Key
  ·rw[aL q];have o':=aIZ (j:={J w with Pc:=11,Node:=fQ b.Mem (J w).H}) (by simp);exact still (by rw[o'.1,o.1]) (.inl (by rw[o'.2,o.2])) (by simp) (tw (by simp) ⟨rfl,rfl,rfl,rfl,rfl,rfl⟩ (by simp;omega) (λ_=>by simp only;omega) (λ_=>⟨A,B,(show c (pJ (uL (J w)).Key)=_ by rw[hi'];exact e1),⟨e2,e3⟩,λz=>absurd z (by simp)⟩) (λ_=>⟨rfl,q⟩) (by simp) (by simp))
  ·rw[aP q,bEV hH.2.2.1];by_cases q2:(fQ b.Mem (J w).H).Next=0
   ·rw[aL q2];have hBn:B=[]:=by
     match B,hH.2.2.2 with
     |[],_=>rfl
     |x::r,hq=>exact absurd (hq.1.symm.trans q2) hq.2.1.ne
    obtain⟨a1,a2,a3,a4⟩:=place (b':=b) (k':=k) (c':=c) (j1:={J w with Node:=fQ b.Mem (J w).H}) ⟨rfl,rfl,rfl,rfl,rfl,rfl,rfl⟩ (by simp only;omega) (by
     rw[e1,hBn];intro a ha;rcases eS.1 ha with ha|ha
     ·exact e3 a ha
     ·rw[KD.1 ha];exact q)
    exact still (by rw[a3,UG]) (.inl a2) a4 a1
   ·rw[aP q2];have o':=aIZ (j:={J w with H:=(fQ b.Mem (J w).H).Next,gN:=(J w).H,Node:=fQ b.Mem (J w).H}) hp;refine still (by rw[o'.1,o.1]) (.inl (by rw[o'.2,o.2])) (by simp only;omega) (tw (by simp only;omega) ⟨rfl,rfl,rfl,rfl,rfl,rfl⟩ (λ_=>by simp only;rw[aL (by omega)];exact hol) (λ_=>by simp only;omega) (λ_=>?_) (by simp[p10]) (by simp[p10]) (by simp[p10]))
    match B,hH.2.2.2,e1 with
    |[],hq,_=>exact absurd hq q2
    |x::r,hq,e1=>
     refine⟨A++[(J w).H],r,?_,⟨by simp,λa ha=>?_⟩,λ_=>?_⟩
     rotate_left 2
     ·have:=e4 p10;rw[OJ] at this;rw[<-hn];unfold qF;rw[nC,aL (.inr p10)];omega
     ·show c (pJ (uL (J w)).Key)=_;rw[hi',e1];simp only;rw[hq.1];simp
     ·rcases eS.1 ha with ha|ha
      ·exact e3 a ha
      ·rw[KD.1 ha];exact q
 rw[aP p10];have heads:∀(x:Int) (i':Int),W3 i'->(iK (k.set i.toNat {iK k i with Head:=x}) i').Head=if i'=i then x else(iK k i').Head:=λx i' hi''=>by rw[UC hk2.1 hbk hi''];split<;>rfl
 have hno:∀{i':Int},W3 i'->(iK k i').g9≠w+1->i'≠i:=λ_ q e=>q (e ▸ hlk);have ind0:∀{b':aA},(∀s,dZ b'.Mem s=dZ b.Mem s)->b'.aM=b.aM->∀s,ind b' s=ind b s:=λe1 e2 s=>aSW (by rw[e1]) (by rw[e2]);by_cases p11:(J w).Pc=11
 ·rw[aL p11];rw[aL (by omega)] at hol;obtain⟨A,B,e1,⟨e2,e3⟩,_⟩:=t.st (.inr p11);rw[ebi] at e1;rw[e1] at hch hkey;have hH:=hch.split;have hok:=hH.2.1;obtain⟨n1,n2⟩:=t.cu p11;rw[n1,bEV hH.2.2.1];have hnd:=hkey.1;unfold rL at hnd;rw[qI,OK,aK1,aK2] at hnd;have hAB:∀a∈A++B,(fQ b.Mem a).Key≠(uL (J w)).Key:=λa ha q=>by
   rcases eS.1 ha with ha|ha
   ·exact e3 a ha q
   ·rw[<-n2,n1] at q;exact hnd.2.1.1 (VN.2 ⟨a,ha,q⟩)
  have hold:YT (J w)={J w with bU:=(J w).bU++[(J w).H]}:=by unfold YT;rw[aL ⟨hok.1.1,by have:=hj.wr.1;omega⟩]
  rw[hold];have hcl:csL (c i)=λs=>csL (A++B) s+if(J w).H % 32=s then 1 else 0:=by funext s;rw[e1,YX,UD,YX];omega
  have cntx:∀{j':aI},own j'=lC (J w)++((J w).bU++[(J w).H])->∀s,cnC (upC c i (A++B)) s+cnO (zA J w j') s=ind b s:=λ{j'} e s=>by have u1:=bEJ (c:=c) hbk (A++B) s;have u2:=aC5 (J:=J) hw j' s;rw[e,UG,YX,YX,YX,UD,bEI] at u2;rw[hcl] at u1;have:=h.cnt s;simp only at u1;omega
  have okx:∀{j':aI} {b':aA},own j'=lC (J w)++((J w).bU++[(J w).H])->(∀x,kS b.Mem x->kS b'.Mem x)->∀x∈own j',kS b'.Mem x:=λ{j' b'} e q x hx=>by
   rw[e] at hx;refine q x ?_;rcases eS.1 hx with hx|hx
   ·exact h.ok w hw x (SG h hw hx)
   ·rcases eS.1 hx with hx|hx
    ·exact h.ok w hw x (by rw[UG];exact aPC _ hx)
    ·rw[KD.1 hx];exact hok
  by_cases q:(J w).gN=0
  ·rw[aL q];have hA:A=[]:=by
    rcases aGX A with rfl|⟨L,z,rfl⟩
    ·rfl
    ·rw[aUV] at e1 e2 hch;rw[q] at e2;simp at e2;exact absurd e2.symm ((hch.all z (by simp)).1.ne)
   subst hA;simp only[aK0] at *;obtain⟨a1,a2,a3,a4⟩:=place (b':=b) (k':=k.set i.toNat {iK k i with Head:=(fQ b.Mem (J w).H).Next}) (c':=upC c i B) (j1:={J w with bU:=(J w).bU++[(J w).H]}) ⟨rfl,rfl,rfl,rfl,rfl,rfl,rfl⟩ (by simp;omega) (by rw[NH];exact hAB);refine⟨upC c i B,h.aV5 hl hw hqv hc hJ (y:=0) (z:=-1) ⟨λx hx _=>⟨hx,λ_=>rfl⟩,.inl rfl,.inl rfl,λi' hi'' hq=>⟨by rw[heads _ _ hi'',aP (hno hi'' hq)],YW _ _ (hno hi'' hq)⟩,.inl rfl,λr hr=>.inl hr,λx hx=>.inl (by rw[a2] at hx;exact hx),λz=>absurd a4.2 (by rw[show(VM _ _).Pc=15 from z];decide),λ_ _ _ p=>⟨p,rfl⟩,O4 _,λ_ _ _=>rfl⟩ rfl (λi' hi''=>?_) (λi' hi''=>?_) (cntx a3) (okx a3 λ_ x=>x) (λ_=>a1) (.no ⟨λz=>absurd a4.1 (by rw[show(VM _ _).Pc=3 from z];decide),λz=>absurd a4.1 (by rw[show(VM _ _).Pc=4 from z];decide)⟩) (.no ⟨λz=>absurd a4.1 (by rw[show(VM _ _).Pc=6 from z];decide),λz=>absurd a4.2 (by rw[show(VM _ _).Pc=15 from z];decide),λz=>absurd a4.2 (by rw[show(VM _ _).Pc=21 from z];decide)⟩)⟩
   ·rw[heads _ _ hi''];by_cases z:i'=i
    ·rw[aL z,z,NH];exact hH.2.2.2
    ·rw[aP z,YW _ _ z];exact h.ch i' hi''
   ·by_cases z:i'=i
    ·rw[z,NH];exact⟨hnd.2.1.2,λx hx=>hkey.2 x (by unfold rL at hx ⊢;rw[OK];exact qJ _ hx)⟩
    ·rw[YW _ _ z];exact h.key i' hi''
  ·rw[aP q];obtain⟨A',rfl⟩:∃A',A=A'++[(J w).gN]:=by
    rcases aGX A with rfl|⟨L,z,rfl⟩
    ·exact absurd e2 q
    ·rw[aUV] at e2 ⊢;exact⟨L,by rw[e2];simp⟩
   rw[pK,List.singleton_append] at e1 hch;have hpm:(J w).gN∈c i:=by rw[e1];simp
   have hpo:=hch.all (J w).gN (by simp);have hnx:(fQ b.Mem (J w).gN).Next=(J w).H:=by have:=(ChT.last (A:=A'++[(J w).gN]) (h:=(J w).H) (B:=B) (by rw[pK,List.singleton_append];exact hch)).1 (J w).gN (by simp);exact this
   obtain⟨g1,g2,g3,g4⟩:=bIF hb.1.1 hpo.1 hH.2.2.1.2.2;generalize hm':Gv.aLM b.Mem (J w).gN (fQ b.Mem (J w).H).Next=m' at g1 g2 g3 g4;have g2':fQ m' (J w).gN={fQ b.Mem (J w).gN with Next:=(fQ b.Mem (fQ b.Mem (J w).gN).Next).Next}:=by rw[hnx];exact g2
   have gk:∀x,kS b.Mem x->kS m' x/\(x≠(J w).gN->fQ m' x=fQ b.Mem x):=λx hx=>by
    by_cases z:x % 32=(J w).gN % 32
    ·have:=aDV hx.1 hpo.1.1 z;subst this;exact⟨g1,λz=>absurd rfl z⟩
    ·exact⟨(g3 x hx z).1,λ_=>(g3 x hx z).2⟩
   have gkey:∀x,kS b.Mem x->(fQ m' x).Key=(fQ b.Mem x).Key:=λx hx=>by
    by_cases z:x=(J w).gN
    ·rw[z,g2']
    ·rw[(gk x hx).2 z]
   have hall:∀a∈A'++[(J w).gN]++B,kS b.Mem a:=λa ha=>(hch.all a (by simp only[eS,lW,KD,aY6,or_false] at ha ⊢;grind)).1;obtain⟨a1,a2,a3,a4⟩:=place (b':={b with Mem:=m'}) (k':=k) (c':=upC c i (A'++[(J w).gN]++B)) (j1:={J w with bU:=(J w).bU++[(J w).H]}) ⟨rfl,rfl,rfl,rfl,rfl,rfl,rfl⟩ (by simp;omega) (by
    rw[NH];exact λa ha=>by rw[gkey a (hall a ha)];exact hAB a ha)
   have oth:Oth b {b with Mem:=m'} k k c (upC c i (A'++[(J w).gN]++B)) J w (VM {J w with bU:=(J w).bU++[(J w).H]} (uL (J w))) (J w).gN (-1):=
    ⟨λx hx _=>gk x hx,.inl rfl,.inr (.inr ⟨⟨i,hbk,hlk,hpm⟩,g2',by rw[hnx];exact hok.ne⟩),λi' hi'' hq=>⟨rfl,YW _ _ (hno hi'' hq)⟩,.inl rfl,λr hr=>.inl hr,λx hx=>.inl (by rw[a2] at hx;exact hx),λz=>absurd a4.2 (by rw[show(VM _ _).Pc=15 from z];decide),λ_ _ _ p=>⟨p,rfl⟩,O4 _,λ_ _ _=>rfl⟩
   have hnd2:=hkey.1;refine⟨_,h.aV5 hl hw hqv hc hJ oth rfl (λi' hi''=>?_) (λi' hi''=>?_) (λs=>by rw[cntx a3 s];exact(ind0 (b':={b with Mem:=m'}) g4 rfl s).symm) (okx a3 λx hx=>(gk x hx).1) (λ_=>a1) (.no ⟨λz=>absurd a4.1 (by rw[show(VM _ _).Pc=3 from z];decide),λz=>absurd a4.1 (by rw[show(VM _ _).Pc=4 from z];decide)⟩) (.no ⟨λz=>absurd a4.1 (by rw[show(VM _ _).Pc=6 from z];decide),λz=>absurd a4.2 (by rw[show(VM _ _).Pc=15 from z];decide),λz=>absurd a4.2 (by rw[show(VM _ _).Pc=21 from z];decide)⟩)⟩
   ·by_cases z:i'=i
    ·rw[z,NH,pK,List.singleton_append];have hdis:∀y∈A'++B,y≠(J w).gN:=λy hy e=>by
      have hn:=hnd2;unfold rL at hn;rw[pK,qI,qI,OK,OK,aK1] at hn;rcases eS.1 hy with hy|hy
      ·exact hn.2.2 _ (VN.2 ⟨y,hy,rfl⟩) _ (by rw[e];simp) rfl
      ·exact(aK2.1 hn.2.1).1 (by rw[<-e];exact qJ _ (VN.2 ⟨y,hy,rfl⟩))
     exact hch.cut g2' g1 λy hy=>by obtain⟨x1,x2⟩:=gk y (hall y (by simp only[eS,KD] at hy ⊢;grind));exact⟨x1,x2 (hdis y hy)⟩
    ·have hy:(J w).gN∉c i':=λhy=>by have u1:=aYP c hi'' hbk z ((J w).gN % 32);have u2:=OF hy;have u3:=OF hpm;have u4:=h.cnt ((J w).gN % 32);have u5:=aKU b ((J w).gN % 32);omega
     exact((oth.chn h hw hi'' hy).2 rfl (YW _ _ z)).1
   ·by_cases z:i'=i
    ·rw[z,NH];have ek:rL m' (A'++[(J w).gN]++B)=rL b.Mem (A'++[(J w).gN]++B):=aKT λa ha=>gkey a (hall a ha);show(rL m' _).Nodup/\∀x∈rL m' _,_;rw[ek];have hsub:(rL b.Mem (A'++[(J w).gN]++B)).Sublist (rL b.Mem (A'++[(J w).gN]++(J w).H::B)):=by unfold rL;exact List.Sublist.map _ (List.Sublist.append_left (List.sublist_cons_self ..) _)
     exact⟨hnd2.sublist hsub,λx hx=>hkey.2 x (hsub.subset hx)⟩
    ·have hy:(J w).gN∉c i':=λhy=>by have u1:=aYP c hi'' hbk z ((J w).gN % 32);have u2:=OF hy;have u3:=OF hpm;have u4:=h.cnt ((J w).gN % 32);have u5:=aKU b ((J w).gN % 32);omega
     rw[((oth.chn h hw hi'' hy).2 rfl (YW _ _ z)).2];exact h.key i' hi''
 rw[aP p11];have hp2:(J w).Pc=12\/(J w).Pc=13:=by omega
 obtain⟨fd,fk⟩:=t.fl hp2;rw[ebi] at fk;obtain⟨nm,r,en,enr⟩:=aSU h hw t hj hp2;have hnw:=h.ok w hw _ (SG h hw nm);have hname:=h.name hw hw (SG h hw nm);have hnc:∀i',W3 i'->KB (J w)∉c i':=λi' hi'' hm=>by have u1:=h.link hw hi'' hm;omega
 have hlen:¬((J w).eO.length:Int)<=eK (J w).aH (J w).K:=λz=>by have:(J w).eO.drop (eK (J w).aH (J w).K).toNat=[]:=aPA (by omega);rw[o.2,this] at nm;cases nm
 rw[aP hlen];have hbv:=hk2.2 _ (a62 hk2.1 hbk);by_cases p12:(J w).Pc=12
 ·rw[aL p12];rw[nC] at hol;obtain⟨g1,g2,g3,g4⟩:=bMM hb.1.1 hnw (n:=⟨(uL (J w)).Key,(uL (J w)).fT,(iK k i).Head⟩) ⟨hx.1,hx.2,hbv.1⟩;show ∃c',uV Ky {b with Mem:=aIU b.Mem (KB (J w)) ⟨(uL (J w)).Key,(uL (J w)).fT,(iK k i).Head⟩} k c' qn (zA J w {J w with Pc:=13});generalize aIU b.Mem (KB (J w)) ⟨(uL (J w)).Key,(uL (J w)).fT,(iK k i).Head⟩=m' at g1 g2 g3 g4;have gk:∀x,kS b.Mem x->kS m' x/\(x≠KB (J w)->fQ m' x=fQ b.Mem x):=λx hx=>by
   by_cases z:x % 32=KB (J w) % 32
   ·have:=aDV hx.1 hnw.1 z;subst this;exact⟨g1,λz=>absurd rfl z⟩
   ·exact⟨(g3 x hx z).1,λ_=>(g3 x hx z).2⟩
  have o':own {J w with Pc:=13}=own (J w)/\lC {J w with Pc:=13}=lC (J w):=by rw[o.1,o.2];exact aIZ (j:={J w with Pc:=13}) (by simp)
  have oth:Oth b {b with Mem:=m'} k k c c J w {J w with Pc:=13} (KB (J w)) (-1):=
   ⟨λx hx _=>gk x hx,.inl rfl,.inr (.inl nm),λ_ _ _=>⟨rfl,rfl⟩,.inl rfl,λr hr=>.inl hr,λx hx=>.inl (by rw[o'.2] at hx;exact hx),λz=>absurd z (by simp),λ_ _ _ p=>⟨p,rfl⟩,O4 _,λ_ _ _=>rfl⟩
  have chs:=λi' (hi'':W3 i')=>oth.chn h hw hi'' (hnc i' hi'');refine⟨c,h.aV5 hl hw hqv hc hJ oth rfl (λi' hi''=>((chs i' hi'').2 rfl rfl).1) (λi' hi''=>by rw[((chs i' hi'').2 rfl rfl).2];exact h.key i' hi'') (λs=>?_) (λx hx=>(gk x (h.ok w hw x (by rw[o'.1] at hx;exact hx))).1) (λ_=>tw (by simp) ⟨rfl,rfl,rfl,rfl,rfl,rfl⟩ (λ_=>by simp;omega) (λ_=>by simp only;omega) (by simp) (by simp) (λ_=>⟨fd,λa ha=>?_⟩) (λ_=>?_)) (.no (by simp)) (.no (by simp))⟩
  ·have u:=aC5 (J:=J) hw {J w with Pc:=13} s;rw[o'.1] at u;have u2:=h.cnt s;rw[ind0 (b':={b with Mem:=m'}) g4 rfl s];omega
  ·have ha':a∈c i:=by rw[show bi {J w with Pc:=13}=i from hi'] at ha;exact ha
   show(fQ m' a).Key≠_;rw[((chs i hbk).1 a ha').2];exact fk a ha'
  ·show fQ m' (KB (J w))=⟨_,_,(iK k (pJ (uL (J w)).Key)).Head⟩;rw[hi'];exact g2
 ·rw[aP p12];have p13:(J w).Pc=13:=by omega
  rw[nC] at hol;have ln:=t.ln p13;rw[ebi] at ln;rw[fd] at hpl;simp only[bN,bL] at hpl;show ∃c',uV Ky b (k.set i.toNat {iK k i with Head:=KB (J w)}) c' qn (zA J w {J w with Pc:=9,K:=(J w).K+1});have o':=aIZ (j:={J w with Pc:=9,K:=(J w).K+1}) (by simp);have er':(J w).eO.drop (eK (J w).aH ((J w).K+1)).toNat=r:=by rw[<-enr,hpl];congr 1
  simp only[er'] at o';have e0:lC (J w)=KB (J w)::r:=en;have oth:Oth b b k (k.set i.toNat {iK k i with Head:=KB (J w)}) c (upC c i (KB (J w)::c i)) J w {J w with Pc:=9,K:=(J w).K+1} 0 (-1):=
   ⟨λx hx _=>⟨hx,λ_=>rfl⟩,.inl rfl,.inl rfl,λi' hi'' hq=>⟨by rw[heads _ _ hi'',aP (hno hi'' hq)],YW _ _ (hno hi'' hq)⟩,.inl rfl,λr hr=>.inl hr,λx hx=>.inl (by rw[o'.2] at hx;rw[e0];exact qJ _ hx),λz=>absurd z (by simp),λ_ _ _ p=>⟨p,rfl⟩,O4 _,λ_ _ _=>rfl⟩
  refine⟨upC c i (KB (J w)::c i),h.aV5 hl hw hqv hc hJ oth rfl (λi' hi''=>?_) (λi' hi''=>?_) (λs=>?_) (λx hx=>h.ok w hw x ?_) (λ_=>tw (by simp) ⟨rfl,rfl,rfl,rfl,rfl,rfl⟩ (λ_=>by simp;omega) (by simp) (by simp) (by simp) (by simp) (by simp)) (.no (by simp)) (.no (by simp))⟩
  ·rw[heads _ _ hi''];by_cases z:i'=i
   ·rw[aL z,z,NH];exact⟨rfl,hnw,by rw[ln];exact⟨hx.1,hx.2,hbv.1⟩,by rw[ln];exact hch⟩
   ·rw[aP z,YW _ _ z];exact h.ch i' hi''
  ·by_cases z:i'=i
   ·rw[z,NH];have ek:rL b.Mem (KB (J w)::c i)=(uL (J w)).Key::rL b.Mem (c i):=by show(fQ b.Mem (KB (J w))).Key::_=_;rw[ln];rfl
    rw[ek];refine⟨aK2.2 ⟨λhm=>?_,hkey.1⟩,λx hx=>?_⟩
    ·obtain⟨a,ha,e⟩:=VN.1 hm;exact fk a ha e
    ·rcases lW.1 hx with rfl|hx
     ·exact⟨hi',t.ky.1 _ hxm⟩
     ·exact hkey.2 x hx
   ·rw[YW _ _ z];exact h.key i' hi''
  ·have u1:=bEJ (c:=c) hbk (KB (J w)::c i) s;have u2:=aC5 (J:=J) hw {J w with Pc:=9,K:=(J w).K+1} s;rw[o'.1,UG,e0,YX,YX,UD] at u2;rw[UD] at u1;have:=h.cnt s;omega
  ·rw[UG,e0];rw[o'.1] at hx;simp only[eS,lW] at hx ⊢;exact hx.imp .inr id
end
def sjT(j:aI):Job:=⟨j.cR,⟨if j.Pc=0 then 5 else if j.Pc=20\/j.Pc=21 then 4 else 3,0,0,0⟩,0,if j.Pc=21 then 1 else 0,j.Sub,0,0,0,0⟩
def EpT(c:aD)(J:Int->aI):Prop:=Ep c λv=>sjT (J v)
theorem a1N(J:Int->aI)(w:Int)(j:aI):(λv=>sjT (zA J w j v))=upJ (λv=>sjT (J v)) w (sjT j):=by grind[zA,upJ]
theorem a7N{j:aI}(h:j=cO\/j.Pc≠0/\j.Pc≠20/\(j.Pc=21->j.Sub.Kind=4)):Calm (sjT j):=by
 rcases h with rfl|⟨h1,h2,h3⟩
 ·exact⟨λq=>(by cases q.1),λq=>(by cases q.1),λq=>absurd q (by decide),λq=>absurd q (by decide)⟩
 ·unfold Calm rJ Adv sjT;grind
theorem aSY{j:aI}(hb:j.cR=true)(h:j.Pc=0):rJ (sjT j):=⟨hb,by simp[sjT,h],by simp[sjT,h]⟩
theorem bEX{j:aI}(hb:j.cR=true)(h:j.Pc=20):Adv (sjT j):=⟨hb,by simp[sjT,h],by simp[sjT,h]⟩
theorem aI0{j:aI}(h:j=cO\/j.Pc≠0):¬rJ (sjT j):=λq=>by
 rcases h with rfl|h
 ·cases q.1
 ·have:=q.2.1;unfold sjT at this;grind
theorem bEY{b:aA}{k:List cQ}{w:Int}{j:aI}(h:1<=j.Pc/\j.Pc<=19):(OE b k w j).j=cO\/1<=(OE b k w j).j.Pc/\(OE b k w j).j.Pc<=19:=by
 have keep:∀{j':aI},(j'.Pc=j.Pc\/1<=j'.Pc/\j'.Pc<=19)->j'=cO\/1<=j'.Pc/\j'.Pc<=19:=λq=>.inr (by omega);unfold OE;rw[nC];refine eE (P:=λr=>r.j=cO\/1<=r.j.Pc/\r.j.Pc<=19) (λp=>keep (by grind[aCZ,C7,J6,OD,aSB,aIV])) λ_=>eE (P:=λr=>r.j=cO\/1<=r.j.Pc/\r.j.Pc<=19) (λp=>keep (by grind[O3,C7,J6,OD,aSB,aIV])) λ_=>
  eE (P:=λr=>r.j=cO\/1<=r.j.Pc/\r.j.Pc<=19) (λp=>keep (by grind[NG,J6])) λ_=>eE (P:=λr=>r.j=cO\/1<=r.j.Pc/\r.j.Pc<=19) (λp=>keep (by grind[VG,VF,J6])) λ_=>
  eE (P:=λr=>r.j=cO\/1<=r.j.Pc/\r.j.Pc<=19) (λp=>keep (by grind[aEK,J6])) λ_=>eE (P:=λr=>r.j=cO\/1<=r.j.Pc/\r.j.Pc<=19) (λp=>keep (by grind[J1,VM,J6])) λ_=>
  eE (P:=λr=>r.j=cO\/1<=r.j.Pc/\r.j.Pc<=19) (λp=>keep (by grind[VH,YU])) λ_=>eE (P:=λr=>r.j=cO\/1<=r.j.Pc/\r.j.Pc<=19) (λp=>keep (by grind[SC,YU])) λ_=>
  eE (P:=λr=>r.j=cO\/1<=r.j.Pc/\r.j.Pc<=19) (λp=>keep (by grind[QC])) λ_=>eE (P:=λr=>r.j=cO\/1<=r.j.Pc/\r.j.Pc<=19) (λp=>.inr (by simp)) λ_=>eE (P:=λr=>r.j=cO\/1<=r.j.Pc/\r.j.Pc<=19) (λp=>.inl rfl) λ_=>.inr (by simp[J6])
section
variable {b:aA} {k:List cQ} {J:Int->aI} {w:Int} (hw:j7 w) (hc:NJ b.aD) (h:EpT b.aD J) (hB:(J w).cR=true)
include hw hc h hB
theorem a1O{cl:aD}(e:cl=b.aD)(hp:(J w).Pc≠0){j':aI}(hj:j'=cO\/j'.Pc≠0/\j'.Pc≠20/\(j'.Pc=21->j'.Sub.Kind=4)):EpT cl (zA J w j'):=by unfold EpT;rw[a1N,e];exact h.still hw (aI0 (.inr hp)) (a7N hj)
theorem aYR:((J w).Pc=0->(J w).Sub.Kind=5/\(J w).Sub.iB=false/\((J w).Sub.Pc=0\/(J w).Sub.Pc=1/\(0<=(J w).Sub.E/\(J w).Sub.E<=b.aD.aJ)\/(J w).Sub.Pc=2/\(dB b.aD w).aJ=(J w).Sub.E)) /\
  ((J w).Pc=20->(J w).Sub.Kind=3/\(J w).Sub.iB=false/\((J w).Sub.Pc=0\/(J w).Sub.E<=b.aD.aJ/\((J w).Sub.Pc=1/\(0<=(J w).Sub.B/\(J w).Sub.B<=2)\/(J w).Sub.Pc=2/\(J w).Sub.B=3))):=by
 obtain⟨_,_,a,p⟩:=h.1 w hw hB;exact⟨λq=>p (aSY hB q),λq=>a (bEX hB q)⟩
theorem bO2(hk6:(J w).Pc=6\/(J w).Pc=15/\(J w).K<(J w).bU.length->(J w).Sub.Kind=1\/(J w).Sub.Kind=2)(hk21:(J w).Pc=21->(J w).Sub.Kind=4)(hpc:0<=(J w).Pc/\(J w).Pc<=21):EpT (OE b k w (J w)).b.aD (zA J w (OE b k w (J w)).j):=by
 obtain⟨s0,s20⟩:=aYR hw hc h hB;by_cases p0:(J w).Pc=0
 ·obtain⟨k5,d,_⟩:=s0 p0;have es:jG b w (J w).Sub=B9 b w (J w).Sub:=by grind[jG]
  have e:OE b k w (J w)=⟨(B9 b w (J w).Sub).1,k,if(B9 b w (J w).Sub).2.iB then {J w with Pc:=1,Sub:=(B9 b w (J w).Sub).2} else {J w with Sub:=(B9 b w (J w).Sub).2},[]⟩:=by unfold OE;rw[aL (.inl p0)];grind[C8]
  rw[e];unfold EpT;rw[a1N];have:=h.pin hw (b:=b) rfl hc rfl (aSY hB p0) (fin:=sjT {J w with Pc:=1,Sub:=(B9 b w (J w).Sub).2}) (a7N (.inr (by simp)));rw[show(sjT (J w)).Sub=(J w).Sub from rfl] at this;cases hd:(B9 b w (J w).Sub).2.iB
  ·rw[hd,eD] at this;rw[eD];exact this
  grind
 by_cases p20:(J w).Pc=20
 ·obtain⟨k3,d,_⟩:=s20 p20;have es:jG b w (J w).Sub=fM b (J w).Sub:=by grind[jG]
  have e:OE b k w (J w)=⟨(fM b (J w).Sub).1,k,if(fM b (J w).Sub).2.iB then {J w with Pc:=21,Sub:=C5 4 0} else {J w with Sub:=(fM b (J w).Sub).2},[]⟩:=by unfold OE;rw[aL (.inr (.inl p20))];grind[C8]
  rw[e];unfold EpT;rw[a1N];have:=h.advance hw (b:=b) rfl hc rfl (bEX hB p20) (fin:=sjT {J w with Pc:=21,Sub:=C5 4 0}) (a7N (.inr (by simp[C5])));rw[show(sjT (J w)).Sub=(J w).Sub from rfl] at this;cases hd:(fM b (J w).Sub).2.iB
  ·rw[hd,eD] at this;rw[eD];exact this
  grind
 by_cases p21:(J w).Pc=21
 ·have hcl:=SB (b:=b) (w:=w) (s:=(J w).Sub) (by omega);have e:OE b k w (J w)=⟨(C8 b w (J w)).1,k,(C8 b w (J w)).2,[]⟩:=by simp_all[OE]
  grind[a1O,a9A,C8]
 by_cases p18:(J w).Pc=18
 ·have e:OE b k w (J w)=⟨{b with aD:=(OC b.aD w).1},k,{J w with Pc:=19},[]⟩:=by unfold OE;simp[p18]
  rw[e];unfold EpT;rw[a1N];exact h.bOZ hw hc (aI0 (.inr p0)) (a7N (.inr (by simp)))
 have hcl:(OE b k w (J w)).b.aD=b.aD:=by
  unfold OE;rw[nC];refine eE (P:=λr=>r.b.aD=b.aD) (λp=>rfl) λ_=>eE (P:=λr=>r.b.aD=b.aD) (λp=>rfl) λ_=>eE (P:=λr=>r.b.aD=b.aD) (λp=>?_) λ_=>eE (P:=λr=>r.b.aD=b.aD) (λp=>rfl) λ_=>eE (P:=λr=>r.b.aD=b.aD) (λp=>rfl) λ_=>
   eE (P:=λr=>r.b.aD=b.aD) (λp=>by grind[J1]) λ_=>eE (P:=λr=>r.b.aD=b.aD) (λp=>rfl) λ_=>eE (P:=λr=>r.b.aD=b.aD) (λp=>?_) λ_=>eE (P:=λr=>r.b.aD=b.aD) (λp=>by grind[QC]) λ_=>eE (P:=λr=>r.b.aD=b.aD) (λp=>absurd p p18) λ_=>eE (P:=λr=>r.b.aD=b.aD) (λp=>rfl) λ_=>rfl
  ·have:=SB (b:=b) (w:=w) (s:=(J w).Sub) (by have:=hk6 (.inl p);omega);unfold NG;grind
  ·unfold SC;split
   ·rfl
   ·exact SB (by have:=hk6 (.inr ⟨p,by omega⟩);omega)
 grind[a1O,bEY]
end
theorem bEZ{c:aD}{J:Int->aI}{w:Int}(hw:j7 w)(h:EpT c J)(hn:J w=cO)(x:Batch)(s:Int):EpT c (zA J w (m0 x s)):=by
 unfold EpT;rw[a1N];have e:sjT (m0 x s)=⟨true,⟨if x.Collect then 4 else 5,0,0,0⟩,0,0,if x.Collect then C5 3 0 else C5 5 0,0,0,0,0⟩:=by grind[sjT,m0]
 refine h.step hw rfl (λ_ _ _=>rfl) ?_ (λ_ o1 o2=>?_) (λ_=>.inl ?_)
 ·rw[e];intro _;grind[Adv,rJ,C5]
 ·obtain⟨a1,a2⟩:=h.2 w hw (aI0 (.inl hn)) o1 o2;grind
 ·rw[e];cases x.Collect<;>rfl
theorem uV.congr{Ky:List Int}{b:aA}{k:List cQ}{c:Int->List Int}{q:Int->Nat}{J J':Int->aI}(h:uV Ky b k c q J)(e:∀v,j7 v->J' v=J v):uV Ky b k c q J':=by have e0:=e 0 (by simp[j7]);have e1:=e 1 (by simp[j7]);have e2:=e 2 (by simp[j7]);refine⟨h.hz,h.ch,h.key,λs=>by unfold cnO;rw[e0,e1,e2];exact h.cnt s,λv hv=>by rw[e v hv];exact h.ok v hv,λv hv=>by rw[e v hv];exact h.tw v hv,λv hv=>?_,λv hv=>by rw[e v hv];exact h.sb v hv⟩;rw[e v hv];intro p q;obtain⟨r,⟨a,la⟩,z⟩:=h.rd v hv p q;exact⟨r,⟨⟨a.rp,a.nd,a.ky,λx hx=>⟨(a.sf x hx).1,λu hu=>by rw[e u hu];exact(a.sf x hx).2 u hu⟩⟩,la⟩,z⟩
section
variable {Ky:List Int} {b:aA} {k:List cQ} {c:Int->List Int} {q:Int->Nat} {J:Int->aI} {w:Int} (h:uV Ky b k c q J) (hl:∀v,j7 v->LkJ k v (J v)) (hw:j7 w) (hb:kD b) (hk:k.length=2/\∀x∈k,BkV x) (hJ:∀v,j7 v->(J v).cR=true->JB (J v)) (hB:(J w).cR=true) (hep:EpT b.aD J)
include h hl hw hb hk hJ hB hep
theorem bMQ(hp:(J w).Pc=0\/(J w).Pc=20\/(J w).Pc=21):uV Ky (C8 b w (J w)).1 k c q (zA J w (C8 b w (J w)).2):=by
 have hc:=hb.1.2.1;obtain⟨s0,s20⟩:=aYR hw hc hep hB;rcases hp with p|p|p
 ·obtain⟨k5,d,_⟩:=s0 p;have es:jG b w (J w).Sub=B9 b w (J w).Sub:=by grind[jG]
  unfold C8;rw[es,aL p];by_cases z:(B9 b w (J w).Sub).2.iB=false
  ·rw[aL z];grind[bER]
  ·rw[aP z];grind[bER]
 ·obtain⟨k3,d,_⟩:=s20 p;have es:jG b w (J w).Sub=fM b (J w).Sub:=by grind[jG]
  unfold C8;rw[es,aP (show ¬(J w).Pc=0 by omega),aL p];by_cases z:(fM b (J w).Sub).2.iB=false
  ·rw[aL z];grind[bES]
  ·rw[aP z];grind[bES]
 ·obtain⟨k4,d,_⟩:=(h.sb w hw).col p;have es:jG b w (J w).Sub=dO b w (J w).Sub:=by simp_all[jG]
  have hE:∀v,j7 v->(J v).Pc=3\/(J v).Pc=4->lG b.aD v->b.aD.aJ<=(dB b.aD v).aJ+1:=λv hv q hp=>(hep.2 v hv (aI0 (.inr (by omega))) hp.1 hp.2).1;unfold C8;rw[es,aP (show ¬(J w).Pc=0 by omega),aP (show ¬(J w).Pc=20 by omega)];by_cases z:(dO b w (J w).Sub).2.iB=false
  ·rw[aL z];exact(aSX h hl hw hb hJ hB hE p (.inr ⟨z,rfl⟩)).1
  ·rw[aP z];exact(aSX h hl hw hb hJ hB hE p (.inl ⟨by grind,rfl⟩)).1
theorem bO3:∃c',uV Ky (OE b k w (J w)).b (OE b k w (J w)).k c' (upQ q w (qF Ky.length (q w) (J w))) (zA J w (OE b k w (J w)).j):=by
 have hc:=hb.1.2.1;have hpc:=(h.tw w hw hB).pc;have sm:((J w).Pc≠2/\(J w).Pc≠4/\(J w).Pc≠9/\(J w).Pc≠10)->∀{b':aA} {k':List cQ} {j':aI},uV Ky b' k' c q (zA J w j')->∃c',uV Ky b' k' c' (upQ q w (qF Ky.length (q w) (J w))) (zA J w j'):=λz {b' k' j'} s=>⟨c,by
  simp_all[qF,bEH]⟩
 unfold OE;generalize hq:upQ q w (qF Ky.length (q w) (J w))=q' at sm ⊢;refine eE (P:=λr=>∃c',uV Ky r.b r.k c' q' (zA J w r.j)) (λp=>sm (by omega) (bMQ h hl hw hb hk hJ hB hep p)) λ_=>eE (P:=λr=>∃c',uV Ky r.b r.k c' q' (zA J w r.j)) (λp=>sm (by omega) (bII h hl hw hc hJ hB p)) λ_=>eE (P:=λr=>∃c',uV Ky r.b r.k c' q' (zA J w r.j)) (λp=>⟨c,hq ▸ bIK h hl hw hc hJ hB p⟩) λ_=>
  eE (P:=λr=>∃c',uV Ky r.b r.k c' q' (zA J w r.j)) (λp=>sm (by omega) (bEU h hl hw hb hJ hB p)) λ_=>eE (P:=λr=>∃c',uV Ky r.b r.k c' q' (zA J w r.j)) (λp=>sm (by omega) (bIL h hl hw hc hJ hB hk.1 p)) λ_=>eE (P:=λr=>∃c',uV Ky r.b r.k c' q' (zA J w r.j)) (λp=>sm (by omega) (bMO h hl hw hc hJ hB p)) λ_=>
  eE (P:=λr=>∃c',uV Ky r.b r.k c' q' (zA J w r.j)) (λp=>hq ▸ bEW h hl hw hb hJ hB hk p) λ_=>eE (P:=λr=>∃c',uV Ky r.b r.k c' q' (zA J w r.j)) (λp=>sm (by omega) (a9L h hl hw hc hJ hB hk.1 p)) λ_=>eE (P:=λr=>∃c',uV Ky r.b r.k c' q' (zA J w r.j)) (λp=>sm (by omega) (a9M h hl hw hb hJ hB p)) λ_=>
  eE (P:=λr=>∃c',uV Ky r.b r.k c' q' (zA J w r.j)) (λp=>sm (by omega) (bIN h hl hw hb hJ hB p)) λ_=>eE (P:=λr=>∃c',uV Ky r.b r.k c' q' (zA J w r.j)) (λp=>sm (by omega) (bEQ h hl hw hc hJ hB p)) λ_=>eE (P:=λr=>∃c',uV Ky r.b r.k c' q' (zA J w r.j)) (λp=>sm (by omega) (bIM h hl hw hc hJ hB p)) λ_=>by omega
end
structure Sft (Ky:List Int) (q:Int->Nat) (t:Table):Prop where
 sv:∃c,uV Ky t.aA t.bZ c q (aZ t)
 lk:aSM t
 ep:EpT t.aA.aD (aZ t)
 qk:∀w,j7 w->∀b∈zD t w,∀x∈b.bW,x.Key∈Ky
theorem Ep.bE0{c:aD}{J J':Int->aI}(h:EpT c J)(e:∀v,j7 v->J' v=J v):EpT c J':=Ep.congr (J:=λv=>sjT (J v)) h λv hv=>by rw[e v hv]
theorem aO1{t:Table}(h3:t.aQ.length=3){w:Int}(hw:j7 w){l:List aI}{x:aI}(hl:l=t.aQ.set w.toNat x){v:Int}(hv:j7 v):l.getD v.toNat cO=zA (aZ t) w x v:=aSN h3 hl hw hv
theorem bMR{t:Table}(h3:t.dQ.length=3){w v:Int}(hw:j7 w)(hv:j7 v)(l:List Batch):((t.dQ.set w.toNat ⟨l⟩).getD v.toNat ⟨[]⟩).List=if v=w then l else zD t v:=by unfold zD;grind
def nxQ(Ky:List Int)(q:Int->Nat)(t:Table)(w:Int):Int->Nat:=if(aZ t w).cR then upQ q w (qF Ky.length (q w) (aZ t w)) else q
theorem Sft.step{Ky:List Int}{q:Int->Nat}{t:Table}(hv:TV t){w:Int}(hw:j7 w)(h:Sft Ky q t):Sft Ky (nxQ Ky q t w) (lB t w):=by
 have h3:=hv.C9.1;have hJ:∀v,j7 v->(aZ t v).cR=true->JB (aZ t v):=λv hv' hB=>(hv.C9.2 _ (FL h3 hv')).resolve_left λe=>by rw[e] at hB;cases hB
 obtain⟨c,hs⟩:=h.sv;have hlk:=h.lk.step hv hw;have hc:=hv.base.1.2.1;unfold nxQ;unfold lB at hlk ⊢;by_cases hB:(aZ t w).cR=true
 ·rw[aL hB] at hlk ⊢;rw[aL hB];obtain⟨c',q⟩:=bO3 hs h.lk hw hv.base hv.bk hJ hB h.ep;have e:∀v,j7 v->aZ (QD t w (OE t.aA t.bZ w (aZ t w))) v=zA (aZ t) w (OE t.aA t.bZ w (aZ t w)).j v:=λv hv'=>aO1 h3 hw rfl hv';have sb:=hs.sb w hw;refine⟨⟨c',q.congr e⟩,hlk,Ep.bE0 (bO2 hw hc h.ep hB (λp=>?_) (λp=>(sb.col p).1) (hs.tw w hw hB).pc) e,h.qk⟩;rcases p with p|⟨p,p'⟩
  ·exact .inl (sb.al p).1
  ·exact .inr (sb.rt p p').2.1
 ·rw[aP hB] at hlk ⊢;rw[aP hB];by_cases hq:(zD t w).length=0\/t.aO=1000000
  ·grind
  ·rw[aP hq] at hlk ⊢;have hp0:0<(zD t w).length:=by omega
   have er:(zD t w).getD 0 ⟨false,[]⟩=(zD t w)[0]:=by grind
   have hm:(zD t w).getD 0 ⟨false,[]⟩∈zD t w:=by grind
   have hn:aZ t w=cO:=(hv.C9.2 _ (FL h3 hw)).resolve_right λj=>hB j.busy;generalize (zD t w).getD 0 ⟨false,[]⟩=x at hm hlk;have e:∀v,j7 v->aZ (SX t w x) v=zA (aZ t) w (m0 x (t.aO+1)) v:=λv hv'=>aO1 h3 hw rfl hv';refine⟨⟨c,(bET hs h.lk hw hc hJ hn (h.qk w hw x hm) _).congr e⟩,hlk,Ep.bE0 (bEZ hw h.ep hn x _) e,λv hv' y hy z hz=>?_⟩;have ev:zD (SX t w x) v=if v=w then(zD t w).drop 1 else zD t v:=bMR hv.todo.1 hw hv' _;rw[ev] at hy;split at hy
   ·exact h.qk w hw y (aGZ hy) z hz
   ·exact h.qk v hv' y hy z hz
theorem Sft.zero{Ky:List Int}{l:List aN}(hk:∀q∈l,∀b∈q.List,∀x∈b.bW,x.Key∈Ky):Sft Ky (λ_=>0) (eX l):=by
 have ej:∀w,j7 w->aZ (eX l) w=cO:=λw hw=>by rcases(by omega:w=0\/w=1\/w=2) with rfl|rfl|rfl<;>rfl
 have eb:∀i,W3 i->iK (eX l).bZ i=⟨0,0,0⟩:=λi hi=>by rcases(by omega:i=0\/i=1) with rfl|rfl<;>rfl
 have o:own cO=[]:=(J2 (.inl (by decide))).1;have e0:=ej 0 (by simp[j7]);have e1:=ej 1 (by simp[j7]);have e2:=ej 2 (by simp[j7]);refine⟨⟨λ_=>[],rfl,λi hi=>by rw[eb i hi];rfl,λi _=>by simp[rL],λs=>?_,λv hv x hx=>?_,λv hv hB=>?_,λv hv=>by rw[ej v hv];exact .no (by decide),λv hv=>by rw[ej v hv];exact .no (by decide)⟩,aSM.zero l,?_,λw hw b hb x hx=>?_⟩
 ·have:ind (eX l).aA s=0:=YY (.inl λq=>by
   have hc:=dU q;obtain⟨h1,h2,_⟩:=sM hc;have h3:=i7.1 (show 0<cK (cD a6Z (s/4).toNat) from Int.lt_of_le_of_lt (by omega) h2);rcases(by omega:(s/4).toNat=0\/(s/4).toNat=1\/(s/4).toNat=2\/(s/4).toNat=3\/(s/4).toNat=4\/(s/4).toNat=5) with e|e|e|e|e|e<;>rw[e] at h3<;>exact absurd h3.1 (by decide))
  simp_all[cnC,cnO]
 ·grind
 ·rw[ej v hv] at hB;cases hB
 ·refine⟨λw hw hB=>?_,λw hw _ o1=>?_⟩
  ·have hB':(sjT (aZ (eX l) w)).cR=true:=hB;rw[ej w hw] at hB';cases hB'
  ·rcases(by omega:w=0\/w=1\/w=2) with rfl|rfl|rfl<;>cases o1
 grind[zD,eX]
def YZ(e:Int)(s:Sub):Int:=if s.Pc=0 then 3 else if s.Pc=1 then(if s.E=e then 2 else 5) else if s.E=e then 1 else 4
def VJ(s:Sub):Int:=if s.Pc=0 then 5 else if s.Pc=1 then 4-s.B else 1
def Y0(s:Sub):Int:=if s.Pc=0 then 8 else if s.Pc=1 then 7 else if s.Pc=2 then 6-s.B else 3
def cM(e:Int)(q:Nat)(j:aI):Int:=
 if j.cR=false then 0
 else if j.Pc=0 then YZ e j.Sub+j.Batch.bW.length*42+15
 else if j.Pc=1 then(j.Batch.bW.length-j.At)*19+j.Batch.bW.length*23+15
 else if j.Pc=2 then(j.Batch.bW.length-j.At)*19-1+j.Batch.bW.length*23+15
 else if j.Pc=3 then(j.Batch.bW.length-j.At-1)*19+2*q+3+j.Batch.bW.length*23+15
 else if j.Pc=4 then(j.Batch.bW.length-j.At-1)*19+2*q+2+j.Batch.bW.length*23+15
 else if j.Pc=5 then(j.Batch.bW.length-j.At-1)*19+1+j.Batch.bW.length*23+15
 else if j.Pc=6 then(if j.K<eK j.aH j.aH.length then 4*(eK j.aH j.aH.length-j.K)-j.Sub.Pc else 0)+j.aH.length*19+14
 else if j.Pc=7 then(if j.K<(sC j.aH).length then 13-j.K else 11)+j.aH.length*19
 else if j.Pc=8 then(if j.K<j.Reads.length then(j.Reads.length:Int)-j.K else 0)+6+j.bD.length+j.aH.length*19
 else if j.Pc=9 then(if j.K<j.aH.length then((j.aH.length:Int)-j.K)*19 else 0)+5+7*j.bU.length+j.bD.length
 else if j.Pc=10 then(j.aH.length-j.K)*19-3+q+7*j.bU.length+j.bD.length
 else if j.Pc=11 then(j.aH.length-j.K)*19-4+7*j.bU.length+j.bD.length
 else if j.Pc=12 then(j.aH.length-j.K)*19-12+7*j.bU.length+j.bD.length
 else if j.Pc=13 then(j.aH.length-j.K)*19-13+7*j.bU.length+j.bD.length
 else if j.Pc=14 then 4+7*j.bU.length+j.bD.length
 else if j.Pc=15 then(if j.K<j.bU.length then 3+7*(j.bU.length-j.K)-j.Sub.Pc else 3)
 else if j.Pc=16 then 4+j.eO.length+j.bD.length
 else if j.Pc=17 then 3+j.eO.length
 else if j.Pc=18 then 2
 else if j.Pc=19 then 1
 else if j.Pc=20 then VJ j.Sub+8
 else Y0 j.Sub
section
variable {e:Int} {q:Nat} {j:aI} (hB:j.cR=true)
include hB
theorem jc0(hp:j.Pc=0):cM e q j=YZ e j.Sub+j.Batch.bW.length*42+15:=by simp_all[cM]
theorem jc1(hp:j.Pc=1):cM e q j=(j.Batch.bW.length-j.At)*19+j.Batch.bW.length*23+15:=by simp_all[cM]
theorem jc2(hp:j.Pc=2):cM e q j=(j.Batch.bW.length-j.At)*19-1+j.Batch.bW.length*23+15:=by simp_all[cM]
theorem jc3(hp:j.Pc=3):cM e q j=(j.Batch.bW.length-j.At-1)*19+2*q+3+j.Batch.bW.length*23+15:=by simp_all[cM]
theorem jc4(hp:j.Pc=4):cM e q j=(j.Batch.bW.length-j.At-1)*19+2*q+2+j.Batch.bW.length*23+15:=by simp_all[cM]
theorem jc5(hp:j.Pc=5):cM e q j=(j.Batch.bW.length-j.At-1)*19+1+j.Batch.bW.length*23+15:=by simp_all[cM]
theorem jc6(hp:j.Pc=6):cM e q j=(if j.K<eK j.aH j.aH.length then 4*(eK j.aH j.aH.length-j.K)-j.Sub.Pc else 0)+j.aH.length*19+14:=by simp_all[cM]
theorem jc7(hp:j.Pc=7):cM e q j=(if j.K<(sC j.aH).length then 13-j.K else 11)+j.aH.length*19:=by simp_all[cM]
theorem jc8(hp:j.Pc=8):cM e q j=(if j.K<j.Reads.length then(j.Reads.length:Int)-j.K else 0)+6+j.bD.length+j.aH.length*19:=by simp_all[cM]
theorem jc9(hp:j.Pc=9):cM e q j=(if j.K<j.aH.length then((j.aH.length:Int)-j.K)*19 else 0)+5+7*j.bU.length+j.bD.length:=by simp_all[cM]
theorem bIP(hp:j.Pc=10):cM e q j=(j.aH.length-j.K)*19-3+q+7*j.bU.length+j.bD.length:=by simp_all[cM]
theorem bMS(hp:j.Pc=11):cM e q j=(j.aH.length-j.K)*19-4+7*j.bU.length+j.bD.length:=by simp_all[cM]
theorem bMT(hp:j.Pc=12):cM e q j=(j.aH.length-j.K)*19-12+7*j.bU.length+j.bD.length:=by simp_all[cM]
theorem bMU(hp:j.Pc=13):cM e q j=(j.aH.length-j.K)*19-13+7*j.bU.length+j.bD.length:=by simp_all[cM]
theorem bIQ(hp:j.Pc=14):cM e q j=4+7*j.bU.length+j.bD.length:=by simp_all[cM]
theorem a4T(hp:j.Pc=15):cM e q j=(if j.K<j.bU.length then 3+7*(j.bU.length-j.K)-j.Sub.Pc else 3):=by simp_all[cM]
theorem bE1(hp:j.Pc=16):cM e q j=4+j.eO.length+j.bD.length:=by simp_all[cM]
theorem bMV(hp:j.Pc=17):cM e q j=3+j.eO.length:=by simp_all[cM]
theorem bIR(hp:j.Pc=18):cM e q j=2:=by simp_all[cM]
theorem bIS(hp:j.Pc=19):cM e q j=1:=by simp_all[cM]
theorem bE2(hp:j.Pc=20):cM e q j=VJ j.Sub+8:=by simp_all[cM]
theorem a4U(hp:j.Pc=21):cM e q j=Y0 j.Sub:=by simp_all[cM]
end
def kU(b:aA)(w:Int):Int:=(dR b.aM w).length
theorem aI1{x:Sub}{A B:aI}(h:x.iB=false):(if x.iB=false then A else B)=A:=aL h
theorem aV7{j:aI}(hj:JB j):j.bD.length<=2:=by
 have:=GG (l:=j.bD) (m:=[0,1]) hj.held.2 λx hx=>by have:=hj.held.1 x hx;simp;omega
 omega
section
variable {Ky:List Int} {b:aA} {k:List cQ} {c:Int->List Int} {q:Int->Nat} {J:Int->aI} {w:Int} (hK:Ky.length<=8) (h:uV Ky b k c q J) (hl:∀v,j7 v->LkJ k v (J v)) (hw:j7 w) (hb:kD b) (hk:k.length=2/\∀x∈k,BkV x) (hJ:∀v,j7 v->(J v).cR=true->JB (J v)) (hB:(J w).cR=true) (hep:EpT b.aD J)
include hK h hl hw hb hk hJ hB hep
theorem aYS{e:Int}{n:Nat}{j':aI}{x:Int}(hn:j'.eO.length<=(J w).aH.length/\j'.bD.length<=2):cM e n (J6 j' x)<=6+(J w).aH.length:=by
 cases hb':j'.cR
 ·unfold cM;rw[aL (show(J6 j' x).cR=false from hb')];omega
 grind[bE1,J6]
theorem a1P{e:Int}{n:Nat}{j:aI}{v:Int}{is:Bool}(h1:1<=j.Pc/\j.Pc<=5)(t:TW Ky b.Mem k c n j)(hj:JB j)(ha:EF j):cM e n (OD j (gC j) v is)<=(j.Batch.bW.length-j.At-1)*19+j.Batch.bW.length*23+15:=by
 obtain⟨t1,t2⟩:=a4Q t hj h1 ha v is;have hat:(OD j (gC j) v is).At=j.At+1/\(OD j (gC j) v is).Batch=j.Batch/\(OD j (gC j) v is).cR=j.cR:=by
  have hm:=aIY j.aH ⟨(gC j).Key,false,aAP (if is then v else 0) (gC j).fT⟩;have:=t.wl;have:=hj.bat.2.1;unfold EF at ha;unfold OD;split
  ·unfold aSB C7 aIV;grind
  ·exact⟨rfl,rfl,rfl⟩
 rw[jc1 (hat.2.2.trans hj.busy) t2,hat.1,hat.2.1];omega
theorem bE3(hp:(J w).Pc=0\/(J w).Pc=20\/(J w).Pc=21):cM (C8 b w (J w)).1.aD.aJ (q w) (C8 b w (J w)).2+5*kU (C8 b w (J w)).1 w+1<=cM b.aD.aJ (q w) (J w)+5*kU b w/\((C8 b w (J w)).1.aD.aJ=b.aD.aJ\/(J w).Pc=20/\(C8 b w (J w)).2.Pc=21):=by
 have hc:=hb.1.2.1;have hj:=hJ w hw hB;have hat:=hj.at_;obtain⟨s0,s20⟩:=aYR hw hc hep hB;rcases hp with p|p|p
 ·obtain⟨k5,d,s⟩:=s0 p;have es:jG b w (J w).Sub=B9 b w (J w).Sub:=by simp_all[jG]
  obtain⟨cl,e,e1,e2⟩:=bEM hc hw (J w).Sub;unfold C8;rw[es,aL p,jc0 hB p];have hr:kU (B9 b w (J w).Sub).1 w=kU b w:=by rw[e];rfl
  have he:(B9 b w (J w).Sub).1.aD.aJ=b.aD.aJ:=by grind
  simp only[hr,he];refine⟨?_,.inl trivial⟩;rcases s with z|⟨z,z1,z2⟩|⟨z,z1⟩
  ·have e3:(B9 b w (J w).Sub).2={(J w).Sub with Pc:=1,E:=b.aD.aJ}:=by unfold B9;grind
   rw[e3,aI1 (by exact d),jc0 (by exact hB) (by exact p)];grind[YZ]
  ·have e3:(B9 b w (J w).Sub).2={(J w).Sub with Pc:=2}:=by simp_all[VE,B9]
   rw[e3,aI1 (by exact d),jc0 (by exact hB) (by exact p)];grind[YZ]
  ·by_cases y:b.aD.aJ=(J w).Sub.E
   ·have e3:(B9 b w (J w).Sub).2=A2 (J w).Sub 0:=by unfold B9;grind
    rw[e3,aP (by simp[A2]),jc1 (by exact hB) rfl];grind[YZ]
   ·have e3:(B9 b w (J w).Sub).2={(J w).Sub with Pc:=0}:=by unfold B9;grind
    rw[e3,aI1 (by exact d),jc0 (by exact hB) (by exact p)];unfold YZ;grind
 ·obtain⟨k3,d,s⟩:=s20 p;have es:jG b w (J w).Sub=fM b (J w).Sub:=by grind[jG]
  have hr:kU (fM b (J w).Sub).1 w=kU b w:=by obtain⟨cl,e,_⟩:=bEN hc (J w).Sub;rw[e];rfl
  unfold C8;rw[es,aP (show ¬(J w).Pc=0 by omega),aL p,bE2 hB p];simp only[hr];have dn:∀{x:Sub} {b':aA},x.iB=true->1<=VJ (J w).Sub->cM b'.aD.aJ (q w) (if x.iB=false then {J w with Sub:=x} else {J w with Pc:=21,Sub:=C5 4 0})+5*kU b w+1<=VJ (J w).Sub+8+5*kU b w/\(b'.aD.aJ=b.aD.aJ\/(J w).Pc=20/\(if x.iB=false then {J w with Sub:=x} else {J w with Pc:=21,Sub:=C5 4 0}).Pc=21):=λ{x b'} hx h1=>by rw[aP (by simp[hx]),a4U (by exact hB) rfl];grind[Y0,C5]
  rcases s with z|⟨_,⟨z,z1⟩|⟨z,z1⟩⟩
  ·have e3:fM b (J w).Sub=(b,{(J w).Sub with Pc:=1,E:=b.aD.aJ,B:=0}):=by simp_all[fM]
   rw[e3,aI1 (by exact d),bE2 (by exact hB) (by exact p)];grind[VJ]
  ·by_cases y:(KN b.aD (J w).Sub.B (J w).Sub.E).2=true
   ·have e3:fM b (J w).Sub=({b with aD:=(KN b.aD (J w).Sub.B (J w).Sub.E).1},{(J w).Sub with Pc:=if(J w).Sub.B=2 then 2 else 1,B:=(J w).Sub.B+1}):=by simp_all[fM]
    rw[e3,aI1 (by exact d),bE2 (by exact hB) (by exact p)];grind[aSA,VJ]
   ·have e3:(fM b (J w).Sub).2=A2 (J w).Sub 8:=by simp_all[fM]
    rw[e3];exact dn rfl (by unfold VJ;omega)
  ·have e3:(fM b (J w).Sub).2.iB=true:=by unfold fM;rw[nC,nC,aL z];rfl
   exact dn e3 (by simp_all[VJ])
 ·obtain⟨k4,d,s⟩:=(h.sb w hw).col p;have es:jG b w (J w).Sub=dO b w (J w).Sub:=by simp_all[jG]
  have hcl:(dO b w (J w).Sub).1.aD=b.aD:=by grind[SB]
  unfold C8;rw[es,aP (show ¬(J w).Pc=0 by omega),aP (show ¬(J w).Pc=20 by omega),a4U hB p];simp only[hcl];refine⟨?_,.inl trivial⟩;rcases s with z|⟨_,⟨z,r0⟩|⟨z,hB2,ha,hr⟩|⟨z,ha,hr⟩⟩
  ·have e:dO b w (J w).Sub=(b,{(J w).Sub with Pc:=1,E:=b.aD.aJ,Row:=0}):=by simp_all[dO]
   rw[e,aI1 (by exact d),a4U (by exact hB) (by exact p)];grind[Y0]
  ·by_cases y:uK (dR b.aM w) (J w).Sub.E (J w).Sub.Row.toNat<(dR b.aM w).length
   ·have e:dO b w (J w).Sub=(b,{(J w).Sub with Pc:=2,Row:=(uK (dR b.aM w) (J w).Sub.E (J w).Sub.Row.toNat:Int),B:=0,H:=(P9 (dR b.aM w) (uK (dR b.aM w) (J w).Sub.E (J w).Sub.Row.toNat:Int)).Handle}):=by simp_all[dO]
    rw[e,aI1 (by exact d),a4U (by exact hB) (by exact p)];grind[Y0]
   ·have e:dO b w (J w).Sub=(b,A2 (J w).Sub 0):=by simp_all[dO,aP]
    rw[e,aP (by simp[A2]),bIS (by exact hB) rfl];grind[Y0]
  ·have hH:(J w).Sub.H≠0:=by have:=(hb.2 _ (aCV hb.1.2.2.1 hw (aR6 ⟨ha.1,ha.2.1⟩))).1.1;rw[ha.2.2] at this;grind[kC]
   have e:dO b w (J w).Sub=(b,{(J w).Sub with Pc:=if(J w).Sub.B=2 then 3 else 2,B:=(J w).Sub.B+1}):=by unfold dO;rw[nC,nC,aL z,aL ⟨hB2,ha⟩,aP (by rw[bJ5 h.hz hB2];omega)]
   rw[e,aI1 (by exact d),a4U (by exact hB) (by exact p)];unfold Y0;grind
  ·have e:dO b w (J w).Sub=({b with Mem:=sA b.Mem w (J w).Sub.H,aM:=b.aM.set w.toNat ⟨(dR b.aM w).eraseIdx (J w).Sub.Row.toNat⟩},{(J w).Sub with Pc:=1,Out:=aY ((J w).Sub.Out+1)}):=by simp_all[dO]
   rw[e,aI1 (by exact d),a4U (by exact hB) (by exact p)];have h3:=hb.1.2.2.1.1;have er:kU ({b with Mem:=sA b.Mem w (J w).Sub.H,aM:=b.aM.set w.toNat ⟨(dR b.aM w).eraseIdx (J w).Sub.Row.toNat⟩}:aA) w=kU b w-1:=by have h1:=ha.1;have h2:=ha.2.1;unfold kU dR at *;grind
   simp only[er];unfold Y0;grind
end
section
variable {Ky:List Int} {b:aA} {k:List cQ} {c:Int->List Int} {q:Int->Nat} {J:Int->aI} {w:Int} (hK:Ky.length<=8) (h:uV Ky b k c q J) (hl:∀v,j7 v->LkJ k v (J v)) (hw:j7 w) (hb:kD b) (hk:k.length=2/\∀x∈k,BkV x) (hJ:∀v,j7 v->(J v).cR=true->JB (J v)) (hB:(J w).cR=true) (hep:EpT b.aD J)
include hK h hl hw hb hk hJ hB hep
theorem a9O{e:Int}{n:Nat}(hp:(J w).Pc=1):cM e n (aCZ (J w))+1<=cM e n (J w):=by
 have t:=h.tw w hw hB;have hj:=hJ w hw hB;have hat:=hj.at_;have t1:TW Ky b.Mem k c n (J w):={t with st:=λz=>absurd z (by omega)};rw[jc1 hB hp];unfold aCZ;split
 ·rename_i ha;split
  ·have h6:=hj.bat.2.1;have wl:=t.wl;have hlen:=aIY (J w).aH ⟨(gC (J w)).Key,(gC (J w)).Kind == 3,(gC (J w)).fT⟩;unfold EF at ha;unfold C7;rw[aP (show ¬6<(O2 (J w).aH ⟨(gC (J w)).Key,(gC (J w)).Kind == 3,(gC (J w)).fT⟩).length by omega),aL rfl,jc1 (by exact hB) (by exact hp)];grind
  ·split
   ·have:=a1P hK h hl hw hb hk hJ hB hep (e:=e) (n:=n) (v:=(aNY (J w).aH (gC (J w)).Key).1.fT) (is:=!(aNY (J w).aH (gC (J w)).Key).1.KR) (by omega) t1 hj ha;omega
   ·rw[jc2 (by exact hB) rfl];grind
 ·rename_i ha;have wl:=t.wl;have pl:=SD (J w).aH (J w).aH.length;grind[jc6,C5]
theorem a9P{e:Int}(hp:2<=(J w).Pc/\(J w).Pc<=5):cM e (qF Ky.length (q w) (J w)) (O3 b k w (J w))+1<=cM e (q w) (J w):=by
 have t:=h.tw w hw hB;have hj:=hJ w hw hB;have hat:=hj.at_;have ha:=t.hc hp;have wl:=t.wl;have h2:=aV7 hj;have hN:=t.nO (by omega);have ab:∀{j':aI} {x:Int},j'.eO=(J w).eO/\j'.bD=(J w).bD->∀n,cM e n (J6 j' x)<=6+(J w).aH.length:=λ{j' x} z n=>aYS hK h hl hw hb hk hJ hB hep (by grind);have ha':(J w).At<(J w).Batch.bW.length:=ha;unfold O3;by_cases p2:(J w).Pc=2
 ·rw[aL p2,jc2 hB p2];split
  ·grind
  ·have hq:qF Ky.length (q w) (J w)<=7:=by simp_all[qF]
   split
   ·rw[jc5 (by exact hB) rfl];grind
   ·rw[jc3 (by exact hB) rfl];grind
 rw[aP p2];by_cases p3:(J w).Pc=3
 ·rw[aL p3,jc3 hB p3,jc4 (by exact hB) rfl,show qF Ky.length (q w) (J w)=q w by simp_all[qF]];grind
 rw[aP p3];by_cases p4:(J w).Pc=4
 ·rw[aL p4,jc4 hB p4];split
  ·grind
  ·rename_i hpn;have hpin:lG b.aD w:=Classical.byContradiction hpn;obtain⟨r,⟨a,la⟩,a5⟩:=h.rd w hw (.inr p4) hpin;obtain⟨_,a6⟩:=a5 p4;by_cases z:(J w).Node.Key=(gC (J w)).Key\/W0 (J w).Node=0
   ·rw[aL z,jc5 (by exact hB) rfl];grind
   ·rw[aP z,jc3 (by exact hB) rfl];have hq:qF Ky.length (q w) (J w)=q w-1:=by simp_all[qF]
    grind[W0]
 rw[aP p4,jc5 hB (by omega)];split
 ·grind
 split
 ·grind
 have tr:TW Ky b.Mem k c (qF Ky.length (q w) (J w)) {J w with Reads:=(KM (J w).Reads (J w).cQ (J w).jS).1}:={t with st:=λz=>absurd z (by grind)};have:=a1P hK h hl hw hb hk hJ hB hep (e:=e) (v:=(J w).Node.fT) (is:=(J w).Found) (by grind) tr (hj.spt _ _ hj.bkt) ha;exact aTD (Int.add_le_add_right this 1) (by grind)
theorem a4V(hp:(J w).Pc=6):cM b.aD.aJ (q w) (NG b w (J w)).2+1<=cM b.aD.aJ (q w) (J w):=by
 have t:=h.tw w hw hB;have hj:=hJ w hw hB;have h2:=aV7 hj;have hn6:=t.n6 hp;have pl:=SD (J w).aH (J w).aH.length;obtain⟨s1,s2,s3,s4⟩:=(h.sb w hw).al hp;rw[jc6 hB hp];unfold NG;by_cases c1:eK (J w).aH (J w).aH.length<=(J w).K
 ·rw[aL c1,jc7 (by exact hB) rfl];grind
 rw[aP c1,aL (show(J w).K<_ by omega)];obtain⟨q1,q2,q3,q4⟩:=aYO hb.1.1 hw s1 s2 s3 s4;have hwl:=hj.wr.1;simp only;rcases q4 with ⟨em,⟨d,e⟩|⟨e1,e2⟩⟩|⟨d,e,wk,tk,kn⟩
 ·rw[aP (by grind),aL (.inl (by omega))];exact aTD (Int.add_le_add_right (aYS hK h hl hw hb hk hJ hB hep (e:=b.aD.aJ) (n:=q w) (j':={J w with Sub:=(jG b w (J w).Sub).2}) (x:=(jG b w (J w).Sub).2.Code) ⟨by grind,h2⟩) 1) (by omega)
 ·rw[aL (by grind),jc6 (by exact hB) (by exact hp),e2];grind
 ·rw[aP (by grind),aP (by
   rintro(q|q|q)
   ·exact q e
   ·exact q wk.1.1
   ·omega),jc6 (by exact hB) (by exact hp)]
  grind[C5]
theorem a9Q{e:Int}{n:Nat}(hp:(J w).Pc=7):cM e n (VG k w (J w)).2.1+1<=cM e n (J w):=by
 have t:=h.tw w hw hB;have hj:=hJ w hw hB;have h2:=aV7 hj;have hr2:=hj.rd2;have hn7:=(t.n7 (by omega)).1;have pl:=SD (J w).aH (J w).aH.length;have tl:=aX7 (J w).aH;have ab:∀x,cM e n (J6 (J w) x)<=6+(J w).aH.length:=λx=>aYS hK h hl hw hb hk hJ hB hep ⟨by omega,h2⟩;rw[jc7 hB hp];unfold VG;by_cases c1:(J w).K<(sC (J w).aH).length
 ·rw[aL c1,aL c1];have hk0:=hj.k;split
  ·grind
  split
  ·grind
  have h1:(VF (J w)).bD.length<=2:=by
   have hi:(J w).K.toNat<(sC (J w).aH).length:=by omega
   have er:gZ (J w)=(sC (J w).aH)[(J w).K.toNat]:=by grind[gZ]
   have hbk:0<=gZ (J w)/\gZ (J w)<=1:=by grind[aCP,cZ]
   unfold VF;simp only;split
   ·exact h2
   ·rename_i hm;have:=GG (l:=(J w).bD++[gZ (J w)]) (m:=[0,1]) (aK1.2 ⟨hj.held.2,by simp,λa ha y hy=>by grind⟩) λx hx=>by
     rcases eS.1 hx with hx|hx
     ·have:=hj.held.1 x hx;simp;omega
     grind
    omega
  split
  ·grind[jc8,VF]
  ·rw[jc7 (by exact hB) (by exact hp)];unfold VF;grind
 ·rw[aP c1,aP c1,jc8 (by exact hB) rfl];grind
theorem bE4{e:Int}{n:Nat}(hp:(J w).Pc=8):cM e n (aEK k w (J w))+1<=cM e n (J w):=by
 have t:=h.tw w hw hB;have hj:=hJ w hw hB;have h2:=aV7 hj;have hO:=t.oO (by omega);have hn7:=(t.n7 (by omega)).1;have pl:=SD (J w).aH (J w).aH.length;rw[jc8 hB hp];unfold aEK;by_cases c1:((J w).Reads.length:Int)<=(J w).K
 ·rw[aL c1,jc9 (by exact hB) rfl];grind
 rw[aP c1,aL (show(J w).K<_ by omega)];grind[bE1,J6,jc8]
theorem bE5{e:Int}{n:Nat}(hp:(J w).Pc=14\/(J w).Pc=16):cM e n (VH k (J w)).2+1<=cM e n (J w):=by
 unfold VH;by_cases c1:0<(J w).bD.length
 ·rw[aL c1];grind[bIQ,bE1]
 ·rw[aP c1];rcases hp with p|p
  ·rw[nC,bIQ hB p];unfold YU;by_cases z:(0:Int)<(J w).bU.length
   ·rw[aL z,a4T (by exact hB) rfl];simp only[C5];omega
   simp_all[a4T]
  ·rw[aL p,bE1 hB p,bMV (by exact hB) rfl];grind
theorem bE6{e:Int}{n:Nat}(hp:(J w).Pc=15):cM e n (SC b w (J w)).2+5*kU (SC b w (J w)).1 w+1<=cM e n (J w)+5*kU b w:=by
 have hj:=hJ w hw hB;unfold SC;rw[a4T hB hp];by_cases c1:((J w).bU.length:Int)<=(J w).K
 ·rw[aL c1,bIR (by exact hB) rfl,aP (show ¬(J w).K<_ by omega)];grind
 rw[aP c1,aL (show(J w).K<_ by omega)];obtain⟨s0,s1,s2,s3,s4⟩:=(h.sb w hw).rt hp (by omega);have es:jG b w (J w).Sub=y9 b w (J w).Sub:=by grind[jG]
 rw[es];rcases s4 with p0|⟨p1,e0,e1⟩
 ·have er:y9 b w (J w).Sub=(b,{(J w).Sub with Pc:=1,E:=b.aD.aJ}):=by simp_all[y9]
  rw[er,aP (by simp[s2]),a4T (by exact hB) (by exact hp)];grind
 ·have hr:kU (y9 b w (J w).Sub).1 w<=kU b w+1/\(y9 b w (J w).Sub).2.iB=true:=by
   have h3:=hb.1.2.2.1.1;unfold y9;rw[nC,aL p1,aL ⟨e0,e1⟩];split
   ·refine⟨?_,rfl⟩;unfold kU dR;grind
   ·exact⟨by grind,rfl⟩
  rw[aL hr.2];unfold YU;by_cases z:(J w).K+1<(J w).bU.length
  ·rw[aL z,a4T (by exact hB) (by exact hp)];simp only[C5];omega
  ·rw[aP z,a4T (by exact hB) (by exact hp)];grind
end
section
variable {Ky:List Int} {b:aA} {k:List cQ} {c:Int->List Int} {q:Int->Nat} {J:Int->aI} {w:Int} (hK:Ky.length<=8) (h:uV Ky b k c q J) (hl:∀v,j7 v->LkJ k v (J v)) (hw:j7 w) (hb:kD b) (hk:k.length=2/\∀x∈k,BkV x) (hJ:∀v,j7 v->(J v).cR=true->JB (J v)) (hB:(J w).cR=true) (hep:EpT b.aD J)
include hK h hl hw hb hk hJ hB hep
theorem bE7{e:Int}(hp:9<=(J w).Pc/\(J w).Pc<=13):cM e (qF Ky.length (q w) (J w)) (J1 b k (J w)).2.2+1<=cM e (q w) (J w):=by
 have t:=h.tw w hw hB;have hj:=hJ w hw hB;have hk0:=hj.k;generalize hn:qF Ky.length (q w) (J w)=n;have place:∀{j1:aI},j1.cR=true->(J w).K<(J w).aH.length->j1.aH=(J w).aH/\j1.K=(J w).K/\j1.bD=(J w).bD->cM e n (VM j1 (uL (J w)))<=((J w).aH.length-(J w).K)*19-12+7*j1.bU.length+(J w).bD.length:=λ{j1} hb1 hlt ⟨e1,e2,e3⟩=>by grind[VM,jc9,bMT]
 unfold J1;by_cases c1:((J w).aH.length:Int)<=(J w).K
 ·have p9:(J w).Pc=9:=by have:=t.k9;omega
  rw[aL c1,jc9 hB p9,bIQ (by exact hB) rfl,aP (show ¬(J w).K<_ by omega)];grind
 rw[aP c1];have hlt:(J w).K<(J w).aH.length:=by omega
 by_cases p9:(J w).Pc=9
 ·rw[aL p9,jc9 hB p9,aL hlt];have hq:n<=7:=by rw[<-hn];unfold qF;grind
  simp only;split
  ·grind
  ·rw[bIP (by exact hB) rfl];grind
 rw[aP p9];by_cases p10:(J w).Pc=10
 ·rw[aL p10,bIP hB p10];simp only;obtain⟨A,B,e1,⟨e2,e3⟩,e4⟩:=t.st (.inl p10);have hq:n=q w-1:=by simp_all[qF]
  split
  ·rw[bMS (by exact hB) rfl];grind
  split
  ·grind
  ·rename_i z1 z2;rw[bIP (by exact hB) (by exact p10),hq];have hi:(J w).K.toNat<(J w).aH.length:=by omega
   have er:uL (J w)=(J w).aH[(J w).K.toNat]:=by grind[uL]
   have hx:=hj.wr.2.1 _ (show uL (J w)∈(J w).aH by grind);have hbk:W3 (bi (J w)):=by unfold bi pJ;omega
   have hch:=h.ch _ hbk;rw[e1] at hch;have hH:=hch.split;rw[a4R hH.2.1,bEV hH.2.2.1] at z2;have:1<=B.length:=by
    match B,hH.2.2.2 with
    |[],y=>exact absurd y z2
    |_::_,_=>simp
   grind
 rw[aP p10];by_cases p11:(J w).Pc=11
 ·rw[aL p11,bMS hB p11];grind[YT]
 rw[aP p11];obtain⟨nm,_⟩:=aSU h hw t hj (by omega);have hlen:¬((J w).eO.length:Int)<=eK (J w).aH (J w).K:=λz=>by simp_all[eK,aPA,aIZ]
 rw[aP hlen];by_cases p12:(J w).Pc=12
 ·rw[aL p12,bMT hB p12,bMU (by exact hB) rfl];grind
 ·rw[aP p12,bMU hB (by omega),jc9 (by exact hB) rfl];grind
theorem bIT:cM (OE b k w (J w)).b.aD.aJ (qF Ky.length (q w) (J w)) (OE b k w (J w)).j+5*kU (OE b k w (J w)).b w+1<=cM b.aD.aJ (q w) (J w)+5*kU b w/\((OE b k w (J w)).b.aD.aJ=b.aD.aJ\/(J w).Pc=20/\(OE b k w (J w)).j.Pc=21):=by
 have hc:=hb.1.2.1;have t:=h.tw w hw hB;have hpc:=t.pc;have sm:((J w).Pc≠2/\(J w).Pc≠4/\(J w).Pc≠9/\(J w).Pc≠10)->qF Ky.length (q w) (J w)=q w:=λz=>by simp_all[qF]
 generalize hn:qF Ky.length (q w) (J w)=n at sm;have fl:∀{b':aA} {k':List cQ} {j':aI} {l:List J9},b'.aD.aJ=b.aD.aJ->kU b' w=kU b w->cM b.aD.aJ n j'+1<=cM b.aD.aJ (q w) (J w)->cM (⟨b',k',j',l⟩:TR).b.aD.aJ n (⟨b',k',j',l⟩:TR).j+5*kU (⟨b',k',j',l⟩:TR).b w+1<=cM b.aD.aJ (q w) (J w)+5*kU b w/\((⟨b',k',j',l⟩:TR).b.aD.aJ=b.aD.aJ\/(J w).Pc=20/\(⟨b',k',j',l⟩:TR).j.Pc=21):=λ{b' k' j' l} e1 e2 e3=>⟨by grind,.inl e1⟩;unfold OE;have P:∀{c:Prop} [Decidable c] {x y:TR},(c->cM x.b.aD.aJ n x.j+5*kU x.b w+1<=cM b.aD.aJ (q w) (J w)+5*kU b w/\(x.b.aD.aJ=b.aD.aJ\/(J w).Pc=20/\x.j.Pc=21))->(¬c->cM y.b.aD.aJ n y.j+5*kU y.b w+1<=cM b.aD.aJ (q w) (J w)+5*kU b w/\(y.b.aD.aJ=b.aD.aJ\/(J w).Pc=20/\y.j.Pc=21))->_:=
  eE (P:=λr=>cM r.b.aD.aJ n r.j+5*kU r.b w+1<=cM b.aD.aJ (q w) (J w)+5*kU b w/\(r.b.aD.aJ=b.aD.aJ\/(J w).Pc=20/\r.j.Pc=21))
 refine P (λp=>?_) λ_=>P (λp=>fl rfl rfl (by rw[sm (by omega)];exact a9O hK h hl hw hb hk hJ hB hep p)) λ_=>P (λp=>fl rfl rfl (hn ▸ a9P hK h hl hw hb hk hJ hB hep p)) λ_=>P (λp=>?_) λ_=>P (λp=>fl rfl rfl (by rw[sm (by omega)];exact a9Q hK h hl hw hb hk hJ hB hep p)) λ_=>P (λp=>fl rfl rfl (by rw[sm (by omega)];exact bE4 hK h hl hw hb hk hJ hB hep p)) λ_=>
  P (λp=>fl (b':=(J1 b k (J w)).1) (k':=(J1 b k (J w)).2.1) (j':=(J1 b k (J w)).2.2) (l:=[]) (by grind[J1]) (by grind[J1,kU]) (hn ▸ bE7 hK h hl hw hb hk hJ hB hep p)) λ_=>P (λp=>fl rfl rfl ?_) λ_=>P (λp=>?_) λ_=>P (λp=>?_) λ_=>P (λp=>?_) λ_=>P (λp=>fl rfl rfl ?_) λ_=>by omega
 ·rw[sm (by omega)];obtain⟨a1,a2⟩:=bE3 hK h hl hw hb hk hJ hB hep p;grind
 ·obtain⟨s1,s2,s3,s4⟩:=(h.sb w hw).al p;obtain⟨q1,q2,q3,_⟩:=aYO hb.1.1 hw s1 s2 s3 s4;have e1:(NG b w (J w)).1.aD=b.aD:=by grind[NG]
  have e2:(NG b w (J w)).1.aM=b.aM:=by grind[NG]
  exact fl (b':=(NG b w (J w)).1) (k':=k) (j':=(NG b w (J w)).2) (l:=[]) (cJ aD.aJ e1) (cJ (λl=>((dR l w).length:Int)) e2) (by rw[sm (by omega)];exact a4V hK h hl hw hb hk hJ hB hep p)
 ·rw[sm (by omega)];exact bE5 hK h hl hw hb hk hJ hB hep p
 ·have hcl:(SC b w (J w)).1.aD=b.aD:=by
   unfold SC;split
   ·rfl
   ·exact SB (by have:=(h.sb w hw).rt p (by omega);omega)
  refine⟨?_,.inl (by rw[hcl])⟩;simp only;rw[hcl,sm (by omega)];exact bE6 hK h hl hw hb hk hJ hB hep p
 ·have e:(QC b w (J w)).1.aD=b.aD/\(QC b w (J w)).1.aM=b.aM:=by grind[QC]
  refine fl (b':=(QC b w (J w)).1) (k':=k) (j':=(QC b w (J w)).2) (l:=[]) (cJ aD.aJ e.1) (cJ (λl=>((dR l w).length:Int)) e.2) ?_;grind[bMV,QC,bIR]
 ·refine fl (b':={b with aD:=(OC b.aD w).1}) (k':=k) (j':={J w with Pc:=19}) (l:=[]) (a1J hc hw).1 rfl ?_;grind[bIR,bIS]
 ·rw[bIS hB p];unfold cM;rw[aL (show cO.cR=false from rfl)];omega
end
theorem a9R(e e':Int)(q:Nat)(j:aI):cM e' q j<=cM e q j+3:=by
 cases hb:j.cR
 ·simp_all[cM]
 ·by_cases p:j.Pc=0
  ·rw[jc0 hb p,jc0 hb p];grind[YZ]
  ·have:cM e' q j=cM e q j:=by unfold cM;grind
   omega
def bC(x:Batch):Int:=if x.Collect then 14 else x.bW.length*42+19
def isC(x:Batch):Int:=if x.Collect then 1 else 0
def aC6(f:Batch->Int):List Batch->Int
 |[]=>0
 |x::r=>f x+aC6 f r
def CK(t:Table)(w:Int):Int:=aC6 isC (zD t w)+if(aZ t w).cR=true/\(aZ t w).Pc=20 then 1 else 0
def a1Q(q:Int->Nat)(t:Table)(w:Int):Int:=cM t.aA.aD.aJ (q w) (aZ t w)+5*kU t.aA w+aC6 bC (zD t w)
def SH(f:Int->Int):Int:=f 0+f 1+f 2
def aI2(q:Int->Nat)(t:Table)(w:Int):Int:=a1Q q t w+3*(SH (CK t)-CK t w)
def aFK(t:Table)(w:Int):Prop:=(aZ t w).cR=false/\zD t w=[]
theorem a9S(b:aA)(w:Int)(s:Sub):(jG b w s).1.aM=b.aM\/∃x,(jG b w s).1.aM=b.aM.set w.toNat x:=by grind[R9,aCT,fM,B9,y9,dO,jG]
theorem bE8(b:aA)(k:List cQ)(w:Int)(j:aI):(OE b k w j).b.aM=b.aM\/∃x,(OE b k w j).b.aM=b.aM.set w.toNat x:=by
 have hs:=a9S b w j.Sub;unfold OE;have P:∀{c:Prop} [Decidable c] {x y:TR},(c->(x.b.aM=b.aM\/∃z,x.b.aM=b.aM.set w.toNat z))->(¬c->(y.b.aM=b.aM\/∃z,y.b.aM=b.aM.set w.toNat z))->_:=eE (P:=λr=>r.b.aM=b.aM\/∃z,r.b.aM=b.aM.set w.toNat z);refine P (λ_=>hs) λ_=>P (λ_=>.inl rfl) λ_=>P (λ_=>.inl rfl) λ_=>P (λ_=>?_) λ_=>P (λ_=>.inl rfl) λ_=>P (λ_=>.inl rfl) λ_=>P (λ_=>.inl (by grind[J1])) λ_=>P (λ_=>.inl rfl) λ_=>P (λ_=>?_) λ_=>P (λ_=>.inl (by grind[QC])) λ_=>P (λ_=>.inl rfl) λ_=>P (λ_=>.inl rfl) λ_=>.inl rfl
 ·unfold NG;split;exact .inl rfl;exact hs
 ·unfold SC;split;exact .inl rfl;exact hs
theorem aI3{f:Batch->Int}(h:∀x,0<=f x):∀l,0<=aC6 f l
 |[]=>O4 _
 |x::r=>Int.add_nonneg (h x) (aI3 h r)
theorem bMW(x:Batch):0<=bC x:=by grind[bC]
theorem a7O(x:Batch):0<=isC x:=by grind[isC]
theorem a9T(t:Table)(w:Int):0<=CK t w:=by have:=aI3 a7O (zD t w);grind[CK]
theorem bIU(f:Int->Int)(h:∀v,0<=f v){w:Int}(hw:j7 w):f w<=SH f:=by grind[SH]
theorem a1R{f g:Int->Int}{w:Int}(hw:j7 w)(h:∀v,j7 v->v≠w->g v=f v):SH g-g w=SH f-f w:=by grind[SH]
section
variable {Ky:List Int} {q:Int->Nat} {t:Table} (hK:Ky.length<=8) (hv:TV t) (hs:Sft Ky q t) {w:Int} (hw:j7 w) (hser:t.aO≠1000000)
include hK hv hs hw
theorem a9U(hB:(aZ t w).cR=true):1<=cM t.aA.aD.aJ (q w) (aZ t w):=by
 have hj:JB (aZ t w):=(hv.C9.2 _ (FL hv.C9.1 hw)).resolve_left λe=>by rw[e] at hB;cases hB
 obtain⟨c,h⟩:=hs.sv;have T:=h.tw w hw hB;have hpc:=T.pc;have hat:=hj.at_;have sb:=h.sb w hw;have hc:=hv.base.1.2.1;obtain⟨s0,s20⟩:=aYR hw hc hs.ep hB;have tl:=aX7 (aZ t w).aH;have hk:=hj.k;rcases(by omega:(aZ t w).Pc=0\/(aZ t w).Pc=1\/(2<=(aZ t w).Pc/\(aZ t w).Pc<=5)\/(aZ t w).Pc=6\/(aZ t w).Pc=7\/(aZ t w).Pc=8\/(aZ t w).Pc=9\/(10<=(aZ t w).Pc/\(aZ t w).Pc<=13)\/(aZ t w).Pc=14\/(aZ t w).Pc=15\/(aZ t w).Pc=16\/(aZ t w).Pc=17\/(aZ t w).Pc=18\/(aZ t w).Pc=19\/(aZ t w).Pc=20\/(aZ t w).Pc=21) with p|p|p|p|p|p|p|p|p|p|p|p|p|p|p|p
 ·rw[jc0 hB p];grind[YZ]
 ·grind[jc1]
 ·have ha:(aZ t w).At<(aZ t w).Batch.bW.length:=T.hc p;grind[jc2,jc3,jc4,jc5]
 ·rw[jc6 hB p];have:=(sb.al p).2.2.1;omega
 ·grind[jc7]
 ·grind[jc8]
 ·grind[jc9]
 ·have:=T.k9 p;grind[bIP,bMS,bMT,bMU]
 ·grind[bIQ]
 ·rw[a4T hB p];split
  ·have:=sb.rt p (by omega);omega
  ·omega
 ·grind[bE1]
 ·grind[bMV]
 ·grind[bIR]
 ·grind[bIS]
 ·grind[bE2,VJ]
 ·rw[a4U hB p];obtain⟨_,_,z⟩:=sb.col p;grind[Y0]
theorem bIV(h:¬aFK t w):0<=aI2 q t w:=by
 have a:=aI3 bMW (zD t w);have b:=bIU (CK t) (a9T t) hw;have r:0<=kU t.aA w:=Int.natCast_nonneg _;unfold aI2 a1Q;by_cases hB:(aZ t w).cR=true
 ·have:=a9U hK hv hs hw hB;omega
 ·have:cM t.aA.aD.aJ (q w) (aZ t w)=0:=by simp_all[cM]
  omega
theorem aV8(h:aFK t w):lB t w=t/\nxQ Ky q t w=q:=by unfold lB nxQ;rw[aP (by rw[h.1];decide),aL (.inl (by rw[h.2];rfl)),aP (by rw[h.1];decide)];simp
include hser
theorem a1S(h:¬aFK t w):aI2 (nxQ Ky q t w) (lB t w) w+1<=aI2 q t w/\∀v,j7 v->v≠w->aI2 (nxQ Ky q t w) (lB t w) v<=aI2 q t v/\(aFK t v->aFK (lB t w) v):=by
 have h3:=hv.C9.1;have hJ:∀v,j7 v->(aZ t v).cR=true->JB (aZ t v):=λv hv' hB=>(hv.C9.2 _ (FL h3 hv')).resolve_left λe=>by rw[e] at hB;cases hB
 obtain⟨c,sv⟩:=hs.sv;by_cases hB:(aZ t w).cR=true
 ·have est:lB t w=QD t w (OE t.aA t.bZ w (aZ t w)):=by simp_all[lB]
  have enq:nxQ Ky q t w=upQ q w (qF Ky.length (q w) (aZ t w)):=aL hB;obtain⟨a1,a2⟩:=bIT hK sv hs.lk hw hv.base hv.bk hJ hB hs.ep;have hpc:=(sv.tw w hw hB).pc;have hdp:(OE t.aA t.bZ w (aZ t w)).j.cR=true/\(OE t.aA t.bZ w (aZ t w)).j.Pc=20->(aZ t w).Pc=20:=λz=>by
   by_cases p:1<=(aZ t w).Pc/\(aZ t w).Pc<=19
   ·rcases bEY (b:=t.aA) (k:=t.bZ) (w:=w) p with e|e
    ·rw[e] at z;cases z.1
    ·omega
   ·by_cases p0:(aZ t w).Pc=20
    ·exact p0
    ·exfalso;have e:(OE t.aA t.bZ w (aZ t w)).j=(C8 t.aA w (aZ t w)).2:=by unfold OE;rw[aL (by omega)]
     grind[C8]
  have hrow:=bE8 t.aA t.bZ w (aZ t w);rw[est,enq];generalize OE t.aA t.bZ w (aZ t w)=r at a1 a2 hdp hrow;have ej:∀v,j7 v->aZ (QD t w r) v=if v=w then r.j else aZ t v:=λv hv'=>aO1 h3 hw rfl hv';have eq:∀v,zD (QD t w r) v=zD t v:=λ_=>rfl;have er:∀v,j7 v->v≠w->kU r.b v=kU t.aA v:=λv hv' hn=>by
   unfold kU;rcases hrow with e|⟨x,e⟩
   ·rw[e]
   ·rw[e,aGU hv.base.1.2.2.1.1 hw hv' hn]
  have bo:∀v,j7 v->v≠w->CK (QD t w r) v=CK t v:=λv hv' hn=>by simp_all[CK]
  have bw:CK (QD t w r) w<=CK t w/\(r.b.aD.aJ≠t.aA.aD.aJ->CK (QD t w r) w+1<=CK t w):=by unfold CK;grind
  have s1:=a1R hw bo;refine⟨?_,λv hv' hn=>⟨?_,λi=>?_⟩⟩
  ·unfold aI2 a1Q;rw[s1,eq,ej w hw,aL rfl];show cM r.b.aD.aJ (upQ q w _ w) r.j+5*kU r.b w+_+_+1<=_;rw[show upQ q w (qF Ky.length (q w) (aZ t w)) w=qF Ky.length (q w) (aZ t w) from aL rfl];omega
  ·unfold aI2 a1Q;rw[eq,ej v hv',aP hn,bo v hv' hn];show cM r.b.aD.aJ (upQ q w _ v) (aZ t v)+5*kU r.b v+_+_<=_;rw[show upQ q w (qF Ky.length (q w) (aZ t w)) v=q v from aP hn,er v hv' hn];have:=a9R t.aA.aD.aJ r.b.aD.aJ (q v) (aZ t v);grind
  ·exact⟨by rw[ej v hv',aP hn];exact i.1,i.2⟩
 ·have hq:¬((zD t w).length=0\/t.aO=1000000):=λz=>z.elim (λz=>h ⟨by grind,wE z⟩) hser;have est:lB t w=SX t w ((zD t w).getD 0 ⟨false,[]⟩):=by simp_all[lB]
  have enq:nxQ Ky q t w=q:=aP hB;rw[est,enq]
  match hQ:zD t w,hq with
  |[],hq=>grind
  |x::l,_=>
  simp only[List.getD_cons_zero];have ej:∀v,j7 v->aZ (SX t w x) v=if v=w then m0 x (t.aO+1) else aZ t v:=λv hv'=>aO1 h3 hw rfl hv';have eq:∀v,j7 v->zD (SX t w x) v=if v=w then l else zD t v:=λv hv'=>by grind[zD,SX]
  have j0:cM t.aA.aD.aJ (q w) (aZ t w)=0:=by simp_all[cM]
  have jn:cM t.aA.aD.aJ (q w) (m0 x (t.aO+1))+1<=bC x:=by
   cases hx:x.Collect
   ·rw[jc0 (show(m0 x (t.aO+1)).cR=true from rfl) (by grind[m0])];grind[m0,bC,YZ,C5]
   simp_all[bE2,m0,bC,VJ,C5]
  have bo:∀v,j7 v->v≠w->CK (SX t w x) v=CK t v:=λv hv' hn=>by simp_all[CK]
  have bw:CK (SX t w x) w<=CK t w:=by unfold CK;rw[eq w hw,ej w hw,aL rfl,aL rfl,hQ,aP (show ¬((aZ t w).cR=true/\_) from λz=>hB z.1)];grind[aC6,m0,isC]
  have s1:=a1R hw bo;refine⟨?_,λv hv' hn=>⟨?_,λi=>?_⟩⟩
  ·unfold aI2 a1Q;rw[s1,eq w hw,ej w hw,aL rfl,aL rfl,hQ,j0];show cM t.aA.aD.aJ (q w) (m0 x (t.aO+1))+5*kU t.aA w+_+_+1<=_;grind[aC6]
  ·unfold aI2 a1Q;rw[eq v hv',ej v hv',aP hn,aP hn,bo v hv' hn];show cM t.aA.aD.aJ (q v) (aZ t v)+5*kU t.aA v+_+_<=_;omega
  ·exact⟨by rw[ej v hv',aP hn];exact i.1,by rw[eq v hv',aP hn];exact i.2⟩
end
theorem VK{l:List aI}(hl:l.length<=1000){f:aI->Bool}{g:aI->Option Bool}(hg:∀x∈l,g x=some (f x)):iE l g=some (l.any f):=
 QM (f:=rQ l g) (m:=DM) (by omega) (λk=>by
  simp only[rQ];by_cases h:k<l.length
  ·rw[dif_pos h,cY,aT h,aE,hg _ (cZ h),aE,dM];rfl
  grind) (λ_=>rfl) rfl
theorem aYT{l:List cQ}(hl:l.length<=1000){f:cQ->Bool}{g:cQ->Option Bool}(hg:∀x∈l,g x=some (f x)):tK l g=some (l.any f):=
 QM (f:=tJ l g) (m:=GO) (by omega) (λk=>by
  simp only[tJ];by_cases h:k<l.length
  ·rw[dif_pos h,cY,aT h,aE,hg _ (cZ h),aE,dM];rfl
  grind) (λ_=>rfl) rfl
theorem aSZ{l:List Seen}(hl:l.length<=1000){f:Seen->Bool}{g:Seen->Option Bool}(hg:∀x∈l,g x=some (f x)):gH l g=some (l.any f):=
 QM (f:=jJ l g) (m:=DI) (by omega) (λk=>by
  simp only[jJ];by_cases h:k<l.length
  ·rw[dif_pos h,cY,aT h,aE,hg _ (cZ h),aE,dM];rfl
  grind) (λ_=>rfl) rfl
theorem aS0(b:Int):KY b=some (decide (0<=b/\b<=1)):=by grind[KY,dD]
theorem aS1{O:Type}{l:List O}{f:O->Bool}(h:∀x∈l,f x=false):l.any f=false:=aUU.2 λx hx=>by grind
theorem a1T{l:List Int}(hl:l.length<=6)(h:∀x∈l,kC x):wT l=some true:=by unfold wT;rw[cY,show(λy0=>yW y0)=λy0=>some (!decide (kC y0)) from funext λy=>by grind[yW,iF],wB (by grind[maxLen]),aS1 λx hx=>by grind];rfl
theorem a1U{l:List aX}(h:WrV l):L6 l=some true:=by
 have h6:=h.1;unfold L6;have key:loop (tL l) 0=some (Out.brk ()):=dW (f:=tL l) l.length (λk=>(k:Int)) _ (λk hk=>by
  have hx:=h.2.1 _ (cZ hk);simp only[tL];rw[cY,aT hk,aE,dD,bY hx.1,aE,eD,dD,bY hx.2,aE,eD];by_cases k0:(0:Int)<k
  ·have hk1:k-1<l.length:=by omega
   have hlt:=List.pairwise_iff_getElem.1 h.2.2 (k-1) k hk1 hk (by omega);rw[aL (by grind),dM (x:=(k:Int)-1),show(k:Int)-1=((k-1:Nat):Int) by omega,aT hk1,aE,eF (by omega)];unfold lP;rw[eD,dM];rfl
  simp_all[lP,cA]) (by simp[tL])
 grind[WH,WG]
theorem bE9{j:aI}(h:JB j):uR j=some true:=by
 have hb:=h.bat.2.1;have hk:=h.k;have hh:=h.held;have hheld:=aV7 h;have key:loop (zZ j) 0=some (Out.brk ()):=dW (f:=zZ j) j.bD.length (λk=>(k:Int)) _ (λk hk=>by
  simp only[zZ,IS];rw[cY,aT hk,aE,aS0,bY (hh.1 _ (cZ hk)),aE,eD,J5,NM,SZ,contains_eq (by grind[maxLen]),eF ((LA _).1 hh.2 k hk),aE,eD,dM];rfl) (by simp[zZ])
 unfold uR;rw[aP (by simp[h.busy]),key];simp only[aE,aBF];unfold aBE;rw[aSJ (by omega),bY h.bat,JZ,bY h.h,JZ,bY h.prev,aS0,bY h.bkt,dD,bY h.at_,dD,bY (show 0<=j.K/\j.K<=100 by omega),a1T h.new.1 h.new.2,a1T h.old.1 h.old.2,
  aSZ (f:=λ_=>false) (by have:=h.rd2;omega) (λs hs=>by unfold UW;rw[aS0,bY (h.reads.1 s hs)];rfl),aS1 λ_ _=>rfl,a1U h.wr]
 rfl
theorem a4W:uR cO=some true:=by
 have c1:IQ cO.Batch cO.Batch=some true:=by unfold IQ;rw[aL (by rfl)];unfold KX;rw[eD,bB (r:=Out.brk ()) (by simp[OO,cO])];rfl
 have c2:yV [] []=some true:=by unfold yV;rw[eD,bB (r:=Out.brk ()) (by simp[MY])];rfl
 have c3:vR [] []=some true:=by unfold vR;rw[eD,bB (r:=Out.brk ()) (by simp[KJ])];rfl
 have c4:BK [] []=some true:=by unfold BK;rw[eD,bB (r:=Out.brk ()) (by simp[OQ])];rfl
 have c5:oQ [] []=some true:=by unfold oQ;rw[eD,bB (r:=Out.brk ()) (by simp[OR])];rfl
 unfold uR;rw[aL (by rfl)];show(L5 cO cO).bind _=_;unfold L5;rw[c1,show cO.Reads=[] from rfl,show cO.aH=[] from rfl,show cO.iZ=[] from rfl,show cO.eO=[] from rfl,show cO.bD=[] from rfl,show cO.bU=[] from rfl,c2,c3,c4,c5];simp[cH]
theorem aV9{t:Table}(hv:TV t):∀j∈t.aQ,uR j=some true:=λj hj=>by
 rcases hv.C9.2 j hj with rfl|h
 ·exact a4W
 ·exact bE9 h
theorem CC{t:Table}(hv:TV t):nU t=some true:=by
 have h2:=hv.bk.1;have h3:=hv.C9.1;have ht:=hv.todo;unfold nU;rw[R6 hv.base.small.fits,bY hv.base,aE,aL rfl,cY,
  aYT (f:=λ_=>false) (by omega) (λx hx=>by
   have hx:=hv.bk.2 x hx;unfold RG aFY;rw[JZ,bY hx.1,aE,aL rfl,dD,bY hx.2.1,aE,aL rfl,dD,bY hx.2.2];rfl),aS1 λ_ _=>rfl,aE,aL (by rfl),cY,
  VK (f:=λ_=>false) (by omega) (λj hj=>by grind[RH,aV9]),aS1 λ_ _=>rfl,aE,aL (by rfl),
  aSK (by have:=ht.1;omega) (λq hq=>by have:=(ht.2 q hq).1;omega) (λq hq b hb=>by have:=((ht.2 q hq).2 b hb).2.1;omega),bY ht,aE,aL rfl,dD,bY hv.ser]
 rfl
def EvS(e:J9):Prop:=e.bW.length<=1000/\e.iZ.length<=1000
theorem bMX{e:J9}(h:EvS e):PR e=some e:=by obtain⟨h1,h2⟩:=h;unfold PR lN tH;rw[SW,aE,SW];simp[NX]
theorem bIW{j:aI}(h:j=cO\/JB j):LX j=some j:=by
 have hl:j.Batch.bW.length<=1000/\j.Reads.length<=1000/\j.aH.length<=1000/\j.iZ.length<=1000/\j.eO.length<=1000/\j.bD.length<=1000/\j.bU.length<=1000:=by
  rcases h with rfl|h
  ·simp[cO]
  ·have a1:=h.bat.2.1;have a2:=h.rd2;have a3:=h.wr.1;have a4:=h.res;have a5:=h.at_;have a6:=h.new.1;have a7:=aV7 h;have a8:=h.old.1;omega
 obtain⟨h1,h2,h3,h4,h5,h6,h7⟩:=hl;unfold LX qY oY tH KW;rw[(aYI h1).2,aE,SW,aE,SW,aE,SW,aE,rI (by omega),rI (by omega),rI (by omega)];rfl
theorem a9V{t:Table}(hb:YN t.aA)(hk:t.bZ.length<=1000)(hj:t.aQ.length<=1000/\∀j∈t.aQ,j=cO\/JB j)(ht:t.dQ.length<=1000/\(∀q∈t.dQ,q.List.length<=1000)/\∀q∈t.dQ,∀b∈q.List,b.bW.length<=1000)(hl:t.Log.length<=1000000/\∀e∈t.Log,EvS e):IN t=some t:=by
 unfold IN KV;rw[aX9 hb,aE,SW,aE,(aSL ht.1 ht.2.1 ht.2.2).2,aE];unfold IM;have k2:loop (mX t) (0,(⟨t.aA,[]++t.bZ,[],t.dQ,[],t.aO⟩:Table))=some (⟨t.aA,t.bZ,t.aQ,t.dQ,[],t.aO⟩:Table):=by
  have:=dW (f:=mX t) t.aQ.length (λk=>((k:Int),(⟨t.aA,t.bZ,t.aQ.take k,t.dQ,[],t.aO⟩:Table))) (⟨t.aA,t.bZ,t.aQ,t.dQ,[],t.aO⟩:Table) (λk hk=>by
   simp only[mX];rw[cY,aT hk,aE,bIW (hj.2 _ (cZ hk)),aE,SW];grind[IL,cA,QN]) (by simp[mX])
  grind
 have k3:loop (mW t) (0,(⟨t.aA,t.bZ,t.aQ,t.dQ,[],t.aO⟩:Table))=some t:=by
  have:=dW (f:=mW t) t.Log.length (λk=>((k:Int),(⟨t.aA,t.bZ,t.aQ,t.dQ,t.Log.take k,t.aO⟩:Table))) t (λk hk=>by
   simp only[mW];rw[cY,aT hk,aE,bMX (hl.2 _ (cZ hk)),aE,SW];grind[IK,cA,QN]) (by simp[mW])
  grind
 show(loop (mX t) (0,(⟨t.aA,[]++t.bZ,[],t.dQ,[],t.aO⟩:Table))).bind _=_;rw[k2,aE];show(loop (mW t) (0,(⟨t.aA,t.bZ,t.aQ,t.dQ,[],t.aO⟩:Table))).bind _=_;rw[k3];rfl
def QE(t:Table):Bool:=!(t.aQ.any λj=>j.cR) && !(t.dQ.any λq=>decide (0<(q.List.length:Int)))
theorem aWA{t:Table}(hj:t.aQ.length<=1000)(ht:t.dQ.length<=1000):IU t=some (QE t):=by
 unfold IU QE;rw[VK (f:=λj=>j.cR) (g:=λy0=>KZ y0) hj λ_ _=>rfl,aE];cases (t.aQ.any λj=>j.cR)
 ·rw[aL (by rfl),aAA (f:=λq=>decide (0<(q.List.length:Int))) (g:=λy0=>K0 y0) ht λ_ _=>rfl];rfl
 ·rfl
theorem a1V{t:Table}(hv:TV t):QE t=true↔∀w,j7 w->aFK t w:=by
 have h3:=hv.C9.1;have h4:=hv.todo.1;unfold QE;rw[FM,a2C,a2C,aUU,aUU];constructor
 ·rintro⟨a,b⟩ w hw;refine⟨by grind[FL],?_⟩;have hi:w.toNat<t.dQ.length:=by omega
  simp_all[zD]
 ·intro h;refine⟨λj hj=>?_,λq hq=>?_⟩
  ·obtain⟨i,hi,rfl⟩:=aAS hj;have:=(h i (by omega)).1;grind[aZ]
  ·obtain⟨i,hi,rfl⟩:=aAS hq;have:=(h i (by omega)).2;grind[zD]
def aC7:Nat->Nat->Table->Table
 |0,_,t=>t
 |n+1,k,t=>if QE t then t else aC7 n (k+1) (lB t ((k % 3:Nat):Int))
theorem aYU(k:Nat):j7 ((k % 3:Nat):Int):=by omega
theorem a1W:∀(n k:Nat) (t:Table),k+n=3000->TV t->t.Log.length+n<=1000000->(loop (nM 3000 true) ((k:Int),t)).bind OS=some (aC7 n k t)
 |0,k,t,hk,_,_=>by rw[bB (r:=Out.brk t) (by simp_all[nM])];rfl
 |n + 1,k,t,hk,hv,hl=>by
  have h3:=hv.C9.1;have h4:=hv.todo.1;unfold aC7;cases hi:QE t
  ·have hs:=a04 hv (by omega) (aYU k);rw[bP (s':=(((k+1:Nat):Int),lB t ((k % 3:Nat):Int))) (by
    simp only[nM];rw[cY,aL trivial,aWA (by omega) (by omega),aE,hi,eD,VK (f:=λ_=>false) (by omega) (λj hj=>by grind[vS,aV9]),aS1 λ_ _=>rfl,aE];unfold nL;rw[eD,NB (by omega),show((k:Int) % 3)=((k % 3:Nat):Int) by omega,hs,aE,dM];rfl)]
   rw[eD];refine a1W n (k+1) _ (by omega) (hv.step (aYU k)) ?_;have:=aDS t ((k % 3:Nat):Int);unfold aC4 at this;grind
  ·rw[bB (r:=Out.ret t) (by
    simp only[nM];rw[cY,aL trivial,aWA (by omega) (by omega),aE,hi,aL rfl];rfl),aL rfl];rfl
theorem a9W{t:Table}(hv:TV t)(hl:t.Log.length+3000<=1000000)(he:∀e∈t.Log,EvS e):tM t=some (aC7 3000 0 t):=by have h2:=hv.bk.1;have h3:=hv.C9.1;have h4:=hv.todo;unfold tM;rw[a9V hv.base.small (by omega) ⟨by omega,hv.C9.2⟩ ⟨by have:=h4.1;omega,λq hq=>by have:=(h4.2 q hq).1;omega,λq hq b hb=>by have:=((h4.2 q hq).2 b hb).2.1;omega⟩ ⟨by omega,he⟩,aE,CC hv,aE,aL rfl];have:=a1W 3000 0 t rfl hv hl;unfold K1;rw[show((0:Nat):Int)=0 from rfl] at this;rw[this];rfl
theorem aWB{Ky:List Int}(hK:Ky.length<=8)(P:Table->Prop)(hP:∀t w,TV t->j7 w->P t->P (lB t w))(hser:∀t,P t->t.aO≠1000000):∀(n k:Nat) (q:Int->Nat) (t:Table),TV t->Sft Ky q t->P t->(∀w,j7 w->¬aFK t w->3*aI2 q t w+(w-k) % 3<n)->QE (aC7 n k t)=true/\TV (aC7 n k t)/\P (aC7 n k t)/\∃q',Sft Ky q' (aC7 n k t)
 |0,k,q,t,hv,hs,hp,hn=>⟨(a1V hv).2 λw hw=>Classical.byContradiction λhi=>by
   have:=hn w hw hi;have:=bIV hK hv hs hw hi;omega,hv,hp,q,hs⟩
 |n + 1,k,q,t,hv,hs,hp,hn=>by
  unfold aC7;by_cases hi:QE t=true
  ·grind
  ·rw[aP hi];have hw:=aYU k;refine aWB hK P hP hser n (k+1) (nxQ Ky q t ((k % 3:Nat):Int)) _ (hv.step hw) (hs.step hv hw) (hP t _ hv hw hp) λv hv' hni=>?_;by_cases hid:aFK t ((k % 3:Nat):Int)
   ·obtain⟨e1,e2⟩:=aV8 hK hv hs hw hid;rw[e1] at hni;rw[e1,e2];have:=hn v hv' hni;have hne:v≠((k % 3:Nat):Int):=λe=>hni (e ▸ hid);unfold j7 at hv';omega
   ·obtain⟨a1,a2⟩:=a1S hK hv hs hw (hser t hp) hid;have h0:=hn _ hw hid;by_cases e:v=((k % 3:Nat):Int)
    ·rw[e];omega
    ·obtain⟨b1,b2⟩:=a2 v hv' e;have:=hn v hv' λz=>hni (b2 z);unfold j7 at hv';omega
theorem aS2(f:Batch->Int)(x:Batch):∀l:List Batch,aC6 f (l++[x])=aC6 f l+f x
 |[]=>by simp[aC6]
 |y::r=>by simp only[Y3,aC6,aS2 f x r];omega
theorem bFA(x:Batch):isC x<=1:=by grind[isC]
theorem a1X:∀l:List Batch,aC6 isC l<=l.length
 |[]=>by simp[aC6]
 |x::r=>by have:=a1X r;have:=bFA x;grind[aC6]
def KyD(k:Int):Prop:=(0<=k/\k<=5)\/k=99\/k<0\/99<k
def BaD(x:Batch):Prop:=bC x<=145/\∀y∈x.bW,KyD y.Key
def QuD(m c:Int)(q:aN):Prop:=aC6 bC q.List<=c/\aC6 isC q.List<=m/\(q.List.length:Int)<=m/\∀x∈q.List,x.bW.length<=1000/\∀y∈x.bW,KyD y.Key
theorem aO2{l:List Batch}{m c m' c':Int}(h:QuD m c ⟨l⟩)(hm:m+1<=m'){x:Batch}(hc:c+bC x<=c')(hx:x.bW.length<=1000/\∀y∈x.bW,KyD y.Key):QuD m' c' ⟨l++[x]⟩:=by obtain⟨h1,h2,h3,h4⟩:=h;simp only at h1 h2 h3 h4;have:=bFA x;refine⟨by grind[aS2],by grind[aS2],by grind,λy hy=>?_⟩;grind
theorem aC8{m c m' c':Int}{q:aN}(h:QuD m c q)(hm:m<=m')(hc:c<=c'):QuD m' c' q:=⟨aTD h.1 hc,aTD h.2.1 hm,aTD h.2.2.1 hm,h.2.2.2⟩
section
variable {b:List UInt8} {i h:Int} (hc:Cu b i)
include hc
theorem bJ8:GF (MM ⟨b,i,h⟩) (λx=>KyD x.1.Key/\Cu b x.2.1):=by
 unfold MM G9 G8;refine .bind (aVW hc (by decide) (by decide)) λx1 ⟨_,h1⟩=>.bind (below h1 (by omega)) λx2 ⟨k2,h2⟩=>?_;have hk:KyD x2.1:=.inl (by omega);refine .ite (λ_=>.ite (λ_=>?_) λ_=>.ret ⟨hk,h2⟩) λ_=>.ite (λ_=>?_) λ_=>.ret ⟨hk,h2⟩
 ·exact .bind (below h2 (by omega)) λx7 ⟨_,h7⟩=>.bind (aVW h7 (by simp) (by simp)) λx8 ⟨_,h8⟩=>.ret ⟨hk,h8⟩
 ·exact .bind (below h2 (by omega)) λx7 ⟨_,h7⟩=>.bind (aVW h7 (by simp) (by simp)) λx8 ⟨_,h8⟩=>.ret ⟨hk,h8⟩
theorem bFC:GF (S9 ⟨b,i,h⟩) (λx=>KyD x.1.Key/\Cu b x.2.1):=by
 unfold S9 sP;refine .bind (bJ8 hc) λx1 ⟨k1,h1⟩=>.bind (below h1 (by omega)) λx7 ⟨_,h7⟩=>.ite (λ_=>?_) λ_=>.ite (λ_=>?_) λ_=>.ite (λ_=>?_) λ_=>.ret ⟨k1,h7⟩
 ·exact .bind (aVW h7 (by decide) (by decide)) λx8 ⟨_,h8⟩=>.ret ⟨k1,h8⟩
 ·exact .bind (aVW h7 (by decide) (by decide)) λx8 ⟨k8,h8⟩=>.ret ⟨by grind[KyD],h8⟩
 ·exact .bind (aVW h7 (by decide) (by decide)) λx8 ⟨_,h8⟩=>.ret ⟨k1,h8⟩
theorem bIX:GF (O9 ⟨b,i,h⟩) (λx=>BaD x.1/\x.1.bW.length<=1000/\Cu b x.2.1):=by unfold O9;refine .bind (bOY hc (by omega)) λx1 h1=>.ite (λ_=>.ret ⟨⟨by show(14:Int)<=145;decide,by simp⟩,by simp,h1⟩) λ_=>.bind (below h1 (by omega)) λx2 ⟨hx,h2⟩=>?_;rw[dM];refine .bind (P:=λx=>(x.2.2.length<=3/\∀y∈x.2.2,KyD y.Key)/\Cu b x.1) (.loop (λs=>s.1.toNat) (λs=>(0<=s.1/\s.1+s.2.2.2.length<=3/\∀y∈s.2.2.2,KyD y.Key)/\Cu b s.2.1) ⟨⟨by omega,by simp;omega,by simp⟩,h2⟩ ?_) λ⟨a1,a2,a3⟩ ⟨⟨hx,hy⟩,h3⟩=>.ret ⟨⟨by simp only at hx;unfold bC;grind,hy⟩,by grind,h3⟩;rintro⟨n,i1,h1,l⟩ ⟨⟨n0,n1,n2⟩,hi1⟩;simp only at n0 n1 n2 hi1;simp only[Y8,NO];refine .ite (λq=>?_) (λq=>.ret ⟨⟨by grind,n2⟩,hi1⟩);have q1:=of_decide_eq_true q;refine .bind (bJ8 hi1) λo ⟨ho,h3⟩=>.need (by simp;omega) (.ret ?_);grind[cA]
theorem aWC{m:Int}(hm:0<=m/\m<=12):GF (zH ⟨b,i,h⟩ m) (λx=>(x.1.length=3/\∀q∈x.1,QuD m (m*145) q)/\Cu b x.2.1):=by
 unfold zH;refine .bind (P:=λx=>(x.1.length=3/\∀q∈x.1,QuD m (m*145) q)/\Cu b x.2.1) (.loop (λs=>3-s.2.1.toNat) (λs=>((s.1.length:Int)=s.2.1/\s.2.1<=3/\∀q∈s.1,QuD m (m*145) q)/\Cu b s.2.2.1) ⟨⟨rfl,by simp,by simp⟩,hc⟩ ?_) λx hx=>.ret hx;rintro⟨l,k,i',h'⟩ ⟨⟨e,k3,hq⟩,hi⟩;simp only at e k3 hq hi;simp only[S8];refine .ite (λq=>?_) (λq=>?_)
 ·have q':=of_decide_eq_true q;rw[dM (x:=m+1)];refine .bind (below hi (by omega)) λn ⟨hn,h1⟩=>?_;refine .bind (P:=λx=>QuD m (m*145) ⟨x.2.2⟩/\Cu b x.1) (.loop (λs=>s.1.toNat) (λs=>(0<=s.1/\QuD (m-s.1) ((m-s.1)*145) ⟨s.2.2.2⟩)/\Cu b s.2.1) ⟨⟨hn.1,by grind[QuD,aC6]⟩,h1⟩ ?_) ?_
  ·rintro⟨n,i1,h1,ops⟩ ⟨⟨n0,ho⟩,hi1⟩;simp only at n0 ho hi1;have hol:=ho.2.2.1;simp only at hol;simp only[S6,HA];refine .ite (λq=>?_) (λq=>?_)
   ·have q1:=of_decide_eq_true q;refine .bind (bIX hi1) λo ⟨h0,h2,h3⟩=>.need (by simp;omega) (.ret ?_);have hq:=aO2 (m':=m-(n-1)) (c':=(m-(n-1))*145) ho (by omega) (x:=o.1) (by have:=h0.1;omega) ⟨h2,h0.2⟩;grind[cA]
   ·have q1:¬0<n:=by grind
    exact .ret ⟨aC8 ho (by omega) (by omega),hi1⟩
  ·rintro⟨i1,h1,ops⟩ ⟨ho,hi1⟩;simp only[S7,S5];refine .need (by simp;omega) (.ret ?_);grind[cA]
 ·have q':¬k<3:=by grind
  exact .ret ⟨⟨by grind,hq⟩,hi⟩
def aN6(l:List aN):Prop:=l.length<=3/\∀q∈l,QuD 13 910 q
omit hc in
theorem a1Y{l:List aN}(hl:aN6 l)(k:Nat){q:aN}(hq:QuD 13 910 q):aN6 (l.set k q):=⟨by simpa using hl.1,λx hx=>(rX hx).elim (hl.2 x) (λe=>e ▸ hq)⟩
theorem a4X:GF (EJ ⟨b,i,h⟩) (λx=>aN6 x.1/\Cu b x.2.1):=by
 unfold EJ;refine .bind (aWC hc (by omega)) λx1 ⟨⟨l3,hq⟩,h1⟩=>.bind (below h1 (by omega)) λx5 ⟨_,h5⟩=>?_;have hT:aN6 x1.1:=⟨by omega,λq hq'=>aC8 (hq q hq') (by omega) (by omega)⟩;simp only[lM,QV,FT];refine .ite (λ_=>?_) λ_=>.ite (λ_=>?_) λ_=>.ite (λ_=>?_) λ_=>.ite (λ_=>?_) λ_=>?_
 ·exact .need (by omega) (.ret ⟨⟨by simp;omega,λq hq'=>hT.2 q (a98 (by simpa using hq'))⟩,h5⟩)
 ·refine .bind (.idx (by omega)) λx6 h6=>?_;have h7:=hq _ h6;have:=h7.2.2.1;exact .need (by simp;omega) (.ret ⟨a1Y hT _ (aO2 (m:=5) (c:=5*145) (l:=x6.List) h7 (by omega) (x:=⟨false,[]⟩) (by show _+(19:Int)<=910;omega) ⟨by simp,by simp⟩),h5⟩)
 ·refine .bind (P:=λx=>aN6 x.1/\Cu b x.2.1) (.loop (λs=>20-((s.1.getD 1 ⟨[]⟩).List.length)) (λs=>(s.1.length=3/\∀q∈s.1,QuD 13 (725+14*q.List.length) q)/\Cu b s.2.1) ⟨⟨l3,λq hq'=>aC8 (hq q hq') (by omega) (by omega)⟩,h5⟩ ?_) ?_
  ·rintro⟨l,i1,h1⟩ ⟨⟨l3,hq⟩,hi1⟩;simp only at l3 hq hi1;simp only[QW,FR];have hx:idx l 1=some l[1]:=aT (k:=1) (by omega);have hm:=hq _ (cZ (show 1<l.length by omega));have hm1:=hm.2.2.1;rw[hx];simp only[aE];refine .bind (below hi1 (by omega)) λx ⟨hx2,hi2⟩=>.ite (λq=>?_) (λq=>?_)
   ·have q':=of_decide_eq_true q;rw[dM] at q';refine .need (by simp;omega) (.ret ?_);refine⟨⟨⟨by simp[l3],λx hx=>?_⟩,hi2⟩,?_⟩
    ·rcases rX hx with hx|hx
     ·grind
     ·have:=aO2 (m':=14) (c':=725+14*(l[1].List++[(⟨true,[]⟩:Batch)]).length) (l:=l[1].List) hm (by omega) (x:=⟨true,[]⟩) (by show _+(14:Int)<=_;simp;omega) ⟨by simp,by simp⟩;rw[hx];refine⟨this.1,?_,by simp;omega,this.2.2.2⟩;have h13:=a1X (l[1].List++[(⟨true,[]⟩:Batch)]);grind
    grind
   ·exact .ret ⟨⟨by grind,λq hq'=>aC8 (hq q hq') (by omega) (by have:=(hq q hq').2.2.1;omega)⟩,hi2⟩
  ·rintro⟨l,i1,h1⟩ hx;exact .ret hx
 ·refine .bind (.idx (by omega)) λx25 h25=>.bind (bFC h5) λx26 ⟨k26,h26⟩=>?_;have h7:=hq _ h25;have:=h7.2.2.1;exact .need (by simp;omega) (.ret ⟨a1Y hT _ (aO2 (m:=5) (c:=5*145) (l:=x25.List) h7 (by omega) (x:=⟨false,[x26.1]⟩) (by show _+(1*42+19:Int)<=910;omega) ⟨by simp,by grind⟩),h26⟩)
 ·exact .ret ⟨hT,h5⟩
end
theorem a1Z{code:List UInt8}(hl:code.length<=1048576):GF (vB code) (λx=>aN6 x.dQ/\x.eT.length<=5000):=by unfold vB;refine .bind (bRB hl) λx1 h1=>.bind (aWC h1 (by omega)) λx2 ⟨⟨l3,hq⟩,h2⟩=>.bind (bH8 h2 (by omega)) λx3 ⟨p,h3⟩=>.bind (below h3 (by omega)) λx6 ⟨_,h6⟩=>?_;have hT:aN6 x2.1:=⟨by omega,λq hq'=>aC8 (hq q hq') (by omega) (by omega)⟩;simp only[lK];refine .ite (λ_=>.bind (a4X h6) λx7 ⟨h7,_⟩=>.ret ⟨h7,by grind⟩) λ_=>.ite (λ_=>.need (by simp;omega) (.ret ⟨hT,by simp;omega⟩)) λ_=>.ret ⟨hT,by grind⟩
theorem aN6.bO7{l:List aN}(h:aN6 l):bH7 l:=⟨h.1,λq hq=>⟨by have:=(h.2 q hq).2.2.1;omega,λx hx=>((h.2 q hq).2.2.2 x hx).1⟩⟩
theorem a7P(j:aI)(x:aX):(C7 j x).2.Batch=j.Batch:=by grind[C7,J6]
theorem a7Q(j:aI)(c:kG)(v:Int)(is:Bool):(OD j c v is).Batch=j.Batch:=by
 unfold OD;split
 ·generalize (if is then v else 0)=u;unfold aSB;have h:=a7P j ⟨c.Key,false,aAP u c.fT⟩;split
  ·exact h
  ·exact h
 ·rfl
theorem bIY(j:aI):(aCZ j).Batch=j.Batch:=by grind[aCZ,a7P,a7Q]
theorem bFD(b:aA)(k:List cQ)(w:Int)(j:aI):(O3 b k w j).Batch=j.Batch:=by
 unfold O3;split
 ·split<;>rfl
 ·split
  ·simp
  ·split
   ·split
    ·rfl
    ·split<;>rfl
   ·split
    ·rfl
    ·split
     ·rfl
     ·split
      ·grind[a7Q]
      ·rfl
theorem bIZ(b:aA)(w:Int)(j:aI):(NG b w j).2.Batch=j.Batch:=by
 unfold NG;split
 ·simp
 ·simp only;split
  ·simp
  ·split<;>rfl
theorem bI0(k:List cQ)(w:Int)(j:aI):(VG k w j).2.1.Batch=j.Batch:=by
 unfold VG;split
 ·split
  ·rfl
  ·split
   ·rfl
   ·split<;>rfl
 simp
theorem bI1(k:List cQ)(w:Int)(j:aI):(aEK k w j).Batch=j.Batch:=by
 unfold aEK;split
 ·simp
 ·split<;>rfl
theorem a4Y(j:aI)(x:aX):(VM j x).Batch=j.Batch:=by grind[VM]
theorem bI2(j:aI):(YT j).Batch=j.Batch:=by grind[YT]
theorem bI3(b:aA)(k:List cQ)(j:aI):(J1 b k j).2.2.Batch=j.Batch:=by
 unfold J1;split
 ·simp
 ·split
  ·grind[a4Y]
  ·split
   ·grind[a4Y]
   ·split
    ·grind[a4Y,bI2]
    ·split
     ·rfl
     grind
theorem a7R(j:aI):(YU j).Batch=j.Batch:=by grind[YU]
theorem bI4(k:List cQ)(j:aI):(VH k j).2.Batch=j.Batch:=by grind[VH,a7R]
theorem bI5(b:aA)(w:Int)(j:aI):(SC b w j).2.Batch=j.Batch:=by grind[SC,a7R]
theorem bI6(b:aA)(w:Int)(j:aI):(QC b w j).2.Batch=j.Batch:=by grind[QC]
theorem bI7(b:aA)(w:Int)(j:aI):(C8 b w j).2.Batch=j.Batch:=by grind[C8]
def W5(w:Int)(j:aI)(r:TR):Prop:=
 (r.j.aO=j.aO/\r.j.cR=j.cR/\r.j.Batch=j.Batch/\(r.l=[]\/r.l=[⟨2,w,j.aO,0,[],[]⟩]))\/(¬(j.Pc<19\/19<j.Pc)/\r.j=cO/\r.l=[tlE w j])
theorem bI8(b:aA)(k:List cQ)(w:Int)(j:aI)(hp:0<=j.Pc/\j.Pc<=21):W5 w j (OE b k w j):=by
 unfold OE;refine eE (P:=W5 w j) (λ_=>.inl ⟨(a7E b w j).1,(a7E b w j).2,bI7 b w j,.inl rfl⟩) λ_=>eE (P:=W5 w j) (λ_=>.inl ⟨(a65 j).1,(a65 j).2,bIY j,.inl rfl⟩) λ_=>
  eE (P:=W5 w j) (λ_=>.inl ⟨(a1B b k w j).1,(a1B b k w j).2,bFD b k w j,.inl rfl⟩) λ_=>eE (P:=W5 w j) (λ_=>.inl ⟨(a66 b w j).1,(a66 b w j).2,bIZ b w j,.inl rfl⟩) λ_=>
  eE (P:=W5 w j) (λ_=>.inl ⟨(a67 k w j).1,(a67 k w j).2,bI0 k w j,?_⟩) λ_=>eE (P:=W5 w j) (λ_=>.inl ⟨(a68 k w j).1,(a68 k w j).2,bI1 k w j,.inl rfl⟩) λ_=>
  eE (P:=W5 w j) (λ_=>.inl ⟨(a69 b k j).1,(a69 b k j).2,bI3 b k j,.inl rfl⟩) λ_=>eE (P:=W5 w j) (λ_=>.inl ⟨(a7B k j).1,(a7B k j).2,bI4 k j,.inl rfl⟩) λ_=>
  eE (P:=W5 w j) (λ_=>.inl ⟨(a7C b w j).1,(a7C b w j).2,bI5 b w j,.inl rfl⟩) λ_=>eE (P:=W5 w j) (λ_=>.inl ⟨(a7D b w j).1,(a7D b w j).2,bI6 b w j,.inl rfl⟩) λ_=>
  eE (P:=W5 w j) (λ_=>.inl ⟨rfl,rfl,rfl,.inl rfl⟩) λ_=>eE (P:=W5 w j) (λp=>.inr ⟨by omega,rfl,rfl⟩) λ_=>.inl ⟨rfl,rfl,rfl,.inl rfl⟩
 simp
structure TlJ (l:List J9) (s:Int) (P:List kG->Prop):Prop where
 call:∃c∈l,c.Kind=1/\c.aO=s
 all:∀c∈l,c.Kind=1->c.aO=s->P c.bW
theorem TlJ.app{l:List J9}{s:Int}{P:List kG->Prop}(h:TlJ l s P){m:List J9}(hm:∀x∈m,x.Kind=1->x.aO≠s):TlJ (l++m) s P:=by obtain⟨⟨c,hc,h1⟩,h2⟩:=h;refine⟨⟨c,aPB _ hc,h1⟩,λx hx k e=>?_⟩;grind
def kT(l:List J9):Int:=(l.countP λe=>e.Kind == 3:Nat)
def aEO(t:Table)(v:Int):Int:=if(aZ t v).cR then 1 else 0
def SY(t:Table)(v:Int):Int:=(zD t v).length
def bO8(e:J9)(c:List kG):Prop:=if e.Code=0 then e.iZ.length=c.length else e.iZ=[]
structure TlT (n:Int) (t:Table):Prop where
 ev:∀e∈t.Log,EvS e/\e.aO<=t.aO
 job:∀w,j7 w->(aZ t w).cR=true->(aZ t w).aO<=t.aO/\TlJ t.Log (aZ t w).aO (·=(aZ t w).Batch.bW)
 tell:∀e∈t.Log,e.Kind=3->(e.Code=0\/e.Code=3\/e.Code=6\/e.Code=7)/\TlJ t.Log e.aO (bO8 e)
 sum:kT t.Log+SH (aEO t)+SH (SY t)=n
 ser:t.aO+SH (SY t)=n
theorem aO3{f g:Int->Int}{w:Int}(hw:j7 w)(hg:∀v,j7 v->v≠w->g v=f v):SH g+f w=SH f+g w:=by grind[SH]
theorem bFE(l m:List J9):kT (l++m)=kT l+kT m:=by grind[kT]
theorem TlT.zero{l:List aN}{n:Int}(hn:SH (SY (eX l))=n):TlT n (eX l):=by
 have hj:∀w,j7 w->(aZ (eX l) w).cR=false:=λw hw=>by rcases(by omega:w=0\/w=1\/w=2) with rfl|rfl|rfl<;>rfl
 have h0:SH (aEO (eX l))=0:=rfl;have e0:(eX l).Log=[]:=rfl;refine⟨λe he=>?_,λw hw h=>?_,λe he=>?_,?_,?_⟩
 ·grind
 ·grind
 ·grind
 ·grind[kT]
 ·rw[hn];show(0:Int)+n=n;omega
theorem TlT.step{Ky:List Int}{q:Int->Nat}{t:Table}{n:Int}(hv:TV t){w:Int}(hw:j7 w)(hs:Sft Ky q t)(h:TlT n t):TlT n (lB t w):=by
 have h3:=hv.C9.1;have h4:=hv.todo.1;have hJ:(aZ t w).cR=true->JB (aZ t w):=λhB=>(hv.C9.2 _ (FL h3 hw)).resolve_left λe=>by rw[e] at hB;cases hB
 obtain⟨c,sv⟩:=hs.sv;unfold lB;by_cases hB:(aZ t w).cR=true
 ·rw[aL hB];have tw:=sv.tw w hw hB;have jb:=hJ hB;obtain⟨js,jt⟩:=h.job w hw hB;have hd:=bI8 t.aA t.bZ w (aZ t w) tw.pc;generalize OE t.aA t.bZ w (aZ t w)=r at hd;have ej:∀v,j7 v->aZ (QD t w r) v=if v=w then r.j else aZ t v:=λv hv'=>a7F h3 rfl hw hv';have eq:SY (QD t w r)=SY t:=rfl;have el:(QD t w r).Log=t.Log++r.l:=rfl;have es:(QD t w r).aO=t.aO:=rfl;have hne:∀x∈r.l,x.Kind≠1:=λx hx=>by
   rcases hd with ⟨_,_,_,e|e⟩|⟨_,_,e⟩<;>rw[e] at hx
   ·cases hx
   ·grind
   ·rw[KD.1 hx];exact(by decide:(3:Int)≠1)
  have keep:∀{s:Int} {P:List kG->Prop},TlJ t.Log s P->TlJ (t.Log++r.l) s P:=λa=>a.app λx hx k=>absurd k (hne x hx);have hlen:(tlE w (aZ t w)).Code=0->((tlE w (aZ t w)).iZ.length:Int)=(aZ t w).At/\(tlE w (aZ t w)).iZ=(aZ t w).iZ:=λe=>by have e':(aZ t w).Code=0:=e;simp only[tlE,aL e'];exact⟨jb.res,trivial⟩
  have hbl:=jb.at_;have hb6:=jb.bat.2.1;have hres:=jb.res;refine⟨λe he=>?_,λv hv' hb'=>?_,λe he k=>?_,?_,?_⟩
  ·rw[el] at he;rw[es];rcases eS.1 he with he|he
   ·exact h.ev e he
   ·rcases hd with ⟨_,_,_,e1|e1⟩|⟨_,_,e1⟩<;>rw[e1] at he
    ·cases he
    ·rw[KD.1 he];exact⟨⟨by simp,by simp⟩,js⟩
    ·rw[KD.1 he];refine⟨⟨by simp[tlE],?_⟩,js⟩;show(if(aZ t w).Code=0 then(aZ t w).iZ else []).length<=1000;grind
  ·rw[el,es];rw[ej v hv'] at hb' ⊢;by_cases e:v=w
   ·rw[aL e] at hb' ⊢;rcases hd with ⟨s1,s2,s3,_⟩|⟨_,s1,_⟩
    ·grind
    ·rw[s1] at hb';cases hb'
   ·rw[aP e] at hb' ⊢;exact⟨(h.job v hv' hb').1,keep (h.job v hv' hb').2⟩
  ·rw[el] at he ⊢;rcases eS.1 he with he|he
   ·exact⟨(h.tell e he k).1,keep (h.tell e he k).2⟩
   ·rcases hd with ⟨_,_,_,e1|e1⟩|⟨p19,_,e1⟩<;>rw[e1] at he
    ·cases he
    ·grind
    ·rw[KD.1 he];have cd:=tw.cd;have at1:=tw.at_;refine⟨?_,keep ⟨jt.call,λc hc kc ec=>?_⟩⟩
     ·show(aZ t w).Code=0\/(aZ t w).Code=3\/(aZ t w).Code=6\/(aZ t w).Code=7;omega
     ·rw[jt.all c hc kc ec];unfold bO8;by_cases z:(aZ t w).Code=0
      ·rw[aL (show(tlE w (aZ t w)).Code=0 from z),(hlen z).2];omega
      ·rw[aP (show ¬(tlE w (aZ t w)).Code=0 from z)];show(if(aZ t w).Code=0 then(aZ t w).iZ else [])=[];grind
  ·rw[el,eq,bFE];have a:=aO3 (f:=aEO t) (g:=aEO (QD t w r)) hw λv hv' hn=>by simp_all[aEO]
   have b:aEO (QD t w r) w=if r.j.cR then 1 else 0:=by simp_all[aEO]
   have b':aEO t w=1:=by simp_all[aEO]
   have s:=h.sum;rcases hd with ⟨_,s2,_,e1|e1⟩|⟨_,s1,e1⟩
   ·simp_all[kT]
   ·simp_all[kT]
   ·rw[s1,aP (by decide)] at b;grind[kT,tlE]
  ·rw[eq,es];exact h.ser
 ·rw[aP hB];by_cases hq:(zD t w).length=0\/t.aO=1000000
  ·grind
  ·rw[aP hq];have hmem:(zD t w).getD 0 ⟨false,[]⟩∈zD t w:=by grind
   have hb6:((zD t w).getD 0 ⟨false,[]⟩).bW.length<=6:=by
    have hi:w.toNat<t.dQ.length:=by omega
    have hq:=hv.todo.2 _ (cZ hi);have e:zD t w=t.dQ[w.toNat].List:=by grind[zD]
    exact(hq.2 _ (e ▸ hmem)).2.1
   generalize (zD t w).getD 0 ⟨false,[]⟩=b at hb6;have ej:∀v,j7 v->aZ (SX t w b) v=if v=w then m0 b (t.aO+1) else aZ t v:=λv hv'=>a7F h3 rfl hw hv';have eqq:∀v,j7 v->SY (SX t w b) v=if v=w then(((zD t w).drop 1).length:Int) else SY t v:=λv hv'=>by grind[SY,zD,SX]
   have el:(SX t w b).Log=t.Log++[⟨1,w,t.aO+1,0,b.bW,[]⟩]:=rfl;have es:(SX t w b).aO=t.aO+1:=rfl;have keep:∀{s:Int} {P:List kG->Prop},s<=t.aO->TlJ t.Log s P->TlJ (t.Log++[⟨1,w,t.aO+1,0,b.bW,[]⟩]) s P:=λhs a=>a.app λx hx k=>by grind
   refine⟨λe he=>?_,λv hv' hb'=>?_,λe he k=>?_,?_,?_⟩
   ·rw[el] at he;rw[es];rcases eS.1 he with he|he
    ·have:=h.ev e he;grind
    ·rw[KD.1 he];exact⟨⟨by grind,by simp⟩,O4 _⟩
   ·rw[el,es];rw[ej v hv'] at hb' ⊢;by_cases e:v=w
    ·rw[aL e];refine⟨O4 _,⟨⟨_,aPC _ (KD.2 rfl),rfl,rfl⟩,λc hc kc ec=>?_⟩⟩;rcases eS.1 hc with hc|hc
     ·have:=(h.ev c hc).2;have ec':c.aO=t.aO+1:=ec;omega
     ·rw[KD.1 hc];rfl
    ·rw[aP e] at hb' ⊢;obtain⟨a,b⟩:=h.job v hv' hb';grind
   ·rw[el] at he ⊢;rcases eS.1 he with he|he
    ·exact⟨(h.tell e he k).1,keep (h.ev e he).2 (h.tell e he k).2⟩
    grind
   ·rw[el,bFE];have a:=aO3 (f:=aEO t) (g:=aEO (SX t w b)) hw λv hv' hn=>by simp_all[aEO]
    have a':=aO3 (f:=SY t) (g:=SY (SX t w b)) hw λv hv' hn=>by grind
    have b1:aEO (SX t w b) w=1:=by unfold aEO;rw[ej w hw,aL rfl];rfl
    have b':aEO t w=0:=by simp_all[aEO]
    have c1:=eqq w hw;rw[aL rfl,aEQ] at c1;have c2:SY t w=(zD t w).length:=rfl;have s:=h.sum;grind[kT]
   ·rw[es];have a':=aO3 (f:=SY t) (g:=SY (SX t w b)) hw λv hv' hn=>by grind
    have c1:=eqq w hw;rw[aL rfl,aEQ] at c1;have c2:SY t w=(zD t w).length:=rfl;have s:=h.ser;omega
theorem a10:∀(n k:Nat) (t:Table),(aC7 n k t).Log.length<=t.Log.length+n
 |0,_,t=>lR _
 |n + 1,k,t=>by
  unfold aC7;split
  ·omega
  ·have:=a10 n (k+1) (lB t ((k % 3:Nat):Int));have h:=aDS t ((k % 3:Nat):Int);unfold aC4 at h;grind
def Ky7:List Int:=[0,1,2,3,4,5,99]
theorem bPA{k:Int}(h:KyD k)(v:0<=k/\k<=99):k∈Ky7:=by grind[KyD,Ky7]
theorem bPB{l:List aN}(hd:aN6 l)(ht:aC0 l):Sft Ky7 (λ_=>0) (eX l):=Sft.zero λq hq b hb x hx=>bPA ((hd.2 q hq).2.2.2 b hb |>.2 x hx) ((((ht.2 q hq).2 b hb).2.2.1 x hx).2.1)
theorem bPC{l:List aN}(hd:aN6 l){w:Int}(hw:j7 w):aI2 (λ_=>0) (eX l) w<=999:=by
 have ej:∀v,j7 v->aZ (eX l) v=cO:=λv hv=>by rcases(by omega:v=0\/v=1\/v=2) with rfl|rfl|rfl<;>rfl
 have eq:∀v:Int,QuD 13 910 ⟨zD (eX l) v⟩:=λv=>by
  show QuD 13 910 ⟨(l.getD v.toNat ⟨[]⟩).List⟩;rw[OI];cases e:l[v.toNat]? with
  |none=>simp[QuD,aC6]
  |some q=>exact hd.2 q (CE e)
 have eb:∀v,j7 v->0<=CK (eX l) v/\CK (eX l) v<=13:=λv hv=>by have h1:=aI3 a7O (zD (eX l) v);have h2:=(eq v).2.1;unfold CK;rw[ej v hv,aP (λq=>by cases q.1)];grind
 have er:kU (eX l).aA w=0:=by rcases(by omega:w=0\/w=1\/w=2) with rfl|rfl|rfl<;>rfl
 have eo:a1Q (λ_=>0) (eX l) w<=910:=by unfold a1Q;rw[ej w hw,er];have h1:=(eq w).1;grind[cM,cO]
 have b0:=eb 0 (by simp[j7]);have b1:=eb 1 (by simp[j7]);have b2:=eb 2 (by simp[j7]);unfold aI2 SH;rcases(by omega:w=0\/w=1\/w=2) with rfl|rfl|rfl<;>omega
def PlT(n:Int)(t:Table):Prop:=TlT n t/\∃q,Sft Ky7 q t
def PhT(n:Int)(t:Table):Prop:=TlT n t/\∃q,Sft Ky7 q t/\∀w,j7 w->¬aFK t w->aI2 q t w<=999
theorem a11(t:Table):0<=SH (SY t):=by grind[SH,SY]
theorem PlT.step{n:Int}{t:Table}{w:Int}(hv:TV t)(hw:j7 w)(h:PlT n t):PlT n (lB t w):=by obtain⟨a,q,b⟩:=h;exact⟨a.step hv hw b,_,b.step hv hw⟩
theorem PhT.step{n:Int}(hn:n<=100){t:Table}{w:Int}(hv:TV t)(hw:j7 w)(h:PhT n t):PhT n (lB t w):=by
 obtain⟨a,q,b,c⟩:=h;refine⟨a.step hv hw b,_,b.step hv hw,λv hv' hi=>?_⟩;have hser:t.aO≠1000000:=by have:=a.ser;have:=a11 t;omega
 by_cases hid:aFK t w
 ·obtain⟨e1,e2⟩:=aV8 (by decide) hv b hw hid;grind
 ·obtain⟨a1,a2⟩:=a1S (by decide) hv b hw hser hid;grind
theorem bRG{l:List aN}(hd:aN6 l)(ht:aC0 l)(p:List Int)(hp:p.length<=400):tM (SF (eX l) p)=some (aC7 3000 0 (SF (eX l) p))/\QE (aC7 3000 0 (SF (eX l) p))=true/\TV (aC7 3000 0 (SF (eX l) p))/\PlT (SH (SY (eX l))) (aC7 3000 0 (SF (eX l) p))/\(aC7 3000 0 (SF (eX l) p)).Log.length<=3400:=by
 have hn:SH (SY (eX l))<=100:=by
  have:∀v:Int,SY (eX l) v<=13:=λv=>by
   show(((l.getD v.toNat ⟨[]⟩).List.length:Nat):Int)<=13;rw[OI];cases e:l[v.toNat]? with
   |none=>simp
   |some q=>exact(hd.2 q (CE e)).2.2.1
  grind[SH]
 obtain⟨v,a,q,b,c⟩:=aGQ (P:=PhT (SH (SY (eX l)))) (λt w hv hw h=>h.step hn hv hw) p (aKR ht) ⟨.zero rfl,_,bPB hd ht,λw hw _=>bPC hd hw⟩;have hl:=aV1 p (eX l);rw[show(eX l).Log.length=0 from rfl] at hl;generalize SF (eX l) p=t at v a b c hl;obtain⟨g1,g2,g3,_⟩:=aWB (by decide) (PlT (SH (SY (eX l)))) (λt w hv hw h=>h.step hv hw) (λt h=>by have:=h.1.ser;have:=a11 t;omega) 3000 0 q t v b ⟨a,q,b⟩ λw hw hi=>by grind
 have:=a10 3000 0 t;exact⟨a9W v (by omega) λe he=>(a.ev e he).1,g1,g2,g3,by omega⟩
theorem kS.cls{m:Mem}{x:Int}(h:kS m x):0<=bI m.Heap (x % 32)/\kC x:=⟨dU h.1.2.1,h.1.1⟩
theorem aS3{m:Mem}(hm:kR m):∀(r:List Int) (done:List Int) (x:Int),ChT m x r->(done++r).Nodup->done.length+r.length<=1000->loop (FC m) (done,x)=some (Out.brk (done++r))
 |[],done,x,h,hn,hl=>by refine bB ?_;have hx:x=0:=h;simp_all[FC]
 |a::r,done,x,h,hn,hl=>by
  obtain⟨rfl,hw,hk,hc⟩:=h;obtain⟨hcl,hh⟩:=hw.cls;obtain⟨c,e,hc0⟩:=aCY hm x;have hx0:x≠0:=by have:=hh.1;omega
  have hnot:x∉done:=λq=>by grind
  simp only[OJ] at hl;rw[bP (s':=(done++[x],(fQ m x).Next)) (by
   simp only[FC];rw[aL (by grind),e,aE,hc0.2 hw,eD,contains_eq (by grind[maxLen]),aE,eF hnot];unfold FB;rw[eD,show Int.tmod x 32=x % 32 from Int.tmod_eq_emod_of_nonneg (by have:=hh.1;omega),aVT hm.1.1.1 hcl hw.2,aE,aVV,aE,bY (show aKN (aCW m.Heap (x % 32)) from hk),eD,SW];rfl)]
  rw[aS3 hm r (done++[x]) _ hc (by grind) (by simp;omega)];simp
theorem aYV{m:Mem}(hm:kR m)(hb:m.Heap.Bytes.length<=maxLen)(ha:(eG m.aC).length<=1073741824){x:Int}{l:List Int}(h:ChT m x l)(hn:l.Nodup)(hl:l.length<=1000):I6 m x=some (l,true):=by unfold I6;rw[EC hb ha,bY hm,aE,eD,aS3 hm l [] x h (by grind) (by grind)];rfl
def OG:List Int->Int->List Int
 |[],x=>[x]
 |a::t,x=>if a=x then a::t else if x<a then x::a::t else a::OG t x
theorem aS4(y x:Int):∀l:List Int,y∈OG l x↔y=x\/y∈l
 |[]=>by simp[OG]
 |a::t=>by
  unfold OG;split
  ·grind
  split
  ·simp
  ·rw[lW,lW,aS4 y x t];grind
theorem aC9(x:Int):∀{l:List Int},l.Pairwise (· < ·)->(OG l x).Pairwise (· < ·)
 |[],_=>List.pairwise_singleton _ _
 |a::t,h=>by
  have h':=aG0.1 h;unfold OG;split
  ·exact h
  split
  ·grind[aG0]
  ·rename_i h1 h2;rw[aG0];refine⟨λy hy=>?_,aC9 x h'.2⟩;grind[aS4]
theorem aS5{x:Int}:∀{l:List Int},x∉l->(OG l x).length=l.length+1
 |[],_=>rfl
 |a::t,h=>by
  unfold OG;rw[aP (λe=>h (by grind))];split
  ·rfl
  ·rw[OJ,aS5 (λz=>h (qJ _ z))];rfl
theorem aS6{x:Int}:∀{l:List Int},l.Pairwise (· < ·)->x∈l->OG l x=l
 |[],_,h=>by cases h
 |a::t,hp,h=>by
  have h':=aG0.1 hp;unfold OG;split
  ·rfl
  ·rename_i ne;have ht:x∈t:=by grind
   have:=h'.1 x ht;rw[nC,aS6 h'.2 ht]
section
variable {l:List Int} (hl:l.length<=1000) {x:Int}
include hl
theorem a12:∀d k:Nat,k+d=l.length->(∀y∈l.drop k,y≠x)->∀out:List Int,out.length<=100000+k->loop (kN l x) (out,true,(k:Int))=some (Out.brk (out++l.drop k,true))
 |0,k,hk,_,out,_=>by simp_all[bB,kN]
 |d + 1,k,hk,hy,out,ho=>by
  have hkl:k<l.length:=by omega
  have hd:l.drop k=l[k]::l.drop (k+1):=zF hkl;have ne:(l[k] == x)=false:=by grind
  rw[bP (s':=(out++[l[k]],true,((k+1:Nat):Int))) (by
   simp only[kN,tX,tW];rw[cY,aT hkl,aE,ne];simp only[bN,bL,iN,aE];grind[b9,cA]),a12 d (k+1) (by omega) (λy h=>hy y (by grind)) (out++[l[k]]) (by simp;omega),hd,pK]
  rfl
theorem a13:∀d k:Nat,k+d=l.length->(l.drop k).Pairwise (· < ·)->∀out:List Int,out.length<=50000+k->((loop (kN l x) (out,false,(k:Int))).bind λo=>AJ x o)=some (if x∈l.drop k then l else out++OG (l.drop k) x)
 |0,k,hk,_,out,ho=>by rw[bB (r:=Out.brk (out,false)) (by simp_all[kN]),aE];simp only[AJ,RM,AI];rw[List.drop_of_length_le (by omega),aL (by simp),SW,eD];rfl
 |d + 1,k,hk,hp,out,ho=>by
  have hkl:k<l.length:=by omega
  have hd:l.drop k=l[k]::l.drop (k+1):=zF hkl;have hp':=hp;rw[hd] at hp';obtain⟨h1,h2⟩:=aG0.1 hp';by_cases e:l[k]=x
  ·simp_all[bB,kN,aT,AJ]
  have ne:(l[k] == x)=false:=by grind
  by_cases g:x<l[k]
  ·have hx:∀y∈l.drop (k+1),y≠x:=λy hy=>by grind
   rw[bP (s':=(out++[x]++[l[k]],true,((k+1:Nat):Int))) (by
    simp only[kN,tX,tW];rw[cY,aT hkl,aE,ne,bY g];simp only[bN,bL,KO,bR,aE];grind[b9,cA]),a12 hl d (k+1) (by omega) hx _ (by simp;omega),aE]
   simp only[AJ,RM,AI,iN,bN,bL];rw[aP (by grind),hd];unfold OG;grind
  ·rw[bP (s':=(out++[l[k]],false,((k+1:Nat):Int))) (by
    simp only[kN,tX,tW];rw[cY,aT hkl,aE,ne,eF g];simp only[bN,bL,KO,bR,aE];grind[b9,cA]),a13 d (k+1) (by omega) h2 (out++[l[k]]) (by simp;omega),hd]
   have eI:OG (l[k]::l.drop (k+1)) x=l[k]::OG (l.drop (k+1)) x:=by
    conv=>lhs;unfold OG
    grind
   grind
theorem put_eq(hp:l.Pairwise (· < ·)):uU l x=some (OG l x):=by have:=a13 hl (x:=x) l.length 0 (by omega) (by grind) [] (by simp);simp_all[uU,aS6]
end
def jD(f:Int->List Int):Nat->List Int
 |0=>[]
 |k+1=>jD f k++f k
def OH(l:List Int):List Int:=l.foldl OG []
theorem bJA(a b:List Int):OH (a++b)=b.foldl OG (OH a):=List.foldl_append
theorem aGV(l:List Int):(OH l).Pairwise (· < ·)/\(∀x,x∈OH l↔x∈l)/\(OH l).length<=l.length/\(l.Nodup->(OH l).length=l.length):=by
 suffices h:∀(l a:List Int),a.Pairwise (· < ·)->(l.foldl OG a).Pairwise (· < ·)/\(∀x,x∈l.foldl OG a↔x∈a\/x∈l)/\(l.foldl OG a).length<=a.length+l.length/\((a++l).Nodup->(l.foldl OG a).length=a.length+l.length) by have:=h l [] .nil;grind[OH]
 intro l;induction l with
 |nil=>simp
 |cons y l ih=>
  intro a ha;obtain⟨h1,h2,h3,h4⟩:=ih (OG a y) (aC9 y ha);have hm:=λx=>aS4 x y a;have hle:(OG a y).length<=a.length+1:=by
   by_cases m:y∈a
   ·rw[aS6 ha m];omega
   ·rw[aS5 m];omega
  refine⟨h1,λx=>by grind,by grind,λhn=>?_⟩;have hy:y∉a:=by grind
  have e:=aS5 hy;rw[List.foldl_cons,h4,e]
  ·grind
  ·have hs:(OG a y).Nodup:=(aC9 y ha).imp λh=>by omega
   grind
theorem aO4{l:List Int}(h:l.length<=12)(h0:0∉l):mF l=some (OH l):=by grind[aX1,aRL,aGV]
theorem a7S{l:List Int}(h:l.length<=1000)(x:Int):uU (OH l) x=some (OH (l++[x])):=by grind[aGV,put_eq,bJA]
theorem aOB{a b:List Int}(ha:a.length<=1000)(hb:b.length<=1000):mY [a,b]=some (a++b):=by
 have i0:idx [a,b] 0=some a:=rfl;have i1:idx [a,b] 1=some b:=rfl;have k1:loop (mJ [a,b]) (0,0)=some ((a.length:Int)+b.length):=by
  rw[bP (s':=((a.length:Int),1)) (by simp only[mJ];rw[aL (by simp),i0,aE];grind[cA]),
   bP (s':=((a.length:Int)+b.length,2)) (by simp only[mJ];rw[aL (by simp),i1,aE];grind[cA]),bB (r:=(a.length:Int)+b.length) (by simp[mJ])]
 have k2:loop (mI [a,b]) ([],0)=some (a++b):=by
  rw[bP (s':=(a,1)) (by simp only[mI];rw[aL (by simp),i0,aE,b9 (by grind)];grind[cA]),
   bP (s':=(a++b,2)) (by simp only[mI];rw[aL (by simp),i1,aE,J5];grind[cA]),bB (r:=a++b) (by simp[mI])]
 have g:aG6 Int ((a.length:Int)+b.length)=some []:=by unfold aG6;rw[J5,aP (by grind)];simp
 unfold mY;rw[k1,aE];show(aG6 Int _).bind _=_;rw[g,aE,k2];rfl
def VL(c:Int->List Int)(J:Int->aI):List Int:=jD c 2++jD (λv=>own (J v)) 3
section
variable {Ky:List Int} {b:aA} {k:List cQ} {c:Int->List Int} {q:Int->Nat} {J:Int->aI} (h:uV Ky b k c q J)
include h
theorem aYW(s:Int):csL (VL c J) s=ind b s:=by rw[<-h.cnt s];grind[VL,jD,YX,cnC,cnO]
theorem a4Z{x:Int}(hx:x∈VL c J):kS b.Mem x/\¬bD b.aM (x % 32):=by
 refine⟨?_,?_⟩
 ·have:x∈c 0\/x∈c 1\/x∈own (J 0)\/x∈own (J 1)\/x∈own (J 2):=by grind[VL,jD]
  rcases this with m|m|m|m|m
  ·exact((h.ch 0 (by simp[W3])).all x m).1
  ·exact((h.ch 1 (by simp[W3])).all x m).1
  ·exact h.ok 0 (by simp[j7]) x m
  ·exact h.ok 1 (by simp[j7]) x m
  ·exact h.ok 2 (by simp[j7]) x m
 ·have:=OF hx;rw[aYW h] at this;grind[ind]
theorem aYX:((VL c J).map (· % 32)).Nodup:=List.nodup_iff_count.2 λs=>by have:=aYW h s;grind[csL,ind]
theorem aWD:(VL c J).Nodup:=(List.pairwise_map.1 (aYX h)).imp λh e=>h (by rw[e])
theorem aDW{x:Int}(hx:x∈VL c J):(0<=x % 32/\x % 32<24)/\x % 32 % 4<2/\x≠0:=by obtain⟨⟨lv,h10⟩,_⟩:=a4Z h hx;obtain⟨a,e,f⟩:=sM (dU lv.2.1);rw[f] at h10;have:=lv.1;grind[kC,cK,iA]
theorem Y1:(VL c J).length<=12:=by
 have e:=aV3 (p:=λi:Nat=>decide ((i:Int)∈(VL c J).map (· % 32))) (n:=24) (aYX h) (λx hx=>by
  grind[aDW]) (λi _=>by simp)
 rw[List.length_map] at e;rw[<-e];unfold aYL;refine qK (m:=((List.range 24).filter λi:Nat=>decide (i % 4<2)).length) ?_ (by decide);rw[<-List.countP_eq_length_filter,<-List.countP_eq_length_filter];refine List.countP_mono_left λi _ hi=>?_;obtain⟨y,hy,e⟩:=VN.1 (of_decide_eq_true hi);grind[aDW]
theorem aWE:(mO b 24).getD 4 0=((VL c J).length:Int):=by
 rw[a9J b 24 4 (by omega),aV3 (l:=(VL c J).map (· % 32)) (aYX h) (λx hx=>?_) (λi hi=>?_),List.length_map]
 ·grind[aDW]
 ·have:=aYW h i;unfold csL at this;rw[decide_eq_true_iff,<-List.count_pos_iff,this];have:=aSO b.Mem i;grind[ind,rW]
end
theorem bFF{m:Mem}(hm:kR m):∀(r:List Int) (done:List Int) (x:Int),ChT m x r->(done++r).Nodup->done.length+r.length<=1000->loop (BU m) (done,x)=some (Out.brk (done++r))
 |[],done,x,h,hn,hl=>by refine bB ?_;have hx:x=0:=h;simp_all[BU]
 |a::r,done,x,h,hn,hl=>by
  obtain⟨rfl,hw,hk,hc⟩:=h;obtain⟨hcl,hh⟩:=hw.cls;obtain⟨hcnt,h3,h9,h384,h6,hsm,_⟩:=kR.facts hm;have hs:=hm.1.1.1;have hr:=(C6 hcl hw.2).1;have hx0:x≠0:=by have:=hh.1;omega
  have hnot:x∉done:=λq=>(aK1.1 hn).2.2 x q x (by simp) rfl;have ld:IZ m (uN m.Heap (x % 32):Int)=some (fQ m x):=by
   unfold IZ fQ aCW;rw[show(2:Int)=((2:Nat):Int) from rfl,show(4:Int)=((4:Nat):Int) from rfl,A1 hs.2.2.1 (by omega) (by omega) (by omega),aE,dM,show(uN m.Heap (x % 32):Int)+((2:Nat):Int)=((uN m.Heap (x % 32)+2:Nat):Int) by omega,
    A1 hs.2.2.1 (by omega) (by omega) (by omega),aE,dM,show(uN m.Heap (x % 32):Int)+6=((uN m.Heap (x % 32)+6:Nat):Int) by omega,A1 hs.2.2.1 (by omega) (by omega) (by omega)];rfl
  have sp:P0 m x=some ((uN m.Heap (x % 32):Int),0):=by unfold P0 E7;have:=YM hcl;rw[i4,aE,bY hh,eD,gK,aL hh,aE,nD hs,aE,SU,aE,nD hs,aE,RZ,aE,aP (by simpa using hw.2),aE,(start_eq hs hcl).1,aE];grind[uN]
  have nd:TX (fQ m x)=some true:=by unfold TX AK;rw[cN,aE,bY hk.1,aL rfl,cN,aE,bY hk.2.1,aL rfl,QA,aE,bY hk.2.2]
  simp only[OJ] at hl;rw[bP (s':=(done++[x],(fQ m x).Next)) (by
   simp only[BU];rw[aL (by grind),qG hs (by omega) (by grind[maxLen]) (by grind[maxLen]),aE,bY hw.1,eD,yD (by grind[maxLen]),aE,eF hnot];unfold BT;rw[eD,sp,aE,eD,ld,aE,nd,aE];unfold BS;rw[eD,SW,ld];rfl)]
  rw[bFF hm r (done++[x]) _ hc (by grind) (by simp;omega)];simp
theorem aS7{f:Int->List Int}{x:Int}:∀{n:Nat},x∈jD f n↔∃i:Nat,i<n/\x∈f i
 |0=>by simp[jD]
 |n + 1=>by rw[jD,eS,aS7];grind
theorem Y2{f:Int->List Int}{m:Nat}:∀{n:Nat},(∀i:Nat,i<n->(f i).length<=m)->(jD f n).length<=n*m
 |0,_=>by simp[jD]
 |n + 1,h=>by have:=Y2 (n:=n) λi hi=>h i (by omega);grind[jD]
theorem a7T{f:List Int×Int->Option (Step (List Int×Int) (List Int))}{a l:List Int}(hl:a.length+l.length<=1000)
  (hf:∀o (k:Nat),f (o,(k:Int))=if h:k<l.length then(uU o l[k]).bind λz=>some (.next (z,aY ((k:Int)+1))) else some (.stop o)):loop f (OH a,0)=some (OH (a++l)):=by
 have:=dW (f:=f) l.length (λk=>(OH (a++l.take k),(k:Int))) (OH (a++l)) (λk hk=>by
  rw[hf,dif_pos hk,a7S (by simp;omega),aE,dM,QN hk];simp) (by grind)
 grind
section
variable {Ky:List Int} {t:Table} {c:Int->List Int} {q:Int->Nat} (hv:TV t) (h:uV Ky t.aA t.bZ c q (aZ t))
include hv h
theorem aS8{i:Int}(hi:W3 i):(c i).length<=12/\(c i).Nodup:=by have h1:=Y1 h;grind[aWD,VL,jD]
theorem aYY{v:Int}(hw:j7 v):(own (aZ t v)).length<=12:=by have h1:=Y1 h;grind[VL,jD]
theorem bFG:TZ t=some ([c 0,c 1],true):=by
 have hm:=hv.base.1.1;obtain⟨hcnt,h3,h9,h384,_⟩:=kR.facts hm;have k2:=hv.bk.1;have e:∀i:Int,W3 i->idx t.bZ i=some (iK t.bZ i)/\I6 t.aA.Mem (iK t.bZ i).Head=some (c i,true):=λi hi=>by obtain⟨a,b⟩:=aS8 hv h hi;refine⟨?_,aYV hm (by grind[maxLen]) (by omega) (h.ch i hi) b (by omega)⟩;grind[iC,iK]
 have key:loop (AM t) (([]:List (List Int)),0)=some (Out.brk [c 0,c 1]):=by
  rw[bP (s':=([c 0],1)) (by simp_all[AM,cA,b9]),
   bP (s':=([c 0,c 1],2)) (by simp_all[AM,cA,b9]),bB (r:=Out.brk [c 0,c 1]) (by grind[AM])]
 unfold TZ;rw[CC hv,aE,eD,key];rfl
theorem bFH:T0 t=some (OH (jD c 2)):=by have a:=(aS8 hv h (i:=0) (by simp[W3])).1;have b:=(aS8 hv h (i:=1) (by simp[W3])).1;have l1:=Y1 h;have hz:=λhx=>(aDW h (x:=0) hx).2.2 rfl;grind[VL,T0,bFG,aOB,jD,aO4]
theorem bFI:TY t=some (OH (jD c 2)):=by
 have hm:=hv.base.1.1;have k2:=hv.bk.1;have l1:=Y1 h;unfold VL at l1;simp only[DA] at l1;have key:loop (AL t) (([]:List Int),0)=some (Out.brk (OH (jD c 2))):=dW (f:=AL t) 2 (λk=>(OH (jD c k),(k:Int))) _ (λk hk=>by
  have hb:W3 (k:Int):=by omega
  obtain⟨a,b⟩:=aS8 hv h hb;have al:(jD c k).length<=2*12:=qK (Y2 (m:=12) λi hi=>(aS8 hv h (i:=(i:Int)) (by omega)).1) (by omega);have e:MC t.aA.Mem (iK t.bZ k).Head=some (c k,true):=by unfold MC;rw[bFF hm (c k) [] _ (h.ch k hb) (by grind) (by simp;omega)];rfl
  have ek:idx t.bZ (k:Int)=some (iK t.bZ k):=by rw[RY];unfold iK;grind
  simp only[AL];rw[cY,ek,aE,e,aE,eD,a7T (l:=c k) (by omega) (λo j=>by
   simp only[aBL];by_cases g:j<(c k).length
   ·rw[dif_pos g,cY,aT g,aE]
   ·rw[dif_neg g,SU]),aE]
  simp only[aBM,aBK];rw[dM];rfl) (by simp[AL])
 unfold TY;rw[CB hv,aE,eD,key];rfl
end
def W6(h:Heap)(t:Int):Span:=⟨iU t (bI h t)+4,iU t (bI h t)+4+iA (bI h t)⟩
theorem a14{h:Heap}{a b:Int}(hc:0<=bI h a)(ht:0<=bI h b)(hn:a≠b):(W6 h a).To<=(W6 h b).V2\/(W6 h b).To<=(W6 h a).V2:=by
 obtain⟨p,i,p6,hi,es,ec,eo,ep⟩:=mN hc;obtain⟨q,j,q6,hj,fs,fc,fo,fp⟩:=mN ht;unfold W6;dsimp only;have room:∀c (i:Nat),i<(cK c).toNat->8+i*(aW c).toNat+(aW c).toNat<=64/\iA c+4=((aW c).toNat:Int):=λc i h=>by
  have hcl:0<=c/\c<=2:=i7.1 (by omega);rcases lQ hcl with rfl|rfl|rfl
  ·rw[show(cK 0).toNat=4 from rfl] at h;rw[show(aW 0).toNat=12 from rfl,show iA 0=8 from rfl];omega
  ·rw[show(cK 1).toNat=2 from rfl] at h;rw[show(aW 1).toNat=20 from rfl,show iA 1=16 from rfl];omega
  ·rw[show(cK 2).toNat=1 from rfl] at h;rw[show(aW 2).toNat=44 from rfl,show iA 2=40 from rfl];omega
 have r1:=room _ _ hi;have r2:=room _ _ hj;rw[ec,fc];rw[ec] at eo;rw[fc] at fo;by_cases e:p=q
 ·subst e;have hij:i≠j:=λe=>hn (by omega);have hcl:0<=cD h p/\cD h p<=2:=i7.1 (by omega);generalize cD h p=c at *;rcases lQ hcl with rfl|rfl|rfl
  ·rw[show(aW 0).toNat=12 from rfl] at *;rw[show iA 0=8 from rfl] at *;omega
  ·rw[show(aW 1).toNat=20 from rfl] at *;rw[show iA 1=16 from rfl] at *;omega
  ·rw[show(cK 2).toNat=1 from rfl] at hi hj;omega
 omega
theorem a7U{h:Heap}{a:Int}(hc:0<=bI h a):0<=(W6 h a).V2/\(W6 h a).To<=384:=by obtain⟨p,i,p6,hi,es,ec,eo,ep⟩:=mN hc;grind[W6,cK,aW,iA]
def aAB(b:aA)(k:Nat):List Span:=((List.range k).filter λi:Nat=>decide (3<=rW b (i:Int))).map λi:Nat=>W6 b.Mem.Heap (i:Int)
theorem a41(b:aA)(k:Nat):aAB b (k+1)=if 3<=rW b (k:Int) then aAB b k++[W6 b.Mem.Heap (k:Int)] else aAB b k:=by unfold aAB;rw[List.range_succ,List.filter_append,qI];grind
theorem aWF(b:aA)(k:Nat):(aAB b k).length<=k:=by grind[aAB]
theorem QF{b:aA}{t:Int}(h:3<=rW b t):0<=bI b.Mem.Heap t:=by grind[rW,dZ]
theorem a9X{b:aA}(hb:kD b):T1 b=some (aAB b 24):=by
 have hsh:fP b.Mem.Heap:=hb.1.1.1.1.1;unfold T1;have key:loop (AN b) (([]:List Span),0)=some (aAB b 24):=dW (f:=AN b) 24 (λk=>(aAB b k,(k:Int))) _ (λk hk=>by
  have hlen:=aWF b k;have ew:aY ((k:Int)+1)=((k+1:Nat):Int):=by grind[cA]
  have hW:X4 b (k:Int)=some (rW b (k:Int)):=by simp_all[X4,R6,kD.fits,aLN]
  rw[a41];simp only[AN,I8];rw[cY,hW,aE,ew];by_cases g:3<=rW b (k:Int)
  ·have hc:=QF g;have hin:=a7U hc;unfold W6 at hin;dsimp only at hin;have hR:P4 (k:Int) (bI b.Mem.Heap (k:Int))=some (W6 b.Mem.Heap (k:Int)):=by unfold P4 W6;rw[(start_eq hsh hc).2,aE,SU,R0,aE];grind[iA,cA]
   rw[aL (by grind),jO hsh,aE,hR,aE,SW,aL g]
  grind) (by simp[AN])
 rw[key];rfl
theorem a15{l:List Span}(hl:l.length<=1000)(h1:∀x∈l,0<=x.V2/\x.To<=384)(h2:l.Pairwise λa b=>a.To<=b.V2\/b.To<=a.V2):D1 l=some true:=by
 unfold D1;have key:loop (tZ l) 0=some (Out.brk ()):=dW (f:=tZ l) l.length (λk=>(k:Int)) _ (λk hk=>by
  have hx:=h1 _ (cZ hk);have ew:aY ((k:Int)+1)=((k+1:Nat):Int):=by grind[cA]
  have inner:loop (tY l (k:Int)) 0=some (Out.brk ()):=dW (f:=tY l (k:Int)) k (λj=>(j:Int)) _ (λj hj=>by
   have hap:=List.pairwise_iff_getElem.1 h2 j k (by omega) hk hj;have ewj:aY ((j:Int)+1)=((j+1:Nat):Int):=by grind[cA]
   have ha:X3 l[k] l[j]=some true:=by unfold X3;simp only[xY];grind
   simp only[tY];rw[cY,aT hk,aE,RY,aE,ha,aE,eD,ewj]) (by simp[tY])
  simp_all[tZ,BW,aT,aP,WJ,WI]) (by simp[tZ])
 rw[key];rfl
theorem aN7(b:aA):D1 (aAB b 24)=some true:=by
 refine a15 (by grind[aWF]) (λx hx=>?_) ?_
 ·unfold aAB at hx;simp only[VN,List.mem_filter,List.mem_range,decide_eq_true_eq] at hx;obtain⟨i,⟨_,g⟩,rfl⟩:=hx;exact a7U (QF g)
 ·unfold aAB;rw[List.pairwise_map];refine List.Pairwise.imp_of_mem (R:=λa b=>a<b) (λ{a c} ha hc hlt=>?_) ((List.pairwise_lt_range).filter _);simp only[List.mem_filter,List.mem_range,decide_eq_true_eq] at ha hc;exact a14 (QF ha.2) (QF hc.2) (by omega)
theorem aYZ{l:List aX}(hl:l.length<=1000){n:Int}(hn:0<=n):aDL l n=some (eK l n):=by
 have key:loop (I1 l n) (0,0)=some (eK l n):=by
  have:=dW (f:=I1 l n) (min l.length n.toNat) (λk=>(eK l k,(k:Int))) (eK l n) (λk hk=>by
   have hle:=SD l k;have hkl:k<l.length:=by omega
   have e:eK l ((k+1:Nat):Int)=eK l k+if l[k].KR then 0 else 1:=by grind[a7M]
   have:0<=eK l k:=by grind[eK]
   simp only[I1,I0,P1];rw[cY,bY (by omega),aL rfl,aT hkl,aE,e,dM (x:=(k:Int)+1),dM (x:=eK l k+1)];grind) (by
   simp only[I1,I0];by_cases g:l.length<=n.toNat
   ·simp_all[a1L]
   grind)
  grind[eK]
 unfold aDL;rw[key];rfl
def PeS(j:aI):Prop:=j.eO.length<=1000/\j.bU.length<=1000/\j.aH.length<=1000/\0<=j.K
theorem pes{j:aI}(h:j=cO\/JB j):PeS j:=by
 rcases h with rfl|h
 ·simp[PeS,cO]
 ·have:=h.new.1;have:=h.old.1;have:=h.k.1;have:=h.wr.1;grind[PeS]
theorem aI4(l:List Int){n:Int}(h:0<=n):(l.take l.length).drop ((if(l.length:Int)<n then(l.length:Int) else n).toNat)=l.drop n.toNat/\(l.take l.length).drop ((if n<(l.length:Int) then n else(l.length:Int)).toNat)=l.drop n.toNat:=by
 (simp_all;omega)
section
variable {j:aI} (h:PeS j)
include h
theorem bMZ:P3 j=some (own j):=by
 obtain⟨h1,h2,h3,h4⟩:=h;have hp:0<=eK j.aH j.K:=by grind[eK]
 unfold P3 own lC aGT;rw[dD,aE];by_cases c1:6<=j.Pc/\j.Pc<=8
 ·grind
 rw[eF c1,eD];by_cases c2:j.Pc=16
 ·grind
 rw[aP (by grind)];by_cases c3:j.Pc=17
 ·grind
 rw[aP (by grind),dD,aE];by_cases c4:9<=j.Pc/\j.Pc<=13
 ·rw[bY c4,aL rfl,YP h3,aE,J5,(aI4 _ hp).1,aOB (by simp;omega) h2];grind
 rw[eF c4,eD];by_cases c5:j.Pc=14
 ·grind
 rw[aP (by grind)];by_cases c6:j.Pc=15
 ·rw[aL (by grind),J5,(aI4 _ h4).1];grind
 grind
theorem bM0:E8 j=some (own j):=by
 obtain⟨h1,h2,h3,h4⟩:=h;have hp:0<=eK j.aH j.K:=by grind[eK]
 have n0:([]:List Int).length=0:=rfl;unfold E8 own lC aGT;rw[cN,aE];by_cases c1:6<=j.Pc/\j.Pc<=8
 ·rw[bY c1,aL rfl,LB (by omega),aE,J5];grind
 rw[eF c1,eD];by_cases c2:j.Pc=16
 ·rw[aL (by grind),LB (by omega),aE,J5];grind
 rw[aP (by grind)];by_cases c3:j.Pc=17
 ·rw[aL (by grind),LB (by omega),aE,J5];grind
 rw[aP (by grind),cN,aE];by_cases c4:9<=j.Pc/\j.Pc<=13
 ·rw[bY c4,aL rfl,aYZ h3 h4,aE,J5,(aI4 _ hp).2,LB (by simp;omega),aE,SW];grind
 rw[eF c4,eD];by_cases c5:j.Pc=14
 ·rw[aL (by grind),LB (by omega),aE,J5];grind
 rw[aP (by grind)];by_cases c6:j.Pc=15
 ·rw[aL (by grind),J5,LB (by omega),aE,(aI4 _ h4).2,SW];grind
 rw[aP (by grind),LB (by omega),aE,J5];grind
end
def gdT(t:Table)(v:Int):List Int:=if(aZ t v).cR=true/\((aZ t v).Pc=3\/(aZ t v).Pc=4)/\((dB t.aA.aD v).On=true/\(dB t.aA.aD v).gG=false) then [(aZ t v).H] else []
section
variable {Ky:List Int} {t:Table} {c:Int->List Int} {q:Int->Nat} (hv:TV t) (h:uV Ky t.aA t.bZ c q (aZ t))
include hv h
theorem a16(k:Nat)(hk:k<=3):(jD (λv=>own (aZ t v)) k).length<=36:=qK (Y2 (m:=12) λi hi=>aYY hv h (v:=(i:Int)) (by omega)) (by omega)
theorem aS9{v:Int}(hw:j7 v)(hB:¬(aZ t v).cR=true):own (aZ t v)=[]:=by rw[(hv.C9.2 _ (FL hv.C9.1 hw)).resolve_right λj=>hB j.busy];rfl
theorem aWG:I5 t=some (OH (jD (λv=>own (aZ t v)) 3)):=by
 have h3:=hv.C9.1;have l1:=Y1 h;have hz:=λhx=>(aDW h (x:=0) hx).2.2 rfl;unfold VL at l1 hz;simp only[DA] at l1;have key:loop (xG t) (([]:List Int),0)=some (jD (λv=>own (aZ t v)) 3):=dW (f:=xG t) 3 (λk=>(jD (λv=>own (aZ t v)) k,(k:Int))) _ (λk hk=>by
  have hw:j7 (k:Int):=by omega
  have a:=a16 hv h k (by omega);have b:=aYY hv h hw;simp only[xG,FA];rw[cY,rK h3 hw,aE,dM];by_cases g:(aZ t k).cR=true
  ·rw[aL g,bMZ (pes (hv.C9.2 _ (FL h3 hw))),aE,J5];rfl
  ·rw[aP g,jD,aS9 hv h hw g];simp) (by grind[xG])
 unfold I5;rw[CC hv,aE,eD,key,aE];grind[ZY,ZX,aO4]
theorem a9Y:P2 t=some (OH (jD (λv=>own (aZ t v)) 3)):=by
 have h3:=hv.C9.1;have key:loop (xF t true) (([]:List Int),0)=some (OH (jD (λv=>own (aZ t v)) 3)):=dW (f:=xF t true) 3 (λk=>(OH (jD (λv=>own (aZ t v)) k),(k:Int))) _ (λk hk=>by
  have hw:j7 (k:Int):=by omega
  have a:=a16 hv h k (by omega);have b:=aYY hv h hw;simp only[xF,xE];rw[cY,aL trivial,rK h3 hw,aE,bM0 (pes (hv.C9.2 _ (FL h3 hw))),aE,a7T (l:=own (aZ t k)) (by omega) (λo i=>by
   simp only[ZV,E9];by_cases g:i<(own (aZ t k)).length
   ·have hB:(aZ t k).cR=true:=Decidable.by_contra λn=>by grind[aS9]
    rw[dif_pos g,cY,rK h3 hw,aE,aL hB,aT g,aE]
   grind),aE]
  simp only[ZW,ZU];rw[dM];rfl) (by simp[xF,xE])
 unfold P2;rw[CB hv,aE,key];rfl
theorem bJ9{v x:Int}(hw:j7 v)(hx:x∈gdT t v):kS t.aA.Mem x/\x≠0:=by
 unfold gdT at hx;split at hx
 ·rename_i g;obtain⟨r,⟨a,_⟩,_⟩:=h.rd v hw g.2.1 g.2.2;rw[KD.1 hx];have w:=(a.rp.ok _ (aKY ..)).1;have:=w.1.1;grind[kC]
 ·cases hx
omit hv h in
theorem aY1(t:Table)(v:Int):(gdT t v).length<=1:=by grind[gdT]
theorem a42:yZ t=some (OH (jD (gdT t) 3)):=by
 have h3:=hv.C9.1;have key:loop (mH t) (([]:List Int),0)=some (jD (gdT t) 3):=dW (f:=mH t) 3 (λk=>(jD (gdT t) k,(k:Int))) _ (λk hk=>by
  have hw:j7 (k:Int):=by omega
  have a:(jD (gdT t) k).length<=k*1:=Y2 λi _=>aY1 t i;simp only[mH,mG,rH];rw[cY,rK h3 hw,aE,dD,aE,LF hv.base.1.2.1 hw,dM,jD,aE];grind[gdT,oZ,lL,b9]) (by grind[mH])
 unfold yZ;rw[CC hv,aE,eD,key,aE];simp only[M1,M0];have a:(jD (gdT t) 3).length<=3*1:=Y2 λi _=>aY1 t i;rw[aO4 (by omega) (λq=>by
  obtain⟨i,hi,m⟩:=aS7.1 q;exact(bJ9 hv h (v:=(i:Int)) (by omega) m).2 rfl)];rfl
theorem a43:yY t=some (OH (jD (gdT t) 3)):=by
 have h3:=hv.C9.1;have key:loop (mE t true) (([]:List Int),0)=some (OH (jD (gdT t) 3)):=dW (f:=mE t true) 3 (λk=>(OH (jD (gdT t) k),(k:Int))) _ (λk hk=>by
  have hw:j7 (k:Int):=by omega
  have a:(jD (gdT t) k).length<=k*1:=Y2 λi _=>aY1 t i;have hH:lG t.aA.aD k->(aZ t k).Pc=3\/(aZ t k).Pc=4->(aZ t k).H≠0:=λp q=>by obtain⟨r,⟨a,_⟩,_⟩:=h.rd k hw q p;have:=(a.rp.ok _ (aKY ..)).1.1.1;grind[kC]
  have pu:=a7S (l:=jD (gdT t) k) (by omega) (aZ t k).H;simp only[mE,mD,eU,rF];rw[cY,aL trivial,rK h3 hw,aE,LF hv.base.1.2.1 hw,aE,dM,jD,pu];grind[lG,gdT]) (by simp[mE,mD])
 unfold yY;rw[CB hv,aE,key];rfl
end
theorem bFJ(b:aA):idx (mO b 24) 4=some ((mO b 24).getD 4 0):=by grind[aGR,aT]
section
variable {Ky:List Int} {t:Table} {c:Int->List Int} {q:Int->Nat} (hv:TV t) (h:uV Ky t.aA t.bZ c q (aZ t))
include hv h
theorem bFK{x:Int}(hx:x∈OH (jD (gdT t) 3)):kS t.aA.Mem x:=by obtain⟨i,hi,m⟩:=aS7.1 (((aGV _).2.1 x).1 hx);exact(bJ9 hv h (v:=(i:Int)) (by omega) m).1
omit hv h in
theorem a7V(t:Table):(OH (jD (gdT t) 3)).length<=3:=qK (aGV _).2.2.1 (Y2 (m:=1) λi _=>aY1 t i)
theorem bJB:IY t=some true:=by
 have hm:=hv.base.1.1;obtain⟨hcnt,h3,h9,_⟩:=kR.facts hm;have hg:=a7V t;have hlive:=λx hx=>bFK hv h (x:=x) hx;unfold IY;rw[a43 hv h,aE];generalize OH (jD (gdT t) 3)=l at hg hlive;have key:loop (rG t l) 0=some (Out.brk ()):=dW (f:=rG t l) l.length (λk=>(k:Int)) _ (λk hk=>by
  simp only[rG];rw[cY,aT hk,aE,qG hm.1.1.1 (by omega) (by grind[maxLen]) (by grind[maxLen]),bY (hlive _ (cZ hk)).1,aE,eD,dM];rfl) (by simp[rG])
 grind[TU,TS,CB]
theorem bJC:I4 t=some true:=by
 have hm:=hv.base.1.1;obtain⟨hcnt,h3,h9,_⟩:=kR.facts hm;have hg:=a7V t;unfold I4;rw[CC hv,aE,aL rfl,a42 hv h,aE];have e:(λy0=>BV y0 t)=λx=>some (!decide (mM t.aA.Mem x)):=funext λx=>by unfold BV;rw[uJ hm.1.1.1 (by omega) (by grind[maxLen]) (by grind[maxLen])];rfl
 rw[e,wB (by grind[maxLen]),aE];simp only[y5];rw[aUU.2 λx hx=>by simp[(bFK hv h hx).1]];rfl
theorem a7W:(OH (jD c 2)++OH (jD (λv=>own (aZ t v)) 3)).length=(VL c (aZ t)).length/\(OH (jD c 2)++OH (jD (λv=>own (aZ t v)) 3)).Nodup/\∀x,x∈OH (jD c 2)++OH (jD (λv=>own (aZ t v)) 3)↔x∈VL c (aZ t):=by have hn:=aWD h;unfold VL at hn ⊢;obtain⟨n1,n2,n3⟩:=aK1.1 hn;obtain⟨s1,m1,_,l1⟩:=aGV (jD c 2);obtain⟨s2,m2,_,l2⟩:=aGV (jD (λv=>own (aZ t v)) 3);refine⟨by grind,aK1.2 ⟨s1.imp λh=>by omega,s2.imp λh=>by omega,λa ha b hb=>n3 a ((m1 a).1 ha) b ((m2 b).1 hb)⟩,λx=>by grind⟩
theorem aI5:nN t=some true:=by
 have hm:=hv.base.1.1;obtain⟨hcnt,h3,h9,_⟩:=kR.facts hm;obtain⟨e,hn,hmm⟩:=a7W hv h;have l1:=Y1 h;have l2:(OH (jD c 2)).length+(OH (jD (λv=>own (aZ t v)) 3)).length=(VL c (aZ t)).length:=by grind
 have ok:=λx hx=>a4Z h (x:=x) hx;unfold nN;rw[bFI hv h,aE,a9Y hv h,aE,J5];have key:loop (kP t (OH (jD c 2)) (OH (jD (λv=>own (aZ t v)) 3))) 0=some (Out.brk ()):=by
  refine dW (f:=kP t (OH (jD c 2)) (OH (jD (λv=>own (aZ t v)) 3))) (OH (jD c 2)++OH (jD (λv=>own (aZ t v)) 3)).length (λk=>(k:Int)) _ (λk hk=>?_) (by simp[kP]);simp only[kP,kO];generalize hL:OH (jD c 2)++OH (jD (λv=>own (aZ t v)) 3)=L at hk e hn hmm;obtain⟨lv,nh⟩:=ok _ ((hmm _).1 (cZ hk));have hh:L[k]∉L.take k:=λq=>by grind[aAS,List.pairwise_iff_getElem]
  rw[cY,J5,aT hk,aE,NM,SZ,yD (by grind[maxLen]),aE,eF hh,eD,qG hm.1.1.1 (by omega) (by grind[maxLen]) (by grind[maxLen]),aE,bY lv.1,eD,
   gK,aL lv.1.1,aE,FJ hv.base.1.2.2.1,aE,eF nh,eD,dM];rfl
 rw[key,aE];simp only[I3,I2,nY];rw[CB hv,aE,aL rfl,a4L hv.base,aE,bFJ,aE,aWE h,e];simp
theorem aY2:sL t=some true:=by
 have hm:=hv.base.1.1;obtain⟨hcnt,h3,h9,_⟩:=kR.facts hm;obtain⟨e,hn,hmm⟩:=a7W hv h;have l1:=Y1 h;have l2:(OH (jD c 2)).length+(OH (jD (λv=>own (aZ t v)) 3)).length=(VL c (aZ t)).length:=by grind
 have ok:=λx hx=>a4Z h (x:=x) hx;have hz:=λhx=>(aDW h (x:=0) hx).2.2 rfl;unfold sL;rw[bFH hv h,aE,aWG hv h,aE,aOB (by omega) (by omega),aE,CC hv,aE,aL rfl];generalize OH (jD c 2)++OH (jD (λv=>own (aZ t v)) 3)=L at e hn hmm;rw[aO4 (by omega) (λq=>hz ((hmm 0).1 q)),aE,aL (by grind[aGV])];have how:X2 t.aA L=some true:=by
  unfold X2;rw[a4M hv.base,aE,bFJ,aE,aWE h,e,aL (by simp)];have ef:∀x∈L,I7 x t.aA=some false:=λx hx=>by
   obtain⟨lv,nh⟩:=ok _ ((hmm _).1 hx);have hx0:0<=x:=by have:=lv.1.1;grind[kC]
   unfold I7;rw[uJ hm.1.1.1 (by omega) (by grind[maxLen]) (by grind[maxLen]),bY lv.1,aE,eD,NB hx0,FK hv.base.1.2.2.1,eF nh];rfl
  have hc:cT L (λy0=>I7 y0 t.aA)=some false:=by
   have:=wB (l:=L) (by grind[maxLen]) (λ_=>false);have k1:∀f:Int->Option Bool,(∀x∈L,f x=some false)->loop (dL L f) 0=some (Out.brk ()):=λf hf=>dW (f:=dL L f) L.length (λk=>(k:Int)) _ (λk hk=>by
    simp only[dL];rw[cY,aT hk,aE,hf _ (cZ hk),aE,eD,dM];rfl) (by simp[dL])
   grind[cT,fY]
  rw[hc,aE];rfl
 rw[how];rfl
end
theorem bM1{code:List UInt8}{n:Nat}(hn:n<=5000):∃m,XU code 0 (n:Int)=some m/\0<=m:=by
 unfold XU;have ha:∃a,aOQ code 0=some a/\0<=a/\a<=255:=by
  unfold aOQ;by_cases h0:(0:Int)<code.length
  ·rw[aL (by grind),iC (O4 0) h0,aE];refine⟨_,rfl,by omega,?_⟩;have:=(code[(0:Int).toNat]'(by omega)).toNat_lt;omega
  ·have hz:code.length=0:=by omega
   rw[aP (by grind),hz];exact⟨_,rfl,by decide,by decide⟩
 obtain⟨a,e,a0,a1⟩:=ha;rw[e,aE];refine⟨_,rfl,?_⟩;have h1:a*((n:Int)+1)<=255*5001:=Int.mul_le_mul a1 (by omega) (by omega) (by omega);have h2:0<=a*((n:Int)+1):=Int.mul_nonneg a0 (by omega);grind[cA]
theorem aN8{code:List UInt8}(_:fit code):K5 code=some true:=by
 unfold K5 aP0;rw[aE];by_cases hcl:1048576<(code.length:Int)
 ·grind
 rw[aP (by grind)];obtain⟨x,ex,hd,hp⟩:=a1Z (code:=code) (by omega);rw[ex,aE,a9F hd.bO7,aE];obtain⟨f1,f2,f3⟩:=hd.bO7.fit;by_cases ht:aC0 x.dQ
 ·rw[bY ht,eD];obtain⟨n,en,n0⟩:=bM1 (code:=code) hp;rw[en,aE,J5];rw[aYK (x:=⟨x.dQ,(x.eT.take ((if n<(x.eT.length:Int) then n else(x.eT.length:Int)).toNat)).drop 0⟩) f1 f2 f3 ht,aE];simp only[];obtain⟨p',hpe,hp'⟩:∃p',p'=((x.eT.take ((if n<(x.eT.length:Int) then n else(x.eT.length:Int)).toNat)).drop 0).take 400/\p'.length<=400:=⟨_,rfl,by simp;omega⟩;rw[<-hpe];obtain⟨e1,hi,v,⟨tl,qz,sz⟩,hl⟩:=bRG hd ht p' hp';obtain⟨vt,pt⟩:=aGQ (P:=PlT (SH (SY (eX x.dQ)))) (λt w hv hw h=>h.step hv hw) p' (aKR ht) ⟨.zero rfl,_,bPB hd ht⟩;obtain⟨_,qt,st⟩:=pt;obtain⟨ct,st⟩:=st.sv;obtain⟨cz,zz⟩:=sz.sv;unfold C1;rw[e1];generalize aC7 3000 0 (SF (eX x.dQ) p')=z at *;generalize SF (eX x.dQ) p'=t at *;have hid:=(a1V v).1 hi;have hpend:OH (jD (λv=>own (aZ z v)) 3)=[]:=by
   have:∀w,j7 w->own (aZ z w)=[]:=λw hw=>aS9 v zz hw λq=>by have:=(hid w hw).1;simp_all
   grind[jD,OH]
  rw[aE,CB vt,aE,aL rfl,bJB vt st,aE,aL rfl,aI5 vt st,aE,aL rfl,bJC vt st,aE,aL rfl,aY2 vt st,aE,aL rfl,aI5 v zz,aE,aL rfl,aWG v zz,aE,hpend,aL (by simp),a9X vt.base,aE,aN7];rfl
 ·rw[eF ht,KO,aL rfl];have e1:o8 x=some aYJ:=by unfold o8;rw[(aC3 f1 f2 f3).2,aE,aP ht];rfl
  rw[e1];rfl
end Go.Gv
end
