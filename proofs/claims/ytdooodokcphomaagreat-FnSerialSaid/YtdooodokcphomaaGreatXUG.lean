import Derived.Test.YtdooodokcphomaaGreatXUF
set_option linter.unusedVariables false
set_option linter.unusedSimpArgs false
set_option linter.unusedSectionVars false
set_option linter.constructorNameAsVariable false
set_option linter.unnecessarySimpa false
set_option linter.defProp false
noncomputable section
set_option maxHeartbeats 4000000
set_option maxRecDepth 100000
namespace Go.Proofs.YtdooodokcphomaaGreat
open Go.Gv Tryz
variable{A B C F H J L M N P Y c d e g i j k n p q s u w:AC}{h x:Int}{l:a7}{m:Mem}{t:Table}
section
variable {U:Ctx}
theorem aHX{l:Int}{s1 s2 s3 s4 Z f:AC}{b0:Nat×Nat}:VS prog U 83 (CE t l) [.p 0 0,I l] [b0] ([.box 0 (LK t s1 s2 s3 s4 Z Y u s f e d)]++(T1 t s1 s2 s3 s4 Z Y u s f e d [])) (λr (y:A6C)=>.t []) (λr y=>([.box 0 (LK r y.1 y.2.1 y.2.2.1 y.2.2.2.1 y.2.2.2.2.1 y.2.2.2.2.2 u s f e d)]++(T1 r y.1 y.2.1 y.2.2.1 y.2.2.2.1 y.2.2.2.2.1 y.2.2.2.2.2 u s f e d []))):=
 cD call83 func83 Q Q2<|rV bB 9 Q3 λN E n h2=>λb=>nE 1 h2 E Q5<|wi b<|eP 0 2 (DO t l) [0,1,4] (λ(X:Bool) (_:Unit)=>[(25,.b X)]) [1,2,3,4,5,6,7,8,10,11,0,14] (λX _=>[ow f (t.aR:bp)]) Q (iP aJ [0,14] Q<|λb=>bd b λm o b=>aV5 Q Q ((by refine fA Q2 ?_ ?_<;>exact IG o Q (λh=>HX (h.o 17 Q))<|sF Q<|fR Q2<|kO bB 12 [15,16,17,18,19,20,21] E n Q7<|fR Q2<|mQ (p:=(decide (m<=N.K))) () [22,1,2,3,4,5,6,7,8,10,11,0,14] b Q)) (fA Q2 (IG o Q (λh=>HX (h.o 17 Q))<|sF Q<|fR Q2<|kO bB 12 [15,16,17,18,19,20,21] E n Q7<|fR Q2<|mQ (p:=(decide (m<=N.K))) () [22,1,2,3,4,5,6,7,8,10,11,0,14] b Q) ((by refine fA Q2 ?_ ?_<;>exact IG o Q (λh=>HX (h.o 17 Q))<|sF Q<|fR Q2<|kO bB 12 [15,16,17,18,19,20,21] E n Q7<|fR Q2<|mQ (p:=(decide (m<=N.K))) () [22,1,2,3,4,5,6,7,8,10,11,0,14] b Q))) (fA Q2 (IG o Q (λh=>HX (h.o 17 Q))<|sF Q<|fR Q2<|kO bB 12 [15,16,17,18,19,20,21] E n Q7<|fR Q2<|mQ (p:=(decide (m<=N.K))) () [22,1,2,3,4,5,6,7,8,10,11,0,14] b Q) ((by refine fA Q2 ?_ ?_<;>exact IG o Q (λh=>HX (h.o 17 Q))<|sF Q<|fR Q2<|kO bB 12 [15,16,17,18,19,20,21] E n Q7<|fR Q2<|mQ (p:=(decide (m<=N.K))) () [22,1,2,3,4,5,6,7,8,10,11,0,14] b Q)))) λX _=>bE [25] Q2 (λb=>ro bB 0 12 1 Q Q Q Q b λx3 h3 b W=>sR Q<|fR Q2<|pD bB 13 [16,17,18,19,20,21,22] [] ({x3 with Pc:=7,K:=0}:aK) W Q8<|fR Q2<|uW f dM.symm [] [(11,9)] Q3<|fR Q2<|rN (s1,s2,s3,s4,Z,Y) [11,1,2,3,4,5,6,7,8,23,9,10] b Q2 Q4)<|iP aJ [12] Q<|λb=>ro bB 0 12 1 Q Q Q Q b λz h5 b x=>wi b<|a0C 14 1 16 10 11 0 0 8 [1,2,3,4,5,6,7] Q Q Q Q Q (λ_=>PL) λq a=>bE [66,72] Q2 (λb=>sF Q<|fR Q2<|pD bB 13 [16,17,18,19,20,21,22] [] ({z with Sub:=q.1}:aK) x Q8<|fR Q2<|uW f dM.symm [] [(11,9)] Q3<|fR Q2<|rN a [11,23,24,25,26,27,28,29,8,30,9,10] b Q2 Q4)<|eP 0 2 (λ(p:Bool×Table)=>iN l p.1 p.2) [0,4] (λ(p:Bool×Table) (_:Unit)=>[(73,.b p.1)]) [12] (λp _=>(T1 p.2 a.1 a.2.1 a.2.2.1 a.2.2.2.1 a.2.2.2.2.1 a.2.2.2.2.2 u s f e d [.box 0 (LK p.2 a.1 a.2.1 a.2.2.1 a.2.2.2.1 a.2.2.2.2.1 a.2.2.2.2.2 u s f e d)])) Q (dE [79,80] Q2 (λb=>sF Q<|fR Q2<|pD bB 13 [16,17,18,19,20,21,22] [] ({z with Sub:=q.1}:aK) x Q8<|fR Q2<|uW f dM.symm [] [(11,9)] Q3<|fR Q2<|mQ (p:=(true,({t with aA:=q.2,aR:=t.aR.set l.toNat ({z with Sub:=q.1}:aK)}:Table))) () [23,24,25,26,27,28,29,8,30,9,10,11,12] b Q)<|c0 Q (λ_=>jW) λx15=>dE [87,88,89] Q2 (λb=>sF Q<|fR Q2<|pD bB 13 [16,17,18,19,20,21,22] [] ({z with Sub:=q.1}:aK) x Q8<|fR Q2<|uW f dM.symm [] [(11,9)] Q3<|fR Q2<|mQ (p:=(true,({t with aA:=q.2,aR:=t.aR.set l.toNat ({z with Sub:=q.1}:aK)}:Table))) () [23,24,25,26,27,28,29,8,30,9,10,11,12] b Q)<|λb=>sF Q<|fR Q2<|pD bB 13 [16,17,18,19,20,21,22] [] ({z with Sub:=q.1}:aK) x Q8<|fR Q2<|uW f dM.symm [] [(11,9)] Q3<|fR Q2<|mQ (p:=(decide (6<=(z.gN.length:Int)),({t with aA:=q.2,aR:=t.aR.set l.toNat ({z with Sub:=q.1}:aK)}:Table))) () [23,24,25,26,27,28,29,8,30,9,10,11,12] b Q) λ⟨x6,O⟩ _=>bE [73] Q2 (λb=>ro bB 8 12 1 Q Q Q Q b λx8 h7 b V=>wi b<|fN 14 1 0 32 [16,17,18,19,20,21,22] Q5 (λ_=>eS) λx9 _=>λb=>sF Q<|fR Q2<|pD bB 13 [23,24,25,26,27,28,29] [] x9 V Q8<|fR Q2<|uW f dM.symm [] [(11,9)] Q3<|fR Q2<|rN a [11,0,1,2,3,4,5,6,7,30,9,10] b Q2 Q4)<|eP 0 2 (DN l) [0,4] (λ(i:Table) (_:Unit)=>[]) [12] (λi _=>(T1 i a.1 a.2.1 a.2.2.1 a.2.2.2.1 a.2.2.2.2.1 a.2.2.2.2.2 u s f e d [.box 0 (LK i a.1 a.2.1 a.2.2.1 a.2.2.2.1 a.2.2.2.2.1 a.2.2.2.2.2 u s f e d)])) Q (iP aJ [11,12] Q<|λb=>bd b λc J b=>nd b λH b=>fA Q2 (have B:=rb J;ro bB 8 12 1 Q Q Q Q B λu5 h17 B k=>match u5,B with|_,rfl=>lt1 Q bD Q Q Q Q λs24=>have G:=rn H;ap 20 bD Q Q Q Q Q Q Q (λh=>(h.o 23 Q)) Q Q G λG R=>sF Q<|fR Q2<|pD bB 13 [16,17,18,19,20,21,22] [] ({c with gN:=c.gN++([c.Sub.Out])}:aK) (k.1,k.2.1,k.2.2.1,k.2.2.2.1,R,k.2.2.2.2.2.1,k.2.2.2.2.2.2) Q8<|fR Q2<|uW f dM.symm [] [(11,9)] Q3<|fR Q2<|mQ (p:=(({O with aR:=O.aR.set l.toNat ({c with gN:=c.gN++([c.Sub.Out])}:aK)}:Table))) () [0,1,2,3,4,5,6,7,24,9,10,11,12] b Q) (have A:=rb J;ro bB 8 12 1 Q Q Q Q A λu6 h19 A j=>match u6,A with|_,rfl=>(by refine fA Q2 ?_ ?_<;>exact lt1 Q bD Q Q Q Q λs27=>have F:=rn H;ap 20 bD Q Q Q Q Q Q Q (λh=>(h.o 23 Q)) Q Q F λF P=>sF Q<|fR Q2<|pD bB 13 [16,17,18,19,20,21,22] [] ({c with gN:=c.gN++([c.Sub.Out])}:aK) (j.1,j.2.1,j.2.2.1,j.2.2.2.1,P,j.2.2.2.2.2.1,j.2.2.2.2.2.2) Q8<|fR Q2<|uW f dM.symm [] [(11,9)] Q3<|fR Q2<|mQ (p:=(({O with aR:=O.aR.set l.toNat ({c with gN:=c.gN++([c.Sub.Out])}:aK)}:Table))) () [0,1,2,3,4,5,6,7,24,9,10,11,12] b Q))) λi _=>eP 0 2 DM [0] (λ(w:Table) (_:Unit)=>[]) [] (λw _=>(T1 w a.1 a.2.1 a.2.2.1 a.2.2.2.1 a.2.2.2.2.1 a.2.2.2.2.2 u s f e d [.box 0 (LK w a.1 a.2.1 a.2.2.1 a.2.2.2.1 a.2.2.2.2.1 a.2.2.2.2.2 u s f e d)])) Q (iP aJ [11,12] Q<|λb=>bd b λg M b=>bd b λv L b=>fA Q2 (have D:=rb M;ro bB 8 12 1 Q Q Q Q D λu1 h11 D T=>match u1,D with|_,rfl=>IG L Q (λ_=>sB)<|sF Q<|fR Q2<|pD bB 13 [16,17,18,19,20,21,22] [] ({g with K:=aZ (g.K+1),Sub:=v}:aK) T Q8<|fR Q2<|uW f dM.symm [] [(11,9)] Q3<|fR Q2<|mQ (p:=(({i with aR:=i.aR.set l.toNat ({g with K:=aZ (g.K+1),Sub:=v}:aK)}:Table))) () [0,1,2,3,4,5,6,7,23,9,10,11] b Q) (IG L Q (λ_=>sB)<|have C:=rb M;ro bB 8 12 1 Q Q Q Q C λu4 h13 C S=>match u4,C with|_,rfl=>sF Q<|fR Q2<|pD bB 13 [16,17,18,19,20,21,22] [] ({g with K:=aZ (g.K+1),Sub:=v}:aK) S Q8<|fR Q2<|uW f dM.symm [] [(11,9)] Q3<|fR Q2<|mQ (p:=(({i with aR:=i.aR.set l.toNat ({g with K:=aZ (g.K+1),Sub:=v}:aK)}:Table))) () [0,1,2,3,4,5,6,7,23,9,10,11] b Q)) λw _=>LH a [11,0,1,2,3,4,5,6,7,8,9,10] Q Q
theorem aBP:V0 prog U 512 (cmp_isNaN_int x) [I x] .b:=
 cD call512 func512 Q Q2<|b8 Q2
theorem aDV{y:Int}:V0 prog U 488 (cmp_Less_int x y) [I x,I y] .b:=
 cD call488 func488 Q Q2<|dJ 0 0 xH [] 4 [] Q (c0 Q (λ_=>aBP) λb=>dE [6,7] Q2 (c0 Q (λ_=>aBP) λa=>dE [10,11,12] Q2 (bL [] Q2)<|bL [] Q2)<|bL [] Q2) λc=>b8 Q2
theorem H5{data:an}{a_ b:Int}:VS prog U 482 (iQ data a_ b) [.h d data.length,I a_,I b] [] [ow d (data:an)] (λr (y:Unit)=>.t []) (λr y=>[.o (fF [AC.v d data.length] r)]):=
 cD call482 func482 Q Q2<|LP () [1,2] (λ(p:an×Int) (_:Unit)=>[(0,.h d p.1.length),(6,I p.2)]) [0] [] (λp _=>[ow d (p.1:an)]) id [] (λ(C:an) (_:Unit)=>[(0,.h d C.length)]) [] (λC _=>[ow d (C:an)]) Q Q (λhF1 ⟨x3,x4⟩ _ hr1=>λc=>nd c λhl3 c=>wi c<|bE [12] Q2 (LP () [1,2,6] (λ(p:an×Int) (_:Unit)=>[(0,.h d p.1.length),(7,I p.2)]) [0] [] (λp _=>[ow d (p.1:an)]) id [1,2,6] (λ(i:an) (_:Unit)=>[(0,.h d i.length)]) [] (λi _=>[ow d (i:an)]) Q Q (λhF2 ⟨Z,w⟩ _ hr2=>λa=>nd a λhl6 a=>wi a<|dJ 0 0 (eI data Z w) [0,1,2,6,7] 30 [0] Q (iP aJ [] Q<|dE [18,19] Q2 (rV oI 0 Q3 λx16 k _ L=>λa=>nE 0 L k Q5<|cqS oI 1 [] k () Q9<|wi a<|rV oI 4 Q3 λx17 j _ K=>λa=>nE 1 K j Q5<|bd a λz A a=>fA Q2 (cqS oI 5 [] j () Q9<|have m:=rb k;ro oI 8 3 0 Q Q Q Q m λu8 J m _=>match u8,m with|_,rfl=>cqS oI 9 [] J () Q9<|have l:=rb j;ro oI 12 7 1 Q Q Q Q l λu9 H l _=>match u9,l with|_,rfl=>IG A Q (λ_=>aDV)<|sF Q<|kO oI 13 [] H () Q7<|mQ (p:=(z)) () [16] a Q) (cqS oI 5 [] j () Q9<|have e:=rb k;ro oI 8 3 0 Q Q Q Q e λE G e _=>match E,e with|_,rfl=>IG A Q (λ_=>aDV)<|sF Q<|kO oI 9 [] G () Q7<|mQ (p:=(z)) () [12] a Q))<|bL (p:=(false)) [0] Q2) λx11=>λa=>nd a λhl7 a=>wi a<|bE [30] Q2 (eP 0 0 (j7 data w) [1,2,6,7] (λ(h:an) (_:Unit)=>[(0,.h d h.length)]) [] (λh _=>[ow d (h:an)]) Q (iP aJ [] Q<|rV oI 0 Q3 λg D _ h2=>λa=>nE 0 h2 D Q5<|cqS oI 1 [] D () Q9<|wi a<|rV oI 4 Q3 λf x _ h4=>λa=>nE 1 h4 x Q5<|bd a λx15 B a=>fA Q2 (cqS oI 5 [] x () Q9<|have v:=rb D;ro oI 8 3 0 Q Q Q Q v λu1 Y v _=>match u1,v with|_,rfl=>cqS oI 9 [] Y () Q9<|have u:=rb x;ro oI 12 7 1 Q Q Q Q u λu2 X u _=>match u2,u with|_,rfl=>cqS oI 13 [] X () Q9<|have t:=rb x;wi t<|rV oI 16 Q3 λu3 W _ V=>λt=>nE 2 V W Q5<|match u3,t with|_,rfl=>ceS oI 17 [] [0,33,35,38,43] g () Q Q Q Q Q Q Q Q Q Q<|have s:=rb B;wi s<|rV oI 20 Q3 λu4 T _ S=>λs=>nE 3 S T Q5<|match u4,s with|_,rfl=>sF Q<|pD oI 21 [] [0,33,35,38,43] f () Q8<|mQ (p:=((Z.set w.toNat g).set ((aZ (w-1)).toNat) f)) () [24] a Q) (cqS oI 5 [] x () Q9<|have q:=rb D;ro oI 8 3 0 Q Q Q Q q λu5 R q _=>match u5,q with|_,rfl=>cqS oI 9 [] R () Q9<|have o:=rb x;wi o<|rV oI 12 Q3 λu6 P _ O=>λo=>nE 2 O P Q5<|match u6,o with|_,rfl=>ceS oI 13 [] [0,33,35,38,43] g () Q Q Q Q Q Q Q Q Q Q<|have n:=rb B;wi n<|rV oI 16 Q3 λu7 N _ M=>λn=>nE 3 M N Q5<|match u7,n with|_,rfl=>sF Q<|pD oI 17 [] [0,33,35,38,43] f () Q8<|mQ (p:=((Z.set w.toNat g).set ((aZ (w-1)).toNat) f)) () [20] a Q)) λh _=>λa=>nd a λhl8 a=>wi a<|sO [0] Q)<|rU [0] Q) λi _=>λc=>nd c λhl5 c=>wi c<|sO [0] Q)<|rU [0] Q) λC _=>λhF=>nd hF λF hF=>sF Q<|pnR 0 F Q<|rN () [0] hF Q2 Q4
theorem RJ{data:an}{b a:Int}:VS prog U 435 (pR data h b a) [.h g data.length,I h,I b,I a] [] [ow g (data:an)] (λr (y:Unit)=>.t []) (λr y=>[.o (fF [AC.v g data.length] r)]):=
 cD call435 func435 Q Q2<|lrW () [0,1,2,3,8,9] (λ(_:Unit) (_:Unit)=>[]) [0] [0] (λ_ _=>[]) Q Q (λf _ _ d=>bE [23] Q2 (N7 [0] Q4 (λ_=>H5) λi _=>λc=>un 1 [0,24] [] [] Q6 λe=>sR Q<|pnR 1 e Q<|rN () [1] (re c Q d f) Q2 Q4)<|bE [29] Q2 (λc=>nomatch c)<|λc=>nomatch c)
theorem aJ3:V0 prog U 492 (aBD x) [.i .u64 x] I:=
 cD call492 func492 Q Q2<|eP 0 0 (λ(p:Int×Int)=>GZ p.1 p.2) [] (λ(p:Int×Int) (_:Unit)=>[(0,.i .u64 p.1),(2,I p.2)]) [] (λp _=>[]) Q (bE [4] Q2 (bL (p:=(qO .u64 x 32,32)) [] Q2)<|bL (p:=(x,0)) [] Q2) λ⟨e,d⟩ _=>eP 0 0 (λ(p:Int×Int)=>GY p.1 p.2) [] (λ(p:Int×Int) (_:Unit)=>[(0,.i .u64 p.1),(2,I p.2)]) [] (λp _=>[]) Q (bE [8] Q2 (bL (p:=(qO .u64 e 16,aZ (d+16))) [] Q2)<|bL (p:=(e,d)) [] Q2) λ⟨c,b⟩ _=>eP 0 0 (λ(p:Int×Int)=>GX p.1 p.2) [] (λ(p:Int×Int) (_:Unit)=>[(0,.i .u64 p.1),(2,I p.2)]) [] (λp _=>[]) Q (bE [14] Q2 (bL (p:=(qO .u64 c 8,aZ (b+8))) [] Q2)<|bL (p:=(c,b)) [] Q2) λ⟨h,g⟩ _=>λa=>qsi Q Q Q Q Q a λf _ a=>wi a<|b8 Q2
theorem aO6:V0 prog U 436 (EA x) [.i .u64 x] I:=
 cD call436 func436 Q Q2<|c0 Q (λ_=>aJ3) λa=>b8 Q2
theorem aJ4{x:an}{b:AC}:VS prog U 333 (FN x) [.h b x.length] [] [ow b (x:an)] (λr (y:Unit)=>.t []) (λr y=>[.o (fF [AC.v b x.length] r)]):=
 cD call333 func333 Q Q2<|c0 Q (λ_=>aO6) λe=>N7 [0] Q4 (λ_=>RJ) λd _=>λc=>un 1 [0,3,5] [] [] Q6 λa=>sF Q<|pnR 1 a Q<|rN () [1] c Q2 Q4
theorem aDW{s:an}{a:AC}:VS prog U 334 (slices_Compact_int s) [.h a s.length] [] [ow a s] (λr (y:AC)=>.h y r.length) (λr y=>[ow y r]):=bV5 bTX call334
theorem aTJ{l:az}(u:aU U i l):VS prog U 200 (QW l) [.h i l.length] [] [] (λr (y:AC)=>.h y r.length) (λr y=>[ow y r]):=
 cD call200 func200 Q Q2<|λg=>Y9 (O:=Int) bD Q4 λt=>wi g<|LP t [8,9] (λ(p:an×Int) (b:AC)=>[(3,.h b p.1.length),(10,I p.2)]) [0] [] (λp b=>[ow b (p.1:an)]) id [] (λ(c:an) (f:AC)=>[(3,.h f c.length)]) [] (λc f=>[ow f (c:an)]) Q Q (λn ⟨z,o⟩ b k=>bE [11] Q2 (eP 2 0 (FO o) [8,9,10] (λ(e:an) (d:AC)=>[(3,.h d e.length)]) [] (λe d=>[ow d (e:an)]) Q (kP BF Q u Q λv _ _=>c0 Q (λ_=>Z6) λj=>bE [18] Q2 (λa=>lt1 Q bD Q Q Q Q λA=>ap 0 bD Q Q Q Q Q Q Q (λh=>(h.o 3 Q)) Q Q a λa q=>wi a<|pE q [0] Q2)<|pE b [0] Q2) λe d=>nxW d [0] Q)<|bkW b [0] Q) λc f=>wm (F:=O9 c) Q<|N7 [0] Q4 (λ_=>aJ4) λx _=>λg=>un 1 [3,24] [] [] Q6 λm=>wi g<|N7 [1] Q4 (λ_=>aDW) λw s=>jB s [2] Q2
theorem BK{s:bx}{f:(Seen->aw)}{b:FuncId}{a:ar}(e:aU U d s)(c:Fu1 prog U (aGL:GM Seen) .b b a f):V0 prog U 201 (gH s f) [.h d s.length,.k (.func (.func b) #[] a.toArray)] .b:=
 cD call201 func201 Q Q2<|c0 Q (λh=>HW (h.a e) (h.u1 c)) λg=>b8 Q2
theorem aFS{s:Seen}{b:Int}{a:bZ}{d b1 c:Nat×Nat}:VS prog U 202 (zC s b a) [.g [I s.bZ,I s.eW],.p 0 0,.p 1 0] [d,b1,c] [.ro 0 [I b],.ro 1 [.p 2 0],.ro 2 [I a.Head,I a.eW,I a.eU]] (λr (_:Unit)=>.b r) (λ_ _=>[]):=
 cD call202 func202 Q Q2<|dJ 0 4 rD [] 4 [] Q (iP aJ [0,1,2,3] Q<|dE [8,9] Q2 (bL [] Q2)<|bL [] Q2) λe=>b8 Q2
theorem aJ5{b:Int}{x v o f:AC}{b0:Nat×Nat}:VS prog U 84 (FP t b) [.p 0 0,I b] [b0] ([.box 0 (LK t x w v u s q o j e g f)]++(T1 t x w v u s q o j e g f [])) (λr (y:AC)=>.t []) (λr y=>([.box 0 (LK r x w v u s q o j e g y)]++(T1 r x w v u s q o j e g y []))):=
 cD call84 func84 Q Q2<|rV bB 9 Q3 λx1 F z h2=>λa=>nE 1 h2 F Q5<|wi a<|c1 Q (λh=>aTJ (h.o 17 Q)) λE s13=>eP 0 2 (λ(p:ay×bp)=>o5 t b E p.1 p.2) [0,1,4,5] (λ(p:ay×bp) (_:Unit)=>[]) [22,1,2,3,4,5,6,7,10,11,14] (λp _=>[ow j (p.1:ay),ow e (p.2:bp),.box 0 [.h x t.aA.Mem.Heap.Bytes.length,.h w t.aA.Mem.Heap.Class.length,.h v t.aA.Mem.aC.Global.length,.h u t.aA.Mem.aC.Own.length,I t.aA.aD.aL,.h s t.aA.aD.cV.length,.h q t.aA.aQ.length,.h o t.aA.pJ.length,.h j p.1.length,.h e p.2.length,.h g t.eE.length,.h f t.Log.length,I t.aG]]) Q (bE [25] Q2 (rV oI 22 Q3 λk h7 _ h8=>λa=>nE 2 h8 h7 Q5<|cqS oI 23 [] h7 () Q9<|wi a<|iP aJ [0,14,25,26] Q<|rV EY 8 Q3 λx8 Z _ W=>λa=>nE 4 W Z Q5<|wi a<|eP 0 6 (iY t b E k) [0,1,4,5,6,7] (λ(X:Bool) (_:Unit)=>[(39,.b X)]) [27,1,2,3,4,5,6,7,10,11,0,14,30] (λX _=>[ow j (t.aT:ay),ow e (t.aR:bp),.ro 3 [I k],.ro 5 [.p 4 0]]) Q (λa=>shS [3,5] Q Q<|wi a<|dE [44,45] Q2 (λa=>sF Q<|fR Q2<|kO EY 28 [] Z () Q7<|fR Q2<|kO bB 12 [15,16,17,18,19,20,21] F z Q7<|fR Q2<|mQ () [32,33,26,31,27,1,2,3,4,5,6,7,10,11,0,14,30] a Q)<|λa=>mf [3,5] Q Q Q<|wi a<|clP (n3:=4) [26,31,29] Q Q Q Q (λh=>λhB=>BK (h.o 16 Q) (fkP (xs:=[.p 0 0,.p 1 0]) call202 hB Q λ_ _=>aFS)) λx19=>λa=>sF Q<|fR Q2<|kO EY 28 [] Z () Q7<|fR Q2<|kO bB 12 [15,16,17,18,19,20,21] F z Q7<|fR Q2<|mQ () [32,33,26,31,27,1,2,3,4,5,6,7,10,11,0,14,30] a Q) λX _=>bE [39] Q2 (λa=>ro bB 1 15 1 Q Q Q Q a λx10 h11 a N=>wi a<|fN 18 1 0 32 [20,21,22,23,24,25,26] Q5 (λ_=>eS) λH _=>λa=>sR Q<|fR Q2<|pD bB 17 [27,28,29,30,31,32,33] [] H N Q8<|fR Q2<|uW e dM.symm [] [(14,9)] Q3<|fR Q2<|rN f [14,5,6,7,8,9,10,11,0,34,12,13] a Q2 Q4)<|λa=>ro EY 0 16 4 Q Q Q Q a λd V a _=>wi a<|bE [55,60] Q2 (λa=>ro bB 1 15 1 Q Q Q Q a λx13 h15 a M=>wi a<|fN 21 1 0 32 [23,24,25,26,27,28,29] Q5 (λ_=>eS) λG _=>λa=>sR Q<|fR Q2<|pD bB 20 [30,31,32,33,34,35,36] [] G M Q8<|fR Q2<|uW e dM.symm [] [(14,9)] Q3<|fR Q2<|kO EY 17 [] V () Q7<|fR Q2<|rN f [14,5,6,7,8,9,10,11,38,37,12,13] a Q2 Q4)<|eP 1 6 (o6 t b E k d) [0,1,4,5] (λ(l:bp) (_:Unit)=>[]) [4,5,6,7,8,9,10,11,12,13,15] (λl _=>[ow j (t.aT.set k.toNat ({d with eU:=aZ (b+1)}:bZ):ay),ow e (l:bp),.box 0 [.h x t.aA.Mem.Heap.Bytes.length,.h w t.aA.Mem.Heap.Class.length,.h v t.aA.Mem.aC.Global.length,.h u t.aA.Mem.aC.Own.length,I t.aA.aD.aL,.h s t.aA.aD.cV.length,.h q t.aA.aQ.length,.h o t.aA.pJ.length,.h j (t.aT.set k.toNat ({d with eU:=aZ (b+1)}:bZ)).length,.h e l.length,.h g t.eE.length,.h f t.Log.length,I t.aG]]) Q (iP aJ [2,3,14,15,16,19] Q<|λa=>ro bB 1 15 1 Q Q Q Q a λc T a i=>wi a<|c0 Q (λh=>lQ (h.o 28 Q)) λx18=>bE [74] Q2 (eP 0 6 (λ(_:Unit)=>G3 t b E k d c) [0,1,4,5] (λ(_:Unit) (_:Unit)=>[]) [4,5,6,7,8,9,10,11,12,13,15] (λ_ _=>[ow j (t.aT.set k.toNat ({d with eU:=aZ (b+1)}:bZ):ay),ow e (t.aR.set b.toNat ({c with bH:=c.bH++([k])}:aK):bp),.box 0 [.h x t.aA.Mem.Heap.Bytes.length,.h w t.aA.Mem.Heap.Class.length,.h v t.aA.Mem.aC.Global.length,.h u t.aA.Mem.aC.Own.length,I t.aA.aD.aL,.h s t.aA.aD.cV.length,.h q t.aA.aQ.length,.h o t.aA.pJ.length,.h j (t.aT.set k.toNat ({d with eU:=aZ (b+1)}:bZ)).length,.h e (t.aR.set b.toNat ({c with bH:=c.bH++([k])}:aK)).length,.h g t.eE.length,.h f t.Log.length,I t.aG]]) Q (iP aJ [2,3,14,15,16,19,22] Q<|λa=>nd a λR a=>(by refine fA Q2 ?_ ?_<;>exact lt1 Q bD Q Q Q Q λs31=>have B:=rn R;ap 28 bD Q Q Q Q Q Q Q (λh=>(h.o 30 Q)) Q Q B λB J=>sF Q<|fR Q2<|pD bB 20 [23,24,25,26,27,28,29] [] ({c with bH:=c.bH++([k])}:aK) (i.1,i.2.1,i.2.2.1,i.2.2.2.1,i.2.2.2.2.1,J,i.2.2.2.2.2.2) Q8<|fR Q2<|uW e dM.symm [] [(14,9)] Q3<|fR Q2<|pD EY 17 [] [] ({d with eU:=aZ (b+1)}:bZ) () Q8<|fR Q2<|uW j dM.symm [] [(14,8)] Q3<|fR Q2<|mQ (p:=()) () [32,31,14,4,5,6,7,8,9,10,11,12,13,15] a Q)) λ_ _=>bL (p:=(t.aR.set b.toNat ({c with bH:=c.bH++([k])}:aK))) [0,1,2,3,4,5,6,7,8,9,10,11,12,13] Q2)<|λa=>sF Q<|fR Q2<|kO bB 20 [23,24,25,26,27,28,29] T i Q7<|fR Q2<|pD EY 17 [] [] ({d with eU:=aZ (b+1)}:bZ) () Q8<|fR Q2<|uW j dM.symm [] [(14,8)] Q3<|fR Q2<|mQ () [31,30,14,4,5,6,7,8,9,10,11,12,13,15] a Q) λl _=>λa=>ro bB 1 13 1 Q Q Q Q a λn h17 a L=>sF Q<|fR Q2<|pD bB 14 [17,18,19,20,21,22,23] [] ({n with K:=aZ (n.K+1)}:aK) L Q8<|fR Q2<|uW e dM.symm [] [(2,9)] Q3<|fR Q2<|mQ (p:=(t.aT.set k.toNat ({d with eU:=aZ (b+1)}:bZ),l.set b.toNat ({n with K:=aZ (n.K+1)}:aK))) () [0,24,2,3,4,5,6,7,8,9,10,11,12,13] a Q)<|λa=>sF Q<|fR Q2<|kO bB 12 [15,16,17,18,19,20,21] F z Q7<|fR Q2<|mQ (p:=(t.aT,t.aR)) () [8,23,0,22,1,2,3,4,5,6,7,10,11,14] a Q) λ⟨x3,Y⟩ _=>λa=>ro bB 1 13 1 Q Q Q Q a λD h3 a A=>wi a<|bE [98] Q2 (eP 0 2 (λ(_:Unit)=>vX t b x3 Y D) [0,4] (λ(_:Unit) (m:AC)=>[]) [4,5,6,7,8,9,10,0,11,13] (λ_ m=>[ow e (Y:bp),ow m (t.Log++([(⟨2,b,D.aG,0,[],[]⟩:iO)]):a7),.box 0 [.h x t.aA.Mem.Heap.Bytes.length,.h w t.aA.Mem.Heap.Class.length,.h v t.aA.Mem.aC.Global.length,.h u t.aA.Mem.aC.Own.length,I t.aA.aD.aL,.h s t.aA.aD.cV.length,.h q t.aA.aQ.length,.h o t.aA.pJ.length,.h j x3.length,.h e Y.length,.h g t.eE.length,.h m (t.Log++([(⟨2,b,D.aG,0,[],[]⟩:iO)])).length,I t.aG]]) Q (iP aJ [13,16] Q<|λa=>nd a λS a=>(by repeat' first|refine fA Q2 ?_ ?_|refine nw iK Q<|nw eX Q<|ZA bG6 [24,25] ((⟨2,b,D.aG,0,[],[]⟩:iO)) (⟨none,0⟩,⟨none,0⟩) oF ZB λs19=>?_|refine have C:=rn S;apN 12 26 oF Q Q Q9 C λC O=>sF Q<|fR Q2<|kO bB 14 [17,18,19,20,21,22,23] h3 A Q7<|fR Q2<|?_|exact mQ (p:=()) O [28,27,2,4,5,6,7,8,9,10,0,11,13] a Q)) λ_ m=>λa=>ro bB 0 12 1 Q Q Q Q a λx6 h5 a P=>sF Q<|fR Q2<|pD bB 13 [16,17,18,19,20,21,22] [] ({x6 with Pc:=8,K:=0}:aK) P Q8<|fR Q2<|uW e dM.symm [] [(2,9)] Q3<|fR Q2<|rN m [2,3,4,5,6,7,8,9,10,23,11,1] a Q2 Q4)<|λa=>sF Q<|fR Q2<|kO bB 14 [17,18,19,20,21,22,23] h3 A Q7<|rN f [2,4,5,6,7,8,9,10,0,24,11,12] a Q2 Q4
theorem aB9{s:Int}{O G f:AC}{b0:Nat×Nat}:VS prog U 85 (sV t s) [.p 0 0,I s] [b0] ([.box 0 (LK t O N M L J H G F f e d)]++(T1 t O N M L J H G F f e d [])) (λr (y:Unit)=>.t []) (λr y=>([.box 0 (LK r O N M L J H G F f e d)]++(T1 r O N M L J H G F f e d []))):=
 cD call85 func85 Q Q2<|rV bB 9 Q3 λx1 h1 W h2=>λa=>nE 1 h2 h1 Q5<|wi a<|eP 0 2 (λ(_:Unit)=>wA t s x1) [0,1,4] (λ(_:Unit) (_:Unit)=>[(22,.b (decide ((x1.Reads.length:Int)<=x1.K)))]) [1,2,3,4,5,6,7,8,10,11,0,14] (λ_ _=>[ow f (t.aR:bp)]) Q (iP aJ [0,14] Q<|λa=>(by refine fA Q2 ?_ ?_<;>exact sF Q<|fR Q2<|kO bB 12 [15,16,17,18,19,20,21] h1 W Q7<|fR Q2<|mQ (p:=()) () [22,1,2,3,4,5,6,7,8,10,11,0,14] a Q)) λ_ _=>bE [22] Q2 (λa=>ro bB 0 12 1 Q Q Q Q a λx2 h3 a V=>sR Q<|fR Q2<|pD bB 13 [16,17,18,19,20,21,22] [] ({x2 with Pc:=9,K:=0}:aK) V Q8<|fR Q2<|uW f dM.symm [] [(11,9)] Q3<|fR Q2<|rN () [11,1,2,3,4,5,6,7,8,23,9,10] a Q2 Q4)<|eP 0 4 (λ(p:Int×Int)=>vZ t s p.1 p.2) [0,1,4] (λ(p:Int×Int) (_:Unit)=>[(5,.p 3 0)]) [1,2,3,4,5,6,7,8,0,9,10,11,12] (λp _=>[.box 3 [I p.1,I p.2]]) Q (iP aJ [11,12] Q<|λa=>bd a λx13 q a=>bd a λb c a=>aV5 Q Q (have o:=rb q;ro bB 0 12 1 Q Q Q Q o λu1 E o w=>match u1,o with|_,rfl=>fA Q2 (have n:=rb c;wi n<|rV aDI 17 Q3 λu2 D _ h18=>λn=>nE 2 h18 D Q5<|match u2,n with|_,rfl=>(by refine fA Q2 ?_ ?_<;>exact sF Q<|fR Q2<|kO aDI 23 [] D () Q7<|fR Q2<|kO bB 13 [16,27,18,19,20,21,22] E w Q7<|fR Q2<|mQ (p:=(b.bZ,b.eW)) () [26,1,2,3,4,5,6,7,8,28,9,10,11,12] a Q)) (have m:=rb c;wi m<|rV aDI 17 Q3 λu3 C _ h20=>λm=>nE 3 h20 C Q5<|match u3,m with|_,rfl=>sF Q<|swR 3 2 Q<|fD Q Q<|fR Q2<|kO aDI 24 [] C () Q7<|fR Q2<|kO bB 13 [16,27,18,19,20,21,22] E w Q7<|fR Q2<|mQ (p:=(b.bZ,b.eW)) () [23,1,2,3,4,5,6,7,8,28,9,10,11,12] a Q)) (have l:=rb q;ro bB 0 12 1 Q Q Q Q l λu4 B l v=>match u4,l with|_,rfl=>fA Q2 (have k:=rb c;wi k<|rV aDI 17 Q3 λu5 A _ h24=>λk=>nE 2 h24 A Q5<|match u5,k with|_,rfl=>(by refine fA Q2 ?_ ?_<;>exact sF Q<|fR Q2<|kO aDI 23 [] A () Q7<|fR Q2<|kO bB 13 [16,27,18,19,20,21,22] B v Q7<|fR Q2<|mQ (p:=(b.bZ,b.eW)) () [26,1,2,3,4,5,6,7,8,28,9,10,11,12] a Q)) (have j:=rb c;wi j<|rV aDI 17 Q3 λu6 z _ Z=>λj=>nE 3 Z z Q5<|match u6,j with|_,rfl=>sF Q<|swR 3 2 Q<|fD Q Q<|fR Q2<|kO aDI 24 [] z () Q7<|fR Q2<|kO bB 13 [16,27,18,19,20,21,22] B v Q7<|fR Q2<|mQ (p:=(b.bZ,b.eW)) () [23,1,2,3,4,5,6,7,8,28,9,10,11,12] a Q)) ((by refine fA Q2 ?_ ?_<;>exact have i:=rb q;ro bB 0 12 1 Q Q Q Q i λu7 Y i R=>match u7,i with|_,rfl=>have h:=rb c;wi h<|rV aDI 18 Q3 λu8 x _ X=>λh=>nE 3 X x Q5<|match u8,h with|_,rfl=>sF Q<|swR 3 2 Q<|fD Q Q<|fR Q2<|kO aDI 24 [] x () Q7<|fR Q2<|kO bB 14 [17,27,19,20,21,22,23] Y R Q7<|fR Q2<|mQ (p:=(b.bZ,b.eW)) () [13,1,2,3,4,5,6,7,8,28,9,10,11,12] a Q))) λ⟨x3,x4⟩ _=>eP 0 6 (λ(p:Int×Int×Int)=>vY t s x4 p.1 p.2.1 p.2.2) [0,1,4,5] (λ(p:Int×Int×Int) (_:Unit)=>[(6,.p 5 0)]) [1,2,3,4,5,6,7,8,9,10,11,12,13,0] (λp _=>[.box 5 [I p.1,I p.2.1,I p.2.2]]) Q (iP aJ [0,12,13] Q<|rV EY 8 Q3 λg h9 _ h10=>λa=>nE 4 h10 h9 Q5<|(by refine fA Q2 ?_ ?_<;>exact sF Q<|kO EY 14 [] h9 () Q7<|fR Q2<|mQ (p:=(g.Head,g.eW,g.eU)) () [17,1,2,3,4,5,6,7,18,9,10,11,12,13,0] a Q)) λ⟨x5,x6,x7⟩ _=>dJ 0 6 (gA t s) [0,4] 63 [1,2,3,4,5,6,7,8,9,10,11,12,13] Q (dE [49,50] Q2 (dE [55,56,57] Q2 (bL [1,2,3,4,5,6,7,8,9,10,11,12,13] Q2)<|bL [1,2,3,4,5,6,7,8,9,10,11,12,13] Q2)<|bL [1,2,3,4,5,6,7,8,9,10,11,12,13] Q2) λx8=>bE [63] Q2 (λa=>ro bB 8 12 1 Q Q Q Q a λx9 h5 a T=>wi a<|fN 14 1 0 32 [16,17,18,19,20,21,22] Q5 (λ_=>eS) λP _=>λa=>sR Q<|fR Q2<|pD bB 13 [23,24,25,26,27,28,29] [] P T Q8<|fR Q2<|uW f dM.symm [] [(11,9)] Q3<|fR Q2<|rN () [11,0,1,2,3,4,5,6,7,30,9,10] a Q2 Q4)<|λa=>ro bB 8 12 1 Q Q Q Q a λu h7 a S=>sF Q<|fR Q2<|pD bB 13 [16,17,18,19,20,21,22] [] ({u with K:=aZ (u.K+1)}:aK) S Q8<|fR Q2<|uW f dM.symm [] [(11,9)] Q3<|fR Q2<|rN () [11,0,1,2,3,4,5,6,7,23,9,10] a Q2 Q4
theorem KT{j:aK}{x:aX}{f b a:AC}{h:Nat×Nat}:VS prog U 204 (qB j x) [.p 0 0,.g [I x.Key,.b x.LJ,I x.dP]] [h] ([.box 0 (gTj j g f e d c b a)]++(oTj j g f e d c b a [])) (λr (y:Unit)=>.t []) (λr y=>([.box 0 (gTj r g f e d c b a)]++(oTj r g f e d c b a []))):=
 cD call204 func204 Q Q2<|bE [8] Q2 (LH () [0,1,2,3,4,5,6,7] Q Q)<|LH () [0,1,2,3,4,5,6,7] Q Q
theorem BL{f:AC}(k:aU U f m.Heap.Bytes)(j:aU U e m.Heap.Class)(i:aU U d m.aC.Global)(g:aU U c m.aC.Own):VS prog U 212 (rE m) [.g (gM m f e d c)] [] [] (λr (y:A4C)=>.g (yM r y)) (λr y=>(zM r y [])):=
 cD call212 func212 Q Q2<|iP aJ [0] Q<|c1 Q (λh=>GD (h.a k) (h.a j)) λn b=>c1 Q (λh=>kJ (h.a i) (h.a g)) λl a=>jB (b.1,b.2,a.1,a.2) [2,3,4,5] Q2
theorem aBQ{h:Heap}{s:bK}{c:Int}{f:AC}(i:aU U f h.Bytes)(g:aU U e h.Class)(k:aU U d s.aW):V0 prog U 348 (EB h s c) [.g [.h f h.Bytes.length,.h e h.Class.length],.g [.h d s.aW.length],I c] .b:=
 cD call348 func348 Q Q2<|BX 12 [2,3,10,11] [0] Out.brk [] [] Q Q (λb j a=>bE [13] Q2 (ixI Q k Q λo=>dJ 0 3 (CF j) [2,3,10,11,12] 26 [0] Q (c0 Q (λh=>pB (h.a i) (h.a g)) λm=>dE [20,21] Q2 (bL [0] Q2)<|c0 Q (λh=>RI (h.a i) (h.a g)) λl=>bL [0] Q2) λn=>bE [26] Q2 (uX a b<|b8 Q2)<|sO [0] Q)<|rU [] Q)<|b8 Q2
theorem KU(f:aU U k m.Heap.Bytes)(e:aU U j m.Heap.Class)(n:aU U i m.aC.Global)(l:aU U g m.aC.Own):V0 prog U 219 (AI m) [.g (gM m k j i g)] .b:=
 cD call219 func219 Q Q2<|dJ 0 1 (NA m) [1] 16 [0] Q (c0 Q (λh=>aGP (h.a f) (h.a e)) λp=>dE [10,11] Q2 (bL [0] Q2)<|c0 Q (λh=>KR (h.a n) (h.a l)) λo=>bL [0] Q2) λy=>bE [16] Q2 (b8 Q2)<|BX 21 [1,19,20] [0] Out.brk [1] [0] Q Q (λd x b=>bE [22] Q2 (kP KQ Q n Q λt z q=>c0 Q (λh=>aBQ (h.a f) (h.a e) (h.a q)) λs=>bE [31] Q2 (uX b d<|b8 Q2)<|sO [0] Q)<|rU [0] Q)<|BX 37 [1,35,36] [0] Out.brk [] [] Q Q (λc w a=>bE [38] Q2 (kP KQ Q l Q λv A r=>c0 Q (λh=>aBQ (h.a f) (h.a e) (h.a r)) λu=>bE [48] Q2 (uX a c<|b8 Q2)<|sO [0] Q)<|rU [] Q)<|b8 Q2
theorem yS:V0 prog U 229 (oE h) [I h] .b:=
 cD call229 func229 Q Q2<|dJ 0 0 AJ [] 2 [] Q (dE [4,5] Q2 (bL [] Q2)<|c0 Q (λ_=>jW) λa=>bL [] Q2) λb=>b8 Q2
theorem PM{b a:AC}(f:aU U d m.Heap.Bytes)(e:aU U c m.Heap.Class)(i:aU U b m.aC.Global)(g:aU U a m.aC.Own):V0 prog U 245 (yN m h) [.g (gM m d c b a),I h] I:=
 cD call245 func245 Q Q2<|c0 Q (λh=>N2 (h.a f) (h.a e) (h.a i) (h.a g)) λk=>bE [5,9] Q2 (b8 Q2)<|c0 Q (λh=>aDT (h.a f) (h.a e)) λj=>bE [10,16] Q2 (b8 Q2)<|b8 Q2
theorem sD{a:Int}{z:AC}(o:aU U C m.Heap.Bytes)(n:aU U B m.Heap.Class)(v:aU U A m.aC.Global)(u:aU U z m.aC.Own):VS prog U 205 (UW m h a) [.g (gM m C B A z),I h,I a] [] [] (λr (y:A4C)=>.t [.g (yM r.1 y),I r.2]) (λr y=>(zM r.1 y [])):=
 cD call205 func205 Q Q2<|c1 Q (λh=>BL (h.a o) (h.a n) (h.a v) (h.a u)) λx c=>eP 0 3 (λ(p:Bool×Mem)=>JV m h a p.1 p.2) [1,2,3,6,8] (λ(p:Bool×Mem) (_:Unit)=>[(19,.b p.1)]) [0,1] (λp _=>(zM p.2 c [.box 2 (yM p.2 c)])) Q (c0 Q (λh=>KU (h.a o) (h.a n) (h.a v) (h.a u)) λD=>dE [14,15] Q2 (bL (p:=(true,x)) [2,3,4,5,6,0,1] Q2)<|c0 Q (λ_=>yS) λs=>bL (p:=(!s,x)) [2,3,4,5,6,0,1] Q2) λ⟨M,j⟩ _=>bE [19] Q2 (jB c [0,1,2,3] Q2)<|c0 Q (λh=>PM (h.a o) (h.a n) (h.a v) (h.a u)) λw=>eP 0 3 (SK w) [6,8,9] (λ(q:Mem) (_:Unit)=>[]) [6] (λq _=>(zM q c [.box 2 (yM q c)])) Q (bE [25] Q2 (eP 0 3 (aCX w) [6,8,9] (λ(l:Mem) (_:Unit)=>[]) [6] (λl _=>(zM l c [.box 2 (yM l c)])) Q (iP aJ [5,6] Q<|λb=>bd b λL k b=>bd b λK i b=>bd b λt g b=>fA Q2 (IG k Q (λh=>BJ (h.a o) (h.a n))<|IG i Q (λ_=>eK)<|have f:=rb g;wi f<|N7 [0] Q4 (λ_=>gZ) λJ _=>λf=>un 7 [28] [] [(4,0)] Q6 λG=>match J,f with|_,rfl=>wi b<|bL (p:=((⟨(⟨t,j.Heap.Class⟩:Heap),j.aC⟩:Mem))) [7,1,2,3,4,6] Q2) (IG k Q (λh=>BJ (h.a o) (h.a n))<|fA Q2 (IG i Q (λ_=>eK)<|have e:=rb g;wi e<|N7 [0] Q4 (λ_=>gZ) λH _=>λe=>un 7 [28] [] [(4,0)] Q6 λF=>match H,e with|_,rfl=>wi b<|bL (p:=((⟨(⟨t,j.Heap.Class⟩:Heap),j.aC⟩:Mem))) [7,1,2,3,4,6] Q2) (IG i Q (λ_=>eK)<|have d:=rb g;wi d<|N7 [0] Q4 (λ_=>gZ) λu8 _=>λd=>un 7 [28] [] [(4,0)] Q6 λE=>match u8,d with|_,rfl=>wi b<|bL (p:=((⟨(⟨t,j.Heap.Class⟩:Heap),j.aC⟩:Mem))) [7,1,2,3,4,6] Q2))) λl _=>bL (p:=(l)) [0,1,2,3,4,5] Q2)<|bL [0,1,2,3,4,6] Q2) λq _=>jB c [0,1,2,3] Q2
theorem aGT{n:gL}:V0 prog U 246 (OH n) [.g [I n.Key,I n.dP,I n.Next]] .b:=
 cD call246 func246 Q Q2<|dJ 0 1 AK [] 2 [] Q (c0 Q (λ_=>bI) λc=>dE [5,6] Q2 (c0 Q (λ_=>bI) λb=>dE [9,10,11] Q2 (c0 Q (λ_=>yS) λa=>bL [] Q2)<|bL [] Q2)<|bL [] Q2) λd=>b8 Q2
theorem aTK{n:gL}{X W V:AC}(H:aU U Y m.Heap.Bytes)(G:aU U X m.Heap.Class)(R:aU U W m.aC.Global)(P:aU U V m.aC.Own):VS prog U 338 (QX m h n) [.g (gM m Y X W V),I h,.g [I n.Key,I n.dP,I n.Next]] [] [] (λr (y:A4C)=>.t [.g (yM r.1 y),I r.2]) (λr y=>(zM r.1 y [])):=
 cD call338 func338 Q Q2<|c1 Q (λh=>BL (h.a H) (h.a G) (h.a R) (h.a P)) λT z=>eP 0 4 (λ(p:Bool×Mem)=>FQ m h n p.1 p.2) [1,3,5,6,8] (λ(p:Bool×Mem) (_:Unit)=>[(19,.b p.1)]) [0,1,2] (λp _=>(zM p.2 z [.box 3 (yM p.2 z)])) Q (c0 Q (λh=>KU (h.a H) (h.a G) (h.a R) (h.a P)) λZ=>dE [14,15] Q2 (bL (p:=(true,T)) [3,4,5,6,7,0,1,2] Q2)<|c0 Q (λ_=>aGT) λK=>bL (p:=(!K,T)) [3,4,5,6,7,0,1,2] Q2) λ⟨x2,k⟩ _=>bE [19] Q2 (jB z [0,1,2,3] Q2)<|c0 Q (λh=>PM (h.a H) (h.a G) (h.a R) (h.a P)) λS=>eP 0 4 (PB S) [6,8,9] (λ(J:Mem) (_:Unit)=>[]) [7] (λJ _=>(zM J z [.box 3 (yM J z)])) Q (bE [25] Q2 (eP 0 4 (aBF S) [6,8,9] (λ(F:Mem) (_:Unit)=>[]) [7] (λF _=>(zM F z [.box 3 (yM F z)])) Q (iP aJ [5,6,7] Q<|λa=>bd a λx7 E a=>bd a λx8 B a=>bd a λx9 o a=>nd a λl a=>bd a λx10 j a=>nd a λi a=>bd a λf g a=>fA Q2 (IG E Q (λh=>BJ (h.a H) (h.a G))<|IG B Q (λ_=>eK)<|IG o Q (λ_=>eK)<|have D:=rn l;cat Q Q Q Q D λD=>IG j Q (λ_=>eK)<|have C:=rn i;cat Q Q Q Q C λC=>have A:=rb g;wi A<|N7 [0] Q4 (λ_=>gZ) λu5 _=>λA=>un 8 [28] [] [(4,0)] Q6 λhl2=>match u5,A with|_,rfl=>wi a<|bL (p:=((⟨(⟨f,k.Heap.Class⟩:Heap),k.aC⟩:Mem))) [8,1,2,3,4,7] Q2) (IG E Q (λh=>BJ (h.a H) (h.a G))<|fA Q2 (IG B Q (λ_=>eK)<|IG o Q (λ_=>eK)<|have x:=rn l;cat Q Q Q Q x λx=>IG j Q (λ_=>eK)<|have w:=rn i;cat Q Q Q Q w λw=>have e:=rb g;wi e<|N7 [0] Q4 (λ_=>gZ) λO _=>λe=>un 8 [28] [] [(4,0)] Q6 λhl3=>match O,e with|_,rfl=>wi a<|bL (p:=((⟨(⟨f,k.Heap.Class⟩:Heap),k.aC⟩:Mem))) [8,1,2,3,4,7] Q2) (IG B Q (λ_=>eK)<|fA Q2 (IG o Q (λ_=>eK)<|have v:=rn l;cat Q Q Q Q v λv=>IG j Q (λ_=>eK)<|have u:=rn i;cat Q Q Q Q u λu=>have d:=rb g;wi d<|N7 [0] Q4 (λ_=>gZ) λN _=>λd=>un 8 [28] [] [(4,0)] Q6 λhl4=>match N,d with|_,rfl=>wi a<|bL (p:=((⟨(⟨f,k.Heap.Class⟩:Heap),k.aC⟩:Mem))) [8,1,2,3,4,7] Q2) (IG o Q (λ_=>eK)<|have t:=rn l;cat Q Q Q Q t λt=>fA Q2 (IG j Q (λ_=>eK)<|have s:=rn i;cat Q Q Q Q s λs=>have c:=rb g;wi c<|N7 [0] Q4 (λ_=>gZ) λM _=>λc=>un 8 [28] [] [(4,0)] Q6 λhl5=>match M,c with|_,rfl=>wi a<|bL (p:=((⟨(⟨f,k.Heap.Class⟩:Heap),k.aC⟩:Mem))) [8,1,2,3,4,7] Q2) (IG j Q (λ_=>eK)<|have q:=rn i;cat Q Q Q Q q λq=>have b:=rb g;wi b<|N7 [0] Q4 (λ_=>gZ) λL _=>λb=>un 8 [28] [] [(4,0)] Q6 λhl6=>match L,b with|_,rfl=>wi a<|bL (p:=((⟨(⟨f,k.Heap.Class⟩:Heap),k.aC⟩:Mem))) [8,1,2,3,4,7] Q2))))) λF _=>bL (p:=(F)) [0,1,2,3,4,5] Q2)<|bL [0,1,2,3,4,7] Q2) λJ _=>jB z [0,1,2,3] Q2
theorem aJ6{j:aK}{x:aX}{b:bZ}{z v o:AC}{m l f:AC}{R b1 P:Nat×Nat}:VS prog U 206 (PC t j x b) [.p 0 0,.p 1 0,.g [I x.Key,.b x.LJ,I x.dP],.p 2 0] [R,b1,P] (([.box 0 (LK t A z w v q o n J H d c),.box 1 (gTj j m l k i g f e),.box 2 [I b.Head,I b.eW,I b.eU]]++(oBs t.aA A z w v q o n [ow d (t.eE:ax),ow c (t.Log:a7)]))++(oTj j m l k i g f e [])) (λr (y:A4C)=>.t []) (λr y=>(([.box 0 [.h y.1 r.1.aA.Mem.Heap.Bytes.length,.h y.2.1 r.1.aA.Mem.Heap.Class.length,.h y.2.2.1 r.1.aA.Mem.aC.Global.length,.h y.2.2.2 r.1.aA.Mem.aC.Own.length,I r.1.aA.aD.aL,.h q r.1.aA.aD.cV.length,.h o r.1.aA.aQ.length,.h n r.1.aA.pJ.length,.h J t.aT.length,.h H t.aR.length,.h d r.1.eE.length,.h c r.1.Log.length,I r.1.aG],.box 1 (gTj r.2.1 m l k i g f e),.box 2 [I r.2.2.Head,I r.2.2.eW,I r.2.2.eU]]++(oBs r.1.aA y.1 y.2.1 y.2.2.1 y.2.2.2 q o n [ow d r.1.eE,ow c r.1.Log]))++(oTj r.2.1 m l k i g f e []))):=
 cD call206 func206 Q Q2<|iP aJ [0,1,2,19] Q<|c0 Q (λh=>HX (h.o 14 Q)) λW=>bE [39,46] Q2 (fN 1 1 0 32 [12,13,14,15,16,17,18] Q5 (λ_=>eS) λV _=>LH (A,z,w,v) [0,1,2,3,4,5,6,7,8,9,10,11,20,21,22,23,24,25,26] Q Q)<|bE [49,54] Q2 (eP 0 4 (G4 t j b) [0,1,3] (λ(a:Table) (u:A4C)=>[]) [12,13,14,15,16,17,18,1,2] (λa u=>(oBs a.aA u.1 u.2.1 u.2.2.1 u.2.2.2 q o n [ow d (a.eE:ax),ow c (a.Log:a7),.box 0 [.h u.1 a.aA.Mem.Heap.Bytes.length,.h u.2.1 a.aA.Mem.Heap.Class.length,.h u.2.2.1 a.aA.Mem.aC.Global.length,.h u.2.2.2 a.aA.Mem.aC.Own.length,I a.aA.aD.aL,.h q a.aA.aD.cV.length,.h o a.aA.aQ.length,.h n a.aA.pJ.length,.h J t.aT.length,.h H t.aR.length,.h d a.eE.length,.h c a.Log.length,I a.aG]])) Q (iP aJ [1,2,19] Q<|rV oI 16 Q3 λT L _ O=>λs=>nE 4 O L Q5<|bd s λM G s=>(by refine fA Q2 ?_ ?_<;>exact R5 G Q (λh=>aTK (h.o 3 Q) (h.o 4 Q) (h.o 5 Q) (h.o 6 Q)) λB=>sF Q<|kO oI 20 [] L () Q7<|fR Q2<|mQ (p:=(({t with aA:=(⟨M.1,t.aA.aD,t.aA.aQ,t.aA.pJ⟩:aA)}:Table))) B [23,24,25,26,7,8,9,10,11,0,12,13,14,15,27,17,18,1,2] s Q)) λa ⟨F,E,D,C⟩=>LH (F,E,D,C) [9,17,18,0,1,2,3,4,5,6,7,8,10,11,12,13,14,15,16] Q Q)<|rV oI 16 Q3 λS K _ N=>λs=>nE 4 N K Q5<|sF Q<|kO oI 20 [] K () Q7<|rN (A,z,w,v) [0,1,2,3,4,5,6,7,8,9,10,11,12,13,14,15,23,17,18] s Q2 Q4
theorem aHY{E:Int}{X W V x v f:AC}{b0:Nat×Nat}:VS prog U 86 (CG t E) [.p 0 0,I E] [b0] ([.box 0 (LK t Y X W V x w v i f e d)]++(T1 t Y X W V x w v i f e d [])) (λr (y:A4C)=>.t []) (λr y=>([.box 0 (LK r y.1 y.2.1 y.2.2.1 y.2.2.2 x w v i f e d)]++(T1 r y.1 y.2.1 y.2.2.1 y.2.2.2 x w v i f e d []))):=
 cD call86 func86 Q Q2<|rV bB 9 Q3 λx1 h1 s12 h2=>λa=>nE 1 h2 h1 Q5<|wi a<|eP 0 2 (λ(_:Unit)=>DT t E x1) [0,4] (λ(_:Unit) (_:Unit)=>[(22,.b (decide ((x1.aH.length:Int)<=x1.K)))]) [1,2,3,4,5,6,7,8,10,11,0,14] (λ_ _=>[ow f (t.aR:bp)]) Q (iP aJ [0,14] Q<|λa=>(by refine fA Q2 ?_ ?_<;>exact sF Q<|fR Q2<|kO bB 12 [15,16,17,18,19,20,21] h1 s12 Q7<|fR Q2<|mQ (p:=()) () [22,1,2,3,4,5,6,7,8,10,11,0,14] a Q)) λ_ _=>bE [22] Q2 (λa=>ro bB 0 12 1 Q Q Q Q a λx2 h3 a s13=>sR Q<|fR Q2<|pD bB 13 [16,17,18,19,20,21,22] [] ({x2 with Pc:=14}:aK) s13 Q8<|fR Q2<|uW f dM.symm [] [(11,9)] Q3<|fR Q2<|rN (Y,X,W,V) [11,1,2,3,4,5,6,7,8,23,9,10] a Q2 Q4)<|eP 0 4 (λ(p:Int×Bool×Int)=>DS t E p.1 p.2.1 p.2.2) [0,4] (λ(p:Int×Bool×Int) (_:Unit)=>[(5,.p 3 0)]) [1,2,3,4,5,6,7,8,0,9,10,11,12] (λp _=>[.box 3 [I p.1,.b p.2.1,I p.2.2]]) Q (iP aJ [11,12] Q<|λa=>bd a λx30 hA6 a=>bd a λb T a=>aV5 Q Q (have P:=rb hA6;ro bB 0 12 1 Q Q Q Q P λu29 h23 P s51=>match u29,P with|_,rfl=>fA Q2 (have O:=rb T;wi O<|rV DV 18 Q3 λu30 h25 _ h26=>λO=>nE 2 h26 h25 Q5<|match u30,O with|_,rfl=>(by refine fA Q2 ?_ ?_<;>exact sF Q<|fR Q2<|kO DV 23 [] h25 () Q7<|fR Q2<|kO bB 13 [16,17,27,19,20,21,22] h23 s51 Q7<|fR Q2<|mQ (p:=(b.Key,b.LJ,b.dP)) () [26,1,2,3,4,5,6,7,8,28,9,10,11,12] a Q)) (have N:=rb T;wi N<|rV DV 18 Q3 λu31 h27 _ h28=>λN=>nE 3 h28 h27 Q5<|match u31,N with|_,rfl=>sF Q<|swR 3 2 Q<|fD Q Q<|fR Q2<|kO DV 24 [] h27 () Q7<|fR Q2<|kO bB 13 [16,17,27,19,20,21,22] h23 s51 Q7<|fR Q2<|mQ (p:=(b.Key,b.LJ,b.dP)) () [23,1,2,3,4,5,6,7,8,28,9,10,11,12] a Q)) (have M:=rb hA6;ro bB 0 12 1 Q Q Q Q M λu32 h29 M s52=>match u32,M with|_,rfl=>fA Q2 (have L:=rb T;wi L<|rV DV 18 Q3 λu33 h31 _ h32=>λL=>nE 2 h32 h31 Q5<|match u33,L with|_,rfl=>(by refine fA Q2 ?_ ?_<;>exact sF Q<|fR Q2<|kO DV 23 [] h31 () Q7<|fR Q2<|kO bB 13 [16,17,27,19,20,21,22] h29 s52 Q7<|fR Q2<|mQ (p:=(b.Key,b.LJ,b.dP)) () [26,1,2,3,4,5,6,7,8,28,9,10,11,12] a Q)) (have K:=rb T;wi K<|rV DV 18 Q3 λu34 h33 _ h34=>λK=>nE 3 h34 h33 Q5<|match u34,K with|_,rfl=>sF Q<|swR 3 2 Q<|fD Q Q<|fR Q2<|kO DV 24 [] h33 () Q7<|fR Q2<|kO bB 13 [16,17,27,19,20,21,22] h29 s52 Q7<|fR Q2<|mQ (p:=(b.Key,b.LJ,b.dP)) () [23,1,2,3,4,5,6,7,8,28,9,10,11,12] a Q)) ((by refine fA Q2 ?_ ?_<;>exact have J:=rb hA6;ro bB 0 12 1 Q Q Q Q J λu35 h35 J s53=>match u35,J with|_,rfl=>have G:=rb T;wi G<|rV DV 19 Q3 λu36 h37 _ h38=>λG=>nE 3 h38 h37 Q5<|match u36,G with|_,rfl=>sF Q<|swR 3 2 Q<|fD Q Q<|fR Q2<|kO DV 24 [] h37 () Q7<|fR Q2<|kO bB 14 [17,18,27,20,21,22,23] h35 s53 Q7<|fR Q2<|mQ (p:=(b.Key,b.LJ,b.dP)) () [13,1,2,3,4,5,6,7,8,28,9,10,11,12] a Q))) λ⟨x3,x4,x5⟩ _=>iP aJ [0,12,13] Q<|c0 Q (λ_=>Z6) λx6=>rV EY 8 Q3 λx7 z _ h6=>λa=>nE 4 h6 z Q5<|ro bB 9 13 1 Q Q Q Q a λF h7 a c=>wi a<|bE [53,54] Q2 (bE [72] Q2 (fN 18 1 0 32 [20,21,22,23,24,25,26] Q5 (λ_=>KT (j:=({F with Pc:=10,H:=x7.Head,g7:=0}:aK))) λx9 _=>λa=>sF Q<|fR Q2<|pD bB 17 [27,28,29,30,31,32,33] [] x9 c Q8<|fR Q2<|uW f dM.symm [] [(12,9)] Q3<|fR Q2<|kO EY 14 [] z () Q7<|fR Q2<|rN (Y,X,W,V) [12,1,2,3,4,5,6,7,35,34,10,11] a Q2 Q4)<|λa=>sF Q<|fR Q2<|pD bB 17 [20,21,22,23,24,25,26] [] ({F with Pc:=10,H:=x7.Head,g7:=0}:aK) c Q8<|fR Q2<|uW f dM.symm [] [(12,9)] Q3<|fR Q2<|kO EY 14 [] z () Q7<|fR Q2<|rN (Y,X,W,V) [12,1,2,3,4,5,6,7,28,27,10,11] a Q2 Q4)<|bE [76,77] Q2 (iP aJ [0,12,13,16,19] Q<|c0 Q (λh=>aGS (h.o 1 Q) (h.o 2 Q) (h.o 3 Q) (h.o 4 Q)) λB=>iP aJ [0,12,13,16,19] Q<|bE [109,117] Q2 (λa=>sF Q<|fR Q2<|pD bB 17 [20,21,22,23,24,25,26] [] ({F with Pc:=11,Node:=B.1}:aK) c Q8<|fR Q2<|uW f dM.symm [] [(12,9)] Q3<|fR Q2<|kO EY 14 [] z () Q7<|fR Q2<|rN (Y,X,W,V) [12,1,2,3,4,5,6,7,28,27,10,11] a Q2 Q4)<|c0 Q (λ_=>dS) λx11=>bE [121,127] Q2 (fN 18 1 0 32 [20,21,22,23,24,25,26] Q5 (λ_=>KT (j:=({F with Node:=B.1}:aK))) λx12 _=>λa=>sF Q<|fR Q2<|pD bB 17 [27,28,29,30,31,32,33] [] x12 c Q8<|fR Q2<|uW f dM.symm [] [(12,9)] Q3<|fR Q2<|kO EY 14 [] z () Q7<|fR Q2<|rN (Y,X,W,V) [12,1,2,3,4,5,6,7,35,34,10,11] a Q2 Q4)<|eP 0 5 (DP t) [0] (λ(x13:bp) (_:Unit)=>[]) [1,2,3,4,5,6,7,10,11] (λx13 _=>[ow i (t.aT:ay),ow f (x13:bp),.box 0 [.h Y t.aA.Mem.Heap.Bytes.length,.h X t.aA.Mem.Heap.Class.length,.h W t.aA.Mem.aC.Global.length,.h V t.aA.Mem.aC.Own.length,I t.aA.aD.aL,.h x t.aA.aD.cV.length,.h w t.aA.aQ.length,.h v t.aA.pJ.length,.h i t.aT.length,.h f x13.length,.h e t.eE.length,.h d t.Log.length,I t.aG]]) Q (iP aJ [0,12,13,16,19] Q<|λa=>bd a λx14 hA1 a=>fA Q2 (IG hA1 Q (λ_=>dS)<|sF Q<|fR Q2<|pD bB 17 [20,21,22,23,24,25,26] [] ({F with H:=x14,g7:=F.H,Node:=B.1}:aK) c Q8<|fR Q2<|uW f dM.symm [] [(12,9)] Q3<|fR Q2<|kO EY 14 [] z () Q7<|fR Q2<|mQ (p:=(t.aR.set E.toNat ({F with H:=x14,g7:=F.H,Node:=B.1}:aK))) () [28,27,12,1,2,3,4,5,6,7,10,11] a Q) ((by refine fA Q2 ?_ ?_<;>exact IG hA1 Q (λ_=>dS)<|sF Q<|fR Q2<|pD bB 17 [20,21,22,23,24,25,26] [] ({F with H:=x14,g7:=F.H,Node:=B.1}:aK) c Q8<|fR Q2<|uW f dM.symm [] [(12,9)] Q3<|fR Q2<|kO EY 14 [] z () Q7<|fR Q2<|mQ (p:=(t.aR.set E.toNat ({F with H:=x14,g7:=F.H,Node:=B.1}:aK))) () [28,27,12,1,2,3,4,5,6,7,10,11] a Q))) λx13 _=>LH (Y,X,W,V) [2,3,4,5,6,7,8,9,0,1,10,11] Q Q)<|bE [131,132] Q2 (eP 0 5 (nL E x3 x4 x5) [0,4,5] (λ(A:Table) (u:A4C)=>[]) [13,0] (λA u=>(T1 A u.1 u.2.1 u.2.2.1 u.2.2.2 x w v i f e d [.box 0 (LK A u.1 u.2.1 u.2.2.1 u.2.2.2 x w v i f e d)])) Q (bE [137] Q2 (c0 Q (λ_=>dS) λx25=>λa=>sF Q<|fR Q2<|kO bB 17 [20,21,22,23,24,25,26] h7 c Q7<|fR Q2<|pD EY 14 [] [39] ({x7 with Head:=x25}:bZ) () Q8<|fR Q2<|uW i dM.symm [] [(12,8)] Q3<|fR Q2<|mQ (Y,X,W,V) [1,2,3,4,5,6,7,28,27,10,11,12,13,0] a Q)<|eP 0 5 (DR E x3 x4 x5) [0,4,5] (λ(R:Table) (u:A4C)=>[]) [13,0] (λR u=>(T1 R u.1 u.2.1 u.2.2.1 u.2.2.2 x w v i f e d [.box 0 (LK R u.1 u.2.1 u.2.2.1 u.2.2.2 x w v i f e d)])) Q (iP aJ [0,13,16,19] Q<|λa=>bd a λx27 s a=>bd a λk q a=>aV5 Q Q (fA Q2 (IG s Q (λ_=>dS)<|R5 q Q (λh=>sD (h.o 1 Q) (h.o 2 Q) (h.o 3 Q) (h.o 4 Q)) λs37=>sF Q<|fR Q2<|kO bB 17 [20,21,22,23,24,25,26] h7 c Q7<|fR Q2<|kO EY 14 [] z () Q7<|fR Q2<|mQ (p:=(({t with aA:=(⟨k.1,t.aA.aD,t.aA.aQ,t.aA.pJ⟩:aA)}:Table))) s37 [27,28,29,30,5,6,7,32,31,10,11,12,13,0] a Q) ((by refine fA Q2 ?_ ?_<;>exact IG s Q (λ_=>dS)<|R5 q Q (λh=>sD (h.o 1 Q) (h.o 2 Q) (h.o 3 Q) (h.o 4 Q)) λs38=>sF Q<|fR Q2<|kO bB 17 [20,21,22,23,24,25,26] h7 c Q7<|fR Q2<|kO EY 14 [] z () Q7<|fR Q2<|mQ (p:=(({t with aA:=(⟨k.1,t.aA.aD,t.aA.aQ,t.aA.pJ⟩:aA)}:Table))) s38 [27,28,29,30,5,6,7,32,31,10,11,12,13,0] a Q))) (fA Q2 (IG s Q (λ_=>dS)<|R5 q Q (λh=>sD (h.o 1 Q) (h.o 2 Q) (h.o 3 Q) (h.o 4 Q)) λs40=>sF Q<|fR Q2<|kO bB 17 [20,21,22,23,24,25,26] h7 c Q7<|fR Q2<|kO EY 14 [] z () Q7<|fR Q2<|mQ (p:=(({t with aA:=(⟨k.1,t.aA.aD,t.aA.aQ,t.aA.pJ⟩:aA)}:Table))) s40 [27,28,29,30,5,6,7,32,31,10,11,12,13,0] a Q) ((by refine fA Q2 ?_ ?_<;>exact IG s Q (λ_=>dS)<|R5 q Q (λh=>sD (h.o 1 Q) (h.o 2 Q) (h.o 3 Q) (h.o 4 Q)) λs41=>sF Q<|fR Q2<|kO bB 17 [20,21,22,23,24,25,26] h7 c Q7<|fR Q2<|kO EY 14 [] z () Q7<|fR Q2<|mQ (p:=(({t with aA:=(⟨k.1,t.aA.aD,t.aA.aQ,t.aA.pJ⟩:aA)}:Table))) s41 [27,28,29,30,5,6,7,32,31,10,11,12,13,0] a Q))) (aV5 Q Q ((by refine fA Q2 ?_ ?_<;>exact IG s Q (λ_=>dS)<|R5 q Q (λh=>sD (h.o 1 Q) (h.o 2 Q) (h.o 3 Q) (h.o 4 Q)) λs43=>sF Q<|fR Q2<|kO bB 17 [20,21,22,23,24,25,26] h7 c Q7<|fR Q2<|kO EY 14 [] z () Q7<|fR Q2<|mQ (p:=(({t with aA:=(⟨k.1,t.aA.aD,t.aA.aQ,t.aA.pJ⟩:aA)}:Table))) s43 [27,28,29,30,5,6,7,32,31,10,11,12,13,0] a Q)) ((by refine fA Q2 ?_ ?_<;>exact IG s Q (λ_=>dS)<|R5 q Q (λh=>sD (h.o 1 Q) (h.o 2 Q) (h.o 3 Q) (h.o 4 Q)) λs45=>sF Q<|fR Q2<|kO bB 17 [20,21,22,23,24,25,26] h7 c Q7<|fR Q2<|kO EY 14 [] z () Q7<|fR Q2<|mQ (p:=(({t with aA:=(⟨k.1,t.aA.aD,t.aA.aQ,t.aA.pJ⟩:aA)}:Table))) s45 [27,28,29,30,5,6,7,32,31,10,11,12,13,0] a Q)) (IG s Q (λ_=>dS)<|(by refine fA Q2 ?_ ?_<;>exact R5 q Q (λh=>sD (h.o 1 Q) (h.o 2 Q) (h.o 3 Q) (h.o 4 Q)) λs47=>sF Q<|fR Q2<|kO bB 17 [20,21,22,23,24,25,26] h7 c Q7<|fR Q2<|kO EY 14 [] z () Q7<|fR Q2<|mQ (p:=(({t with aA:=(⟨k.1,t.aA.aD,t.aA.aQ,t.aA.pJ⟩:aA)}:Table))) s47 [27,28,29,30,5,6,7,32,31,10,11,12,13,0] a Q)))) λR ⟨s32,s33,s34,s35⟩=>pE (p:=(R)) (s32,s33,s34,s35) [0,1,2,3,4,5,6,7,8,9,10,11,12,13] Q2) λA ⟨o,n,m,l⟩=>eP 1 5 (nK E x3 x4 x5) [0,4,5] (λ(x16:Table) (_:Unit)=>[]) [12,13] (λx16 _=>(T1 x16 o n m l x w v i f e d [.box 0 (LK x16 o n m l x w v i f e d)])) Q (eP 0 5 (λ(p:Bool×Table)=>sW E x3 x4 x5 p.1 p.2) [0,4,5] (λ(p:Bool×Table) (_:Unit)=>[(180,.b p.1)]) [12,13] (λp _=>(T1 p.2 o n m l x w v i f e d [.box 0 (LK p.2 o n m l x w v i f e d)])) Q (λa=>ro bB 8 12 1 Q Q Q Q a λx23 h17 a s31=>wi a<|c0 Q (λ_=>jW) λx24=>dE [172,173] Q2 (λa=>sF Q<|fR Q2<|kO bB 14 [17,18,19,20,21,22,23] h17 s31 Q7<|fR Q2<|mQ (p:=(decide ((x23.cK.length:Int)<6),A)) () [0,1,2,3,4,5,6,7,24,9,10,11,12,13] a Q)<|λa=>sF Q<|fR Q2<|kO bB 14 [17,18,19,20,21,22,23] h17 s31 Q7<|fR Q2<|mQ (p:=(false,A)) () [0,1,2,3,4,5,6,7,24,9,10,11,12,13] a Q) λ⟨x19,Z⟩ _=>bE [180] Q2 (eP 0 5 (DQ E x3 x4 x5) [0,4,5] (λ(S:Table) (_:Unit)=>[]) [12,13] (λS _=>(T1 S o n m l x w v i f e d [.box 0 (LK S o n m l x w v i f e d)])) Q (iP aJ [11,12,13] Q<|λa=>bd a λg hA2 a=>nd a λhA3 a=>fA Q2 (have hq4:=rb hA2;ro bB 8 12 1 Q Q Q Q hq4 λu4 h13 hq4 D=>match u4,hq4 with|_,rfl=>lt1 Q bD Q Q Q Q λs24=>have hq5:=rn hA3;ap 23 bD Q Q Q Q Q Q Q (λh=>(h.o 24 Q)) Q Q hq5 λhq5 s25=>sF Q<|fR Q2<|pD bB 14 [17,18,19,20,21,22,23] [] ({g with cK:=g.cK++([g.H])}:aK) (D.1,D.2.1,D.2.2.1,D.2.2.2.1,D.2.2.2.2.1,D.2.2.2.2.2.1,s25) Q8<|fR Q2<|uW f dM.symm [] [(11,9)] Q3<|fR Q2<|mQ (p:=(({Z with aR:=Z.aR.set E.toNat ({g with cK:=g.cK++([g.H])}:aK)}:Table))) () [0,1,2,3,4,5,6,7,25,9,10,11,12,13] a Q) (have hq6:=rb hA2;ro bB 8 12 1 Q Q Q Q hq6 λu5 h15 hq6 C=>match u5,hq6 with|_,rfl=>(by refine fA Q2 ?_ ?_<;>exact lt1 Q bD Q Q Q Q λs27=>have hq7:=rn hA3;ap 23 bD Q Q Q Q Q Q Q (λh=>(h.o 24 Q)) Q Q hq7 λhq7 s28=>sF Q<|fR Q2<|pD bB 14 [17,18,19,20,21,22,23] [] ({g with cK:=g.cK++([g.H])}:aK) (C.1,C.2.1,C.2.2.1,C.2.2.2.1,C.2.2.2.2.1,C.2.2.2.2.2.1,s28) Q8<|fR Q2<|uW f dM.symm [] [(11,9)] Q3<|fR Q2<|mQ (p:=(({Z with aR:=Z.aR.set E.toNat ({g with cK:=g.cK++([g.H])}:aK)}:Table))) () [0,1,2,3,4,5,6,7,25,9,10,11,12,13] a Q))) λS _=>bL (p:=(S)) [0,1,2,3,4,5,6,7,8,9,10,11,12,13] Q2)<|bL [0,1,2,3,4,5,6,7,8,9,10,11,12,13] Q2) λx16 _=>λa=>ro bB 8 12 1 Q Q Q Q a λx17 h9 a s19=>wi a<|fN 15 1 0 32 [17,18,19,20,21,22,23] Q5 (λ_=>KT) λx18 _=>λa=>sF Q<|fR Q2<|pD bB 14 [24,25,26,27,28,29,30] [] x18 s19 Q8<|fR Q2<|uW f dM.symm [] [(11,9)] Q3<|fR Q2<|rN (o,n,m,l) [11,0,1,2,3,4,5,6,7,31,9,10] a Q2 Q4)<|bTJ 12 0 0 13 18 1 0 32 15 4 0 3 [1,2,3,4,5,6,7,10,11,20,21,22,23,24,25,26] Q Q Q Q Q (λ_=>aJ6) λx29 s49=>λa=>fG Q Q<|sF Q<|fR Q2<|pD bB 17 [36,37,38,39,40,41,42] [] x29.2.1 c Q8<|fR Q2<|uW f dM.symm [] [(12,9)] Q3<|fR Q2<|pD EY 14 [] [39] x29.2.2 () Q8<|fR Q2<|uW i dM.symm [] [(12,8)] Q3<|fR Q2<|rN s49 [12,27,28,29,30,31,32,33,44,43,34,35] a Q2 Q4
theorem QB{s:an}{i j:Int}:VS prog U 207 (rF s i j) [.h e s.length,I i,I j] [] [ow e (s:an)] (λr (y:AC)=>.h y r.length) (λr y=>[ow y r]):=
 cD call207 func207 Q Q2<|λa=>cpc 0 Q Q λb=>a6H b Q Q Q Q Q Q Q Q a λa k=>wi a<|bE [16] Q2 (jB e [0] Q2)<|iP aJ [] Q<|λa=>aV8 b Q Q Q Q Q Q a λa h=>aV7 b Q Q Q Q Q Q a λa g=>nd a λf a=>ap2 0 i.toNat j.toNat ⟨f,g.1⟩ Q Q Q Q Q Q Q Q Q λc=>bF4 0 (i.toNat+(s.length-j.toNat)) c.2 (BY c.1 c.2) Q Q Q Q Q Q Q Q Q a λa d=>clr 0 (((((dF s i.toNat (s.drop j.toNat)).take (i.toNat+(s.length-j.toNat))).drop 0).length:Int).toNat) ((s.length:Int).toNat) (0:Int) d bD Q (λ_=>Q) Q Q Q Q Q Q Q Q<|sR Q<|poR 0 0 (i.toNat+(s.length-j.toNat)) Q Q (a6G c (oB d.1 d.2)) (a0B (aAT (by rw[H3,BY c.1 c.2];rfl)) (oB d.1 d.2))<|rN (AC.sub e 1 0) [0] a Q2 Q4
theorem KW{j:aK}{h f b:AC}{s:Nat×Nat}:VS prog U 208 (mK j) [.p 0 0] [s] ([.box 0 (gTj j h g f e d c b)]++(oTj j h g f e d c b [])) (λr (y:Unit)=>.t []) (λr y=>([.box 0 (gTj r h g f e d c b)]++(oTj r h g f e d c b []))):=
 cD call208 func208 Q Q2<|iP aJ [0] Q<|bE [11] Q2 (eP 0 1 tS [0] (λ(k:aK) (_:Unit)=>[]) [] (λk _=>(oTj k h g f e d c b [.box 0 (gTj k h g f e d c b)])) Q (iP aJ [] Q<|λi=>bd i λt m i=>bd i λo l i=>(by refine fA Q2 ?_ ?_<;>exact have a:=rb m;wi a<|rV oI 7 Q3 λu1 n _ q=>λa=>nE 1 q n Q5<|match u1,a with|_,rfl=>IG l Q (λ_=>sB)<|sF Q<|kO oI 8 [] n () Q7<|mQ (p:=(({j with Sub:=o}:aK))) () [1,2,3,4,5,6,11,0] i Q)) λk _=>LH () [7,0,1,2,3,4,5,6] Q Q)<|LH () [0,1,2,3,4,5,6,7] Q Q
theorem aFT{u:Int}{o m l h f:AC}{G:Nat×Nat}:VS prog U 87 (zD t u) [.p 0 0,I u] [G] ([.box 0 (LK t o n m l k i h g f d c)]++(T1 t o n m l k i h g f d c [])) (λr (y:Unit)=>.t []) (λr y=>([.box 0 (LK r o n m l k i h g f d c)]++(T1 r o n m l k i h g f d c []))):=
 cD call87 func87 Q Q2<|rV bB 9 Q3 λx w e F=>λa=>nE 1 F w Q5<|wi a<|bE [20,26] Q2 (iP aJ [0,14] Q<|rV oI 20 Q3 λH v _ E=>λa=>nE 2 E v Q5<|wi a<|rV EY 8 Q3 λq D _ C=>λa=>nE 3 C D Q5<|wi a<|eP 0 4 (mL t u) [0,4] (λ(p:ay) (_:Unit)=>[]) [1,2,3,4,5,6,7,10,11,14] (λp _=>[ow g (p:ay),ow f (t.aR:bp),.box 0 [.h o t.aA.Mem.Heap.Bytes.length,.h n t.aA.Mem.Heap.Class.length,.h m t.aA.Mem.aC.Global.length,.h l t.aA.Mem.aC.Own.length,I t.aA.aD.aL,.h k t.aA.aD.cV.length,.h i t.aA.aQ.length,.h h t.aA.pJ.length,.h g p.length,.h f t.aR.length,.h d t.eE.length,.h c t.Log.length,I t.aG]]) Q (bE [45] Q2 (λa=>bLN Q Q Q Q<|sF Q<|fR Q2<|pD EY 25 [] [30] (⟨q.Head,if 1000000<(aZ (q.eW+1)) then 1000000 else(aZ (q.eW+1)),0⟩:bZ) () Q8<|uW g dM.symm [] [(0,8)] Q3<|fR Q2<|kO oI 22 [] v () Q7<|fR Q2<|kO bB 12 [15,16,17,18,19,29,21] w e Q7<|fR Q2<|mQ () [28,30,0,1,2,3,4,5,6,7,10,11,14] a Q)<|λa=>sF Q<|fR Q2<|pD EY 25 [] [30] ({q with eU:=0}:bZ) () Q8<|fR Q2<|uW g dM.symm [] [(0,8)] Q3<|fR Q2<|kO oI 22 [] v () Q7<|fR Q2<|kO bB 12 [15,16,17,18,19,29,21] w e Q7<|fR Q2<|mQ () [28,30,0,1,2,3,4,5,6,7,10,11,14] a Q) λp _=>λa=>ro bB 1 12 1 Q Q Q Q a λB J a b=>wi a<|N7 [21] Q4 (λ_=>QB) λA s=>λa=>sF Q<|fR Q2<|pD bB 13 [16,17,18,19,20,23,22] [] ({B with bH:=A}:aK) (b.1,b.2.1,b.2.2.1,b.2.2.2.1,b.2.2.2.2.1,s,b.2.2.2.2.2.2) Q8<|fR Q2<|uW f dM.symm [] [(2,9)] Q3<|fR Q2<|rN () [2,3,4,5,6,7,8,9,0,24,10,11] a Q2 Q4)<|bE [63,68] Q2 (λa=>sF Q<|fR Q2<|pD bB 12 [15,16,17,18,19,20,21] [9] ({x with Pc:=17}:aK) e Q8<|fR Q2<|uW f dM.symm [] [(0,9)] Q3<|fR Q2<|rN () [0,1,2,3,4,5,6,7,8,22,10,11] a Q2 Q4)<|fN 13 1 0 32 [15,16,17,18,19,20,21] Q5 (λ_=>KW (j:=({x with Pc:=15,K:=0}:aK))) λz _=>λa=>sF Q<|fR Q2<|pD bB 12 [22,23,24,25,26,27,28] [9] z e Q8<|fR Q2<|uW f dM.symm [] [(0,9)] Q3<|fR Q2<|rN () [0,1,2,3,4,5,6,7,8,29,10,11] a Q2 Q4
theorem aFU{n:Int}{v o h b:AC}{D:Nat×Nat}:VS prog U 88 (zE t n) [.p 0 0,I n] [D] ([.box 0 (LK t w v u s q o h g d c b)]++(T1 t w v u s q o h g d c b [])) (λr (y:A6C)=>.t []) (λr y=>([.box 0 (LK r y.1 y.2.1 y.2.2.1 y.2.2.2.1 y.2.2.2.2.1 y.2.2.2.2.2 h g d c b)]++(T1 r y.1 y.2.1 y.2.2.1 y.2.2.2.1 y.2.2.2.2.1 y.2.2.2.2.2 h g d c b []))):=
 cD call88 func88 Q Q2<|rV bB 9 Q3 λm z k C=>λa=>nE 1 C z Q5<|wi a<|eP 0 2 (λ(_:Unit)=>AL t n m) [0,1,4] (λ(_:Unit) (_:Unit)=>[(20,.b (decide ((m.cK.length:Int)<=m.K)))]) [1,2,3,4,5,6,7,8,10,11,0,14] (λ_ _=>[ow d (t.aR:bp)]) Q (iP aJ [0,14] Q<|λa=>(by refine fA Q2 ?_ ?_<;>exact sF Q<|fR Q2<|kO bB 12 [15,16,17,18,19,20,21] z k Q7<|fR Q2<|mQ (p:=()) () [22,1,2,3,4,5,6,7,8,10,11,0,14] a Q)) λ_ _=>bE [20] Q2 (λa=>ro bB 0 12 1 Q Q Q Q a λB F a i=>sR Q<|fR Q2<|pD bB 13 [16,17,18,19,20,21,22] [] ({B with Pc:=18}:aK) i Q8<|fR Q2<|uW d dM.symm [] [(11,9)] Q3<|fR Q2<|rN (w,v,u,s,q,o) [11,1,2,3,4,5,6,7,8,23,9,10] a Q2 Q4)<|iP aJ [12] Q<|λa=>ro bB 0 12 1 Q Q Q Q a λl E a f=>wi a<|a0C 14 1 16 10 11 0 0 8 [1,2,3,4,5,6,7] Q Q Q Q Q (λ_=>PL) λx e=>bE [36] Q2 (fN 14 1 0 32 [16,17,18,19,20,21,22] Q5 (λ_=>KW (j:=({l with K:=aZ (l.K+1),Sub:=x.1}:aK))) λA _=>λa=>sF Q<|fR Q2<|pD bB 13 [30,31,32,33,34,35,36] [] A f Q8<|fR Q2<|uW d dM.symm [] [(11,9)] Q3<|fR Q2<|rN e [11,23,24,25,26,27,28,29,8,37,9,10] a Q2 Q4)<|λa=>sF Q<|fR Q2<|pD bB 13 [16,17,18,19,20,21,22] [] ({l with Sub:=x.1}:aK) f Q8<|fR Q2<|uW d dM.symm [] [(11,9)] Q3<|fR Q2<|rN e [11,23,24,25,26,27,28,29,8,30,9,10] a Q2 Q4
theorem aTL{e:Int}{f:AC}(d:aU U j m.Heap.Bytes)(c:aU U i m.Heap.Class)(b:aU U g m.aC.Global)(a:aU U f m.aC.Own):VS prog U 210 (QY m e h) [.g (gM m j i g f),I e,I h] [] [] (λr (y:A4C)=>.t [.g (yM r.1 y),I r.2]) (λr y=>(zM r.1 y [])):=
 cD call210 func210 Q Q2<|dJ 0 2 (FR m e h) [1,2,3,6] 8 [0,1] Q (c0 Q (λh=>KU (h.a d) (h.a c) (h.a b) (h.a a)) λp=>dE [11,12] Q2 (bL [0,1] Q2)<|c0 Q (λ_=>jD) λo=>bL [0,1] Q2) λv=>bE [8] Q2 (c1 Q (λh=>BL (h.a d) (h.a c) (h.a b) (h.a a)) λu n=>jB n [2,3,4,5] Q2)<|c0 Q (λh=>N2 (h.a d) (h.a c) (h.a b) (h.a a)) λt=>bE [19,23] Q2 (c1 Q (λh=>BL (h.a d) (h.a c) (h.a b) (h.a a)) λs l=>jB l [2,3,4,5] Q2)<|c1 Q (λh=>aJX (h.a d) (h.a c) (h.a b) (h.a a)) λq k=>jB k [2,3,4,5] Q2
theorem aJ7{u:Int}{o m l b:AC}{A:Nat×Nat}:VS prog U 89 (FT t u) [.p 0 0,I u] [A] ([.box 0 (LK t o n m l k j i g e c b)]++(T1 t o n m l k j i g e c b [])) (λr (y:A4C)=>.t []) (λr y=>([.box 0 (LK r y.1 y.2.1 y.2.2.1 y.2.2.2 k j i g e c b)]++(T1 r y.1 y.2.1 y.2.2.1 y.2.2.2 k j i g e c b []))):=
 cD call89 func89 Q Q2<|rV bB 9 Q3 λq z a x=>λd=>nE 1 x z Q5<|wi d<|bE [17] Q2 (λd=>sR Q<|fR Q2<|pD bB 12 [15,16,17,18,19,20,21] [9] ({q with Pc:=18}:aK) a Q8<|fR Q2<|uW e dM.symm [] [(0,9)] Q3<|fR Q2<|rN (o,n,m,l) [0,1,2,3,4,5,6,7,8,22,10,11] d Q2 Q4)<|rV oI 19 Q3 λD v _ w=>λd=>nE 2 w v Q5<|cqS oI 22 [] v () Q9<|wi d<|N7 [25] Q4 (λ_=>QB) λs f=>c0 Q (λh=>aDQ (h.o 6 Q)) λC=>bE [43] Q2 (c1 Q (λh=>aTL (h.o 1 Q) (h.o 2 Q) (h.o 3 Q) (h.o 4 Q)) λB p=>λd=>sF Q<|fR Q2<|pD bB 12 [15,16,17,18,26,20,21] [9] ({q with gN:=s}:aK) (a.1,a.2.1,a.2.2.1,a.2.2.2.1,f,a.2.2.2.2.2.1,a.2.2.2.2.2.2) Q8<|fR Q2<|uW e dM.symm [] [(0,9)] Q3<|fR Q2<|rN p [0,27,28,29,30,5,6,7,8,31,10,11] d Q2 Q4)<|λd=>sF Q<|fR Q2<|pD bB 12 [15,16,17,18,26,20,21] [9] ({q with gN:=s}:aK) (a.1,a.2.1,a.2.2.1,a.2.2.2.1,f,a.2.2.2.2.2.1,a.2.2.2.2.2.2) Q8<|fR Q2<|uW e dM.symm [] [(0,9)] Q3<|fR Q2<|rN (o,n,m,l) [0,1,2,3,4,5,6,7,8,27,10,11] d Q2 Q4
theorem a0Q{c:aD}{a:Int}(d:aU U e c.cV):VS prog U 211 (ZJ c a) [.g [I c.aL,.h e c.cV.length],I a] [] [] (λr (y:AC)=>.t [.g [I r.1.aL,.h y r.1.cV.length],.b r.2]) (λr y=>[ow y r.1.cV]):=
 cD call211 func211 Q Q2<|c1 Q (λh=>uP (h.a d)) λf b=>dJ 0 3 (EC a f) [1,4,6] 25 [1,2,3] Q (c0 Q (λh=>BI (h.a d)) λm=>dE [11,12] Q2 (bL [1,2,3] Q2)<|c0 Q (λ_=>jD) λl=>dE [15,16,17] Q2 (bL [1,2,3] Q2)<|kP bB5 Q d Q λk _ _=>bL [1,2,3] Q2) λo=>bE [25] Q2 (jB b [1] Q2)<|rV aHR 1 Q3 λn j _ i=>λg=>nE 3 i j Q5<|sR Q<|pD aHR 3 [] [28] zL3 () Q8<|uW b dM.symm [(32,1)] [(0,1),(2,1)] Q3<|fR Q2<|rN b [6] g Q2 Q4
theorem aJ8{b:aA}{i:Int}{f a:AC}{l:Nat×Nat}:VS prog U 90 (FU b i) [.p 0 0,I i] [l] ([.box 0 (gB b g f e d j c a)]++(oBs b g f e d j c a [])) (λr (y:AC)=>.b r.1) (λr y=>([.box 0 (gB r.2 g f e d y c a)]++(oBs r.2 g f e d y c a []))):=
 cD call90 func90 Q Q2<|c1 Q (λh=>a0Q (h.o 5 Q)) λm k=>jB k [0,1,2,3,4,8,6,7] Q2
theorem aDX{f:Int}{o m l h a:AC}{F:Nat×Nat}:VS prog U 91 (wB t f) [.p 0 0,I f] [F] ([.box 0 (LK t o n m l k j i h g a q)]++(T1 t o n m l k j i h g a q [])) (λr (y:AC)=>.t []) (λr y=>([.box 0 (LK r o n m l k j i h g a y)]++(T1 r o n m l k j i h g a y []))):=
 cD call91 func91 Q Q2<|rV bB 9 Q3 λe C x B=>λb=>nE 1 B C Q5<|wi b<|bE [21] Q2 (eP 0 4 (λ(_:Unit)=>LQ t f e) [0,1] (λ(_:Unit) (d:AC)=>[]) [1,2,3,4,5,6,7,8,10,15,16,17,19,20,21,12,13,14] (λ_ d=>[ow d (t.Log++([({e with Kind:=3,Who:=f,bR:=[]}:iO)]):a7),.box 0 [.h o t.aA.Mem.Heap.Bytes.length,.h n t.aA.Mem.Heap.Class.length,.h m t.aA.Mem.aC.Global.length,.h l t.aA.Mem.aC.Own.length,I t.aA.aD.aL,.h k t.aA.aD.cV.length,.h j t.aA.aQ.length,.h i t.aA.pJ.length,.h h t.aT.length,.h g t.aR.length,.h a t.eE.length,.h d (t.Log++([({e with Kind:=3,Who:=f,bR:=[]}:iO)])).length,I t.aG]]) Q (iP aJ [14,22,23] Q<|λb=>nd b λA b=>(by refine fA Q2 ?_ ?_<;>exact nw iK Q<|ZA bG6 [24,18] (({e with Kind:=3,Who:=f,bR:=[]}:iO)) (⟨none,0⟩,x.2.2.2.1) oF ZB λE=>have u:=rn A;apN 11 25 oF Q Q Q9 u λu w=>wi b<|pE (p:=()) w [26,0,1,2,3,4,5,6,7,8,10,15,16,17,19,20,21,12,13,14] Q2)) λ_ d=>λb=>nE 1 B C Q5<|sF Q<|fR Q2<|LG iK<|LG Seen<|LG aX<|LG eX<|LG Int<|LG Int<|LG Int<|fR Q2<|pD bB 17 [20,21,22,23,24,25,26] [38] zL0 (⟨none,0⟩,⟨none,0⟩,⟨none,0⟩,⟨none,0⟩,⟨none,0⟩,⟨none,0⟩,⟨none,0⟩) Q8<|fR Q2<|uW g dM.symm [] [(1,9)] Q3<|fR Q2<|rN d [1,2,3,4,5,6,7,8,9,27,10,0] b Q2 Q4)<|eP 0 4 (λ(_:Unit)=>LR t f e) [0,1] (λ(_:Unit) (c:AC)=>[]) [1,2,3,4,5,6,7,8,10,15,16,17,18,19,20,21,12,13,14] (λ_ c=>[ow c (t.Log++([(⟨3,f,e.aG,e.Code,[],[]⟩:iO)]):a7),.box 0 [.h o t.aA.Mem.Heap.Bytes.length,.h n t.aA.Mem.Heap.Class.length,.h m t.aA.Mem.aC.Global.length,.h l t.aA.Mem.aC.Own.length,I t.aA.aD.aL,.h k t.aA.aD.cV.length,.h j t.aA.aQ.length,.h i t.aA.pJ.length,.h h t.aT.length,.h g t.aR.length,.h a t.eE.length,.h c (t.Log++([(⟨3,f,e.aG,e.Code,[],[]⟩:iO)])).length,I t.aG]]) Q (iP aJ [14,22,23] Q<|λb=>nd b λz b=>(by refine fA Q2 ?_ ?_<;>exact nw iK Q<|nw eX Q<|ZA bG6 [24,25] ((⟨3,f,e.aG,e.Code,[],[]⟩:iO)) (⟨none,0⟩,⟨none,0⟩) oF ZB λD=>have s:=rn z;apN 11 26 oF Q Q Q9 s λs v=>wi b<|pE (p:=()) v [27,0,1,2,3,4,5,6,7,8,10,15,16,17,18,19,20,21,12,13,14] Q2)) λ_ c=>λb=>nE 1 B C Q5<|sF Q<|fR Q2<|LG iK<|LG Seen<|LG aX<|LG eX<|LG Int<|LG Int<|LG Int<|fR Q2<|pD bB 18 [21,22,23,24,25,26,27] [38] zL0 (⟨none,0⟩,⟨none,0⟩,⟨none,0⟩,⟨none,0⟩,⟨none,0⟩,⟨none,0⟩,⟨none,0⟩) Q8<|fR Q2<|uW g dM.symm [] [(1,9)] Q3<|fR Q2<|rN c [1,2,3,4,5,6,7,8,9,28,10,0] b Q2 Q4
theorem VJ{o:Int}{h f l a:AC}{Z:Nat×Nat}:VS prog U 39 (xJ t o) [.p 0 0,I o] [Z] ([.box 0 (LK t i h g f d c q p l k a)]++(T1 t i h g f d c q p l k a [])) (λr (y:A7C)=>.t []) (λr y=>([.box 0 (LK r y.1 y.2.1 y.2.2.1 y.2.2.2.1 y.2.2.2.2.1 y.2.2.2.2.2.1 q p l k y.2.2.2.2.2.2)]++(T1 r y.1 y.2.1 y.2.2.1 y.2.2.2.1 y.2.2.2.2.1 y.2.2.2.2.2.1 q p l k y.2.2.2.2.2.2 []))):=
 cD call39 func39 Q Q2<|rV bB 9 Q3 λJ n j Y=>λb=>nE 1 Y n Q5<|wi b<|bE [18,23] Q2 (λb=>cqS bB 12 [15,16,17,18,19,20,21] n j Q9<|wi b<|fN 0 0 0 13 [1,2,3,4,5,6,7,8,22,10,11] Q5 (λ_=>aHT) λx2 G=>LH (i,h,g,f,d,c,G) [0,23,24,25,26,27,28,29,30,31,32,33] Q Q)<|eP 0 2 (j9 t o J) [0,1,4,5] (λ(H:Bool) (_:Unit)=>[(27,.b H)]) [1,2,3,4,5,6,7,8,10,11,0,14] (λH _=>[ow l (t.aR:bp)]) Q (dE [29,30] Q2 (λb=>sF Q<|fR Q2<|kO bB 12 [15,16,17,18,19,20,21] n j Q7<|fR Q2<|mQ () [22,1,2,3,4,5,6,7,8,10,11,0,14] b Q)<|dE [32,33,34] Q2 (λb=>sF Q<|fR Q2<|kO bB 12 [15,16,17,18,19,20,21] n j Q7<|fR Q2<|mQ () [22,1,2,3,4,5,6,7,8,10,11,0,14] b Q)<|λb=>sF Q<|fR Q2<|kO bB 12 [15,16,17,18,19,20,21] n j Q7<|fR Q2<|mQ () [22,1,2,3,4,5,6,7,8,10,11,0,14] b Q) λH _=>bE [27] Q2 (fN 11 0 0 13 [1,2,3,4,5,6,7,8,0,9,10] Q5 (λ_=>aDS) λx4 F=>LH (t6U F (a)) [11,13,14,15,16,17,18,19,20,21,22,23] Q Q)<|bE [41,43] Q2 (λb=>ro bB 0 12 1 Q Q Q Q b λx5 h3 b e=>wi b<|fN 14 1 0 32 [16,17,18,19,20,21,22] Q5 (λ_=>aL7) λX m=>λb=>sF Q<|fR Q2<|pD bB 13 [23,24,25,26,27,28,29] [] X (e.1,e.2.1,m.1,m.2,e.2.2.2.2.1,e.2.2.2.2.2.1,e.2.2.2.2.2.2) Q8<|fR Q2<|uW l dM.symm [] [(11,9)] Q3<|fR Q2<|rN (i,h,g,f,d,c,a) [11,1,2,3,4,5,6,7,8,30,9,10] b Q2 Q4)<|c0 Q (λ_=>bI) λx7=>bE [46,48] Q2 (fN 11 0 0 13 [1,2,3,4,5,6,7,8,0,9,10] Q5 (λ_=>aJ2) λx8 _=>LH (i,h,g,f,d,c,a) [11,13,14,15,16,17,18,19,20,21,22,23] Q Q)<|bE [52,54] Q2 (fN 11 0 0 13 [1,2,3,4,5,6,7,8,0,9,10] Q5 (λ_=>aHX) λx9 E=>LH (t6U E (a)) [11,13,14,15,16,17,18,19,20,21,22,23] Q Q)<|bE [58,60] Q2 (fN 11 0 0 13 [1,2,3,4,5,6,7,8,0,9,10] Q5 (λ_=>aJ5) λW D=>LH (i,h,g,f,d,c,D) [11,13,14,15,16,17,18,19,20,21,22,23] Q Q)<|bE [64,66] Q2 (fN 11 0 0 13 [1,2,3,4,5,6,7,8,0,9,10] Q5 (λ_=>aB9) λV _=>LH (i,h,g,f,d,c,a) [11,13,14,15,16,17,18,19,20,21,22,23] Q Q)<|c0 Q (λ_=>bI) λT=>bE [70,72] Q2 (fN 11 0 0 13 [1,2,3,4,5,6,7,8,0,9,10] Q5 (λ_=>aHY) λS C=>LH (t4U C (d,c,a)) [11,13,14,15,16,17,18,19,20,21,22,23] Q Q)<|dJ 0 2 (lV t o J) [0,1,4,5] 76 [1,2,3,4,5,6,7,8,0,9,10,11,12] Q (dE [78,79] Q2 (bL [1,2,3,4,5,6,7,8,0,9,10,11,12] Q2)<|bL [1,2,3,4,5,6,7,8,0,9,10,11,12] Q2) λR=>bE [76] Q2 (fN 11 0 0 13 [0,1,2,3,4,5,6,7,8,9,10] Q5 (λ_=>aFT) λP _=>LH (i,h,g,f,d,c,a) [11,13,14,15,16,17,18,19,20,21,22,23] Q Q)<|bE [86,88] Q2 (fN 11 0 0 13 [0,1,2,3,4,5,6,7,8,9,10] Q5 (λ_=>aFU) λO B=>LH (t6U B (a)) [11,13,14,15,16,17,18,19,20,21,22,23] Q Q)<|bE [92,94] Q2 (fN 11 0 0 13 [0,1,2,3,4,5,6,7,8,9,10] Q5 (λ_=>aJ7) λN A=>LH (t4U A (d,c,a)) [11,13,14,15,16,17,18,19,20,21,22,23] Q Q)<|bE [98,100] Q2 (fN 11 0 0 8 [0,1,2,3,4,5,6] Q5 (λ_=>aJ8) λM z=>λb=>ro bB 8 12 1 Q Q Q Q b λu h5 b x=>sF Q<|fR Q2<|pD bB 20 [23,24,25,26,27,28,29] [] ({u with Pc:=19}:aK) x Q8<|fR Q2<|uW l dM.symm [] [(11,9)] Q3<|fR Q2<|rN (i,h,g,f,z,c,a) [11,13,14,15,16,17,18,19,7,30,9,10] b Q2 Q4)<|bE [109,111] Q2 (fN 11 0 0 13 [0,1,2,3,4,5,6,7,8,9,10] Q5 (λ_=>aDX) λL w=>LH (i,h,g,f,d,c,w) [11,13,14,15,16,17,18,19,20,21,22,23] Q Q)<|λb=>ro bB 8 12 1 Q Q Q Q b λK h7 b v=>wi b<|fN 14 1 0 32 [16,17,18,19,20,21,22] Q5 (λ_=>eS) λs _=>λb=>sF Q<|fR Q2<|pD bB 13 [23,24,25,26,27,28,29] [] s v Q8<|fR Q2<|uW l dM.symm [] [(11,9)] Q3<|fR Q2<|rN (i,h,g,f,d,c,a) [11,0,1,2,3,4,5,6,7,30,9,10] b Q2 Q4
theorem YJ{x:FA}{G:AC}(P:aU U H x.eE)(O:aU U G x.kD):VS prog U 8 (tT x) [.g [.h H x.eE.length,.h G x.kD.length]] [] [] (λr (y:bG4)=>.g (yTb r y)) (λr y=>(zTb r y [])):=
 cD call8 func8 Q Q2<|c1 Q (λh=>aOZ (h.a P)) λV a=>bE [12] Q2 (jB a [2,3,4,5,6,7,8,9,10,11,12] Q2)<|λF=>bLN Q Q Q Q<|a9C Q Q Q Q Q O Q Q F λF W N=>wi F<|LP (a.1,a.2.1,a.2.2.1,a.2.2.2.1,a.2.2.2.2.1,a.2.2.2.2.2.1,a.2.2.2.2.2.2.2.2.2.2) [2,3,20,21] (λ(p:Int×Table) (u:A7C)=>[(22,I p.1)]) [2,3,4,5,6,7,8,9,10,11,12,13,1] [1] (λp u=>(T1 p.2 u.1 u.2.1 u.2.2.1 u.2.2.2.1 u.2.2.2.2.1 u.2.2.2.2.2.1 a.2.2.2.2.2.2.1 a.2.2.2.2.2.2.2.1 a.2.2.2.2.2.2.2.2.1 a.2.2.2.2.2.2.2.2.2.1 u.2.2.2.2.2.2 [.box 2 (LK p.2 u.1 u.2.1 u.2.2.1 u.2.2.2.1 u.2.2.2.2.1 u.2.2.2.2.2.1 a.2.2.2.2.2.2.1 a.2.2.2.2.2.2.2.1 a.2.2.2.2.2.2.2.2.1 a.2.2.2.2.2.2.2.2.2.1 u.2.2.2.2.2.2)])) id [2,3] (λ(k:Table) (u:A7C)=>[]) [1] (λk u=>(T1 k u.1 u.2.1 u.2.2.1 u.2.2.2.1 u.2.2.2.2.1 u.2.2.2.2.2.1 a.2.2.2.2.2.2.1 a.2.2.2.2.2.2.2.1 a.2.2.2.2.2.2.2.2.1 a.2.2.2.2.2.2.2.2.2.1 u.2.2.2.2.2.2 [.box 2 (LK k u.1 u.2.1 u.2.2.1 u.2.2.2.1 u.2.2.2.2.1 u.2.2.2.2.2.1 a.2.2.2.2.2.2.1 a.2.2.2.2.2.2.2.1 a.2.2.2.2.2.2.2.2.1 a.2.2.2.2.2.2.2.2.2.1 u.2.2.2.2.2.2)])) Q Q (λL ⟨M,T⟩ ⟨i,g,f,e,d,c,b⟩ K=>bE [23] Q2 (eP 2 3 (zF M) [2,3,20,21,22] (λ(j:Table) (u:A7C)=>[]) [12] (λj u=>(T1 j u.1 u.2.1 u.2.2.1 u.2.2.2.1 u.2.2.2.2.1 u.2.2.2.2.2.1 a.2.2.2.2.2.2.1 a.2.2.2.2.2.2.2.1 a.2.2.2.2.2.2.2.2.1 a.2.2.2.2.2.2.2.2.2.1 u.2.2.2.2.2.2 [.box 2 (LK j u.1 u.2.1 u.2.2.1 u.2.2.2.1 u.2.2.2.2.1 u.2.2.2.2.2.1 a.2.2.2.2.2.2.1 a.2.2.2.2.2.2.2.1 a.2.2.2.2.2.2.2.2.1 a.2.2.2.2.2.2.2.2.2.1 u.2.2.2.2.2.2)])) Q (ixI Q N Q λS=>c0 Q (λ_=>jD) λR=>bE [27] Q2 (fN 11 2 0 13 [0,1,2,3,4,5,6,7,8,9,10] Q5 (λ_=>VJ) λJ l=>pE l [14,15,16,17,18,19,20,21,22,23,24,11,12] Q2)<|pE (i,g,f,e,d,c,b) [0,1,2,3,4,5,6,7,8,9,10,11,12] Q2) λj ⟨v,t,s,q,o,n,m⟩=>nxW (v,t,s,q,o,n,m) [0,1,2,3,4,5,6,7,8,9,10,11,12] Q)<|bkW (i,g,f,e,d,c,b) [0,1,2,3,4,5,6,7,8,9,10,11,12] Q) λk ⟨E,D,C,B,A,z,w⟩=>jB (E,D,C,B,A,z,a.2.2.2.2.2.2.1,a.2.2.2.2.2.2.2.1,a.2.2.2.2.2.2.2.2.1,a.2.2.2.2.2.2.2.2.2.1,w) [0,1,2,3,4,5,6,7,8,9,10] Q2
theorem aO7{b:aA}{f:AC}(u:aU U k b.Mem.Heap.Bytes)(t:aU U j b.Mem.Heap.Class)(s:aU U i b.Mem.aC.Global)(q:aU U g b.Mem.aC.Own)(p:aU U f b.aD.cV)(o:aU U e b.aQ)(n:aU U d b.pJ):VS prog U 93 (NB b) [.g (gB b k j i g f e d)] [] [] (λr (y:A7C)=>.g (yB r y)) (λr y=>(zB r y [])):=
 cD call93 func93 Q Q2<|iP aJ [0] Q<|c1 Q (λh=>BL (h.a u) (h.a t) (h.a s) (h.a q)) λz m=>c1 Q (λh=>uP (h.a p)) λx l=>c1 Q (λh=>uO (h.a o)) λw c=>c1 Q (λh=>i4 (h.a n)) λv a=>jB (t4U m (l,c,a)) [2,3,4,5,6,7,8] Q2
theorem aHZ{s:ay}{b:AC}(c:aU U b s):VS prog U 94 (L9 s) [.h b s.length] [] [] (λr (y:AC)=>.h y r.length) (λr y=>[ow y r]):=
 cD call94 func94 Q Q2<|λa=>eqn Q Q Q Q (λe=>have a:=cln c e a;sR Q<|LG bZ<|rN ⟨none,0⟩ [0] a Q2 Q4)<|Y9 (O:=bZ) VF Q4 λf=>ap 0 VF Q Q Q Q Q Q Q (λh=>(h.a c)) Q Q a λa d=>wi a<|jB d [0] Q2
theorem G7{s:bq}{b:AC}(c:aU U b s):VS prog U 218 (tU s) [.h b s.length] [] [] (λr (y:AC)=>.h y r.length) (λr y=>[ow y r]):=
 cD call218 func218 Q Q2<|λa=>eqn Q Q Q Q (λe=>have a:=cln c e a;sR Q<|LG eX<|rN ⟨none,0⟩ [0] a Q2 Q4)<|Y9 (O:=eX) lG Q4 λf=>ap 0 lG Q Q Q Q Q Q Q (λh=>(h.a c)) Q Q a λa d=>wi a<|jB d [0] Q2
theorem aO8{j:aK}{G E D:AC}(Z:aU U J j.Batch.bR)(Y:aU U H j.Reads)(X:aU U G j.aH)(W:aU U F j.eX)(V:aU U E j.gN)(T:aU U D j.bH)(S:aU U C j.cK):VS prog U 95 (NC j) [.g (gTj j J H G F E D C)] [] [] (λr (y:A7C)=>.g (yTj r y)) (λr y=>(zTj r y [])):=
 cD call95 func95 Q Q2<|c1 Q (λh=>MM (h.a Z)) λR e=>eP 0 2 (MA j) [1,2] (λ(a:aK) (u:AC×AC×AC)=>[]) [1] (λa u=>[ow e (a.Batch.bR:bc),ow u.1 (a.Reads:bx),ow u.2.1 (a.aH:az),ow u.2.2 (a.eX:bq),.box 0 [.b a.bU,.b a.Batch.Collect,.h e a.Batch.bR.length,I a.aG,I a.Pc,I a.At,I a.K,I a.bZ,I a.eW,I a.H,I a.g7,I a.Node.Key,I a.Node.dP,I a.Node.Next,.b a.Found,I a.Code,I a.Sub.Kind,I a.Sub.A,I a.Sub.Pc,I a.Sub.E,I a.Sub.Row,I a.Sub.B,I a.Sub.H,I a.Sub.Out,I a.Sub.Code,.b a.Sub.iE,.h u.1 a.Reads.length,.h u.2.1 a.aH.length,.h u.2.2 a.eX.length,.h E j.gN.length,.h D j.bH.length,.h C j.cK.length]]) Q (iP aJ [1] Q<|λb=>bd b λM w b=>bd b λL v b=>bd b λK t b=>(by repeat' first|refine fA Q2 ?_ ?_|refine aV5 Q Q ?_ ?_ ?_|refine R5 w Q (λh=>QA (h.a Y)) λk=>?_|refine R5 v Q (λh=>OT (h.a X)) λi=>?_|refine R5 t Q (λh=>G7 (h.a W)) λg=>?_|exact wi b<|pE (p:=(({j with Batch:=R,Reads:=M,aH:=L,eX:=K}:aK))) (k,i,g) [2,3,4,5,0,1] Q2)) λa ⟨B,d,c⟩=>eP 0 2 X5 [1,2] (λ(f:aK) (u:AC×AC×AC)=>[]) [5] (λf u=>(oTj f e B d c u.1 u.2.1 u.2.2 [.box 0 (gTj f e B d c u.1 u.2.1 u.2.2)])) Q (iP aJ [5] Q<|λb=>bd b λP A b=>bd b λO z b=>bd b λN x b=>(by repeat' first|refine fA Q2 ?_ ?_|refine aV5 Q Q ?_ ?_ ?_|refine R5 A Q (λh=>i4 (h.a V)) λn=>?_|refine R5 z Q (λh=>i4 (h.a T)) λm=>?_|refine R5 x Q (λh=>i4 (h.a S)) λl=>?_|exact wi b<|pE (p:=(({a with gN:=P,bH:=O,cK:=N}:aK))) (n,m,l) [0,1,2,3,6,7,8,4,5] Q2)) λf ⟨s,q,o⟩=>jB (e,B,d,c,s,q,o) [0,1,2,3,4,5,6] Q2
theorem aTM{a:iO}(m:aU U k a.bR)(l:aU U j a.eX):VS prog U 96 (QZ a) [.g [I a.Kind,I a.Who,I a.aG,I a.Code,.h k a.bR.length,.h j a.eX.length]] [] [] (λr (y:AC×AC)=>.g [I r.Kind,I r.Who,I r.aG,I r.Code,.h y.1 r.bR.length,.h y.2 r.eX.length]) (λr y=>[ow y.1 r.bR,ow y.2 r.eX]):=
 cD call96 func96 Q Q2<|eP 0 2 (λ(p:bc×bq)=>PD a p.1 p.2) [1,2] (λ(p:bc×bq) (u:AC×AC)=>[]) [1] (λp u=>[ow u.1 (p.1:bc),ow u.2 (p.2:bq),.box 0 [I a.Kind,I a.Who,I a.aG,I a.Code,.h u.1 p.1.length,.h u.2 p.2.length]]) Q (iP aJ [1] Q<|λb=>bd b λi d b=>bd b λg c b=>fA Q2 ((by refine fA Q2 ?_ ?_<;>exact R5 d Q (λh=>wO (h.a m)) λo=>R5 c Q (λh=>G7 (h.a l)) λn=>wi b<|pE (p:=(i,g)) (o,n) [2,3,0,1] Q2)) (R5 d Q (λh=>wO (h.a m)) λf=>R5 c Q (λh=>G7 (h.a l)) λe=>wi b<|pE (p:=(i,g)) (f,e) [2,3,0,1] Q2)) λ⟨v,t⟩ ⟨s,q⟩=>jB (s,q) [0,1] Q2
theorem aL9{s1 s2 s3 s4 s5 s6 s7 s8 s9 R:AC}(h1:aU U s1 t.aA.Mem.Heap.Bytes)(h2:aU U s2 t.aA.Mem.Heap.Class)(h3:aU U s3 t.aA.Mem.aC.Global)(h4:aU U s4 t.aA.Mem.aC.Own)(h5:aU U s5 t.aA.aD.cV)(h6:aU U s6 t.aA.aQ)(h7:aU U s7 t.aA.pJ)(h8:aU U s8 t.aT)(h9:aU U s9 t.aR)(h10:aU U R t.eE)(h11:aU U P t.Log):VS prog U 40 (JZ t) [.g (LK t s1 s2 s3 s4 s5 s6 s7 s8 s9 R P)] [] [] (λr (y:bG4)=>.g (yTb r y)) (λr y=>(zTb r y [])):=
 cD call40 func40 Q Q2<|eP 0 3 (JY t) [1,2] (λ(n:Table) (u:A9C)=>[(3,.p 2 0)]) [0,1] (λn u=>(oBs n.aA u.1 u.2.1 u.2.2.1 u.2.2.2.1 u.2.2.2.2.1 u.2.2.2.2.2.1 u.2.2.2.2.2.2.1 [ow u.2.2.2.2.2.2.2.1 (n.aT:ay),ow u.2.2.2.2.2.2.2.2 (n.eE:ax),.box 2 [.h u.1 n.aA.Mem.Heap.Bytes.length,.h u.2.1 n.aA.Mem.Heap.Class.length,.h u.2.2.1 n.aA.Mem.aC.Global.length,.h u.2.2.2.1 n.aA.Mem.aC.Own.length,I n.aA.aD.aL,.h u.2.2.2.2.1 n.aA.aD.cV.length,.h u.2.2.2.2.2.1 n.aA.aQ.length,.h u.2.2.2.2.2.2.1 n.aA.pJ.length,.h u.2.2.2.2.2.2.2.1 n.aT.length,.h ⟨none,0⟩ 0,.h u.2.2.2.2.2.2.2.2 n.eE.length,.h ⟨none,0⟩ 0,I n.aG]])) Q (iP aJ [0,1] Q<|λq=>bd q λE hA5 q=>bd q λD hA6 q=>bd q λC Z q=>(by repeat' first|refine fA Q2 ?_ ?_|refine R5 hA5 Q (λh=>aO7 (h.a h1) (h.a h2) (h.a h3) (h.a h4) (h.a h5) (h.a h6) (h.a h7)) λK=>?_|refine R5 hA6 Q (λh=>aHZ (h.a h8)) λJ=>?_|refine R5 Z Q (λh=>YG (h.a h10)) λH=>?_|exact wi q<|pE (p:=((⟨E,D,[],C,[],t.aG⟩:Table))) (t7U K (J,H)) [2,3,4,5,6,7,8,9,10,11,0,1] Q2|exact wi q<|pE (p:=((⟨E,D,[],C,[],t.aG⟩:Table))) (t7U K (J,H)) [2,3,4,5,6,7,8,9,11,10,0,1] Q2|exact wi q<|pE (p:=((⟨E,D,[],C,[],t.aG⟩:Table))) (t7U K (J,H)) [2,3,4,5,6,7,8,10,11,9,0,1] Q2|exact wi q<|pE (p:=((⟨E,D,[],C,[],t.aG⟩:Table))) (t7U K (J,H)) [3,4,5,6,7,8,9,10,11,2,0,1] Q2)) λn ⟨k,j,i,g,f,e,d,c,b⟩=>λq=>nw aK Q<|wi q<|LP ⟨none,0⟩ [1,2,3,21,22] (λ(p:Int×Table) (z:AC)=>[(23,I p.1)]) [0,1,2,3,4,5,6,7,12,8,9,10,11] [10,11] (λp z=>(oBs p.2.aA k j i g f e d [ow c (p.2.aT:ay),ow z (p.2.aR:bp),ow b (p.2.eE:ax),.box 2 [.h k p.2.aA.Mem.Heap.Bytes.length,.h j p.2.aA.Mem.Heap.Class.length,.h i p.2.aA.Mem.aC.Global.length,.h g p.2.aA.Mem.aC.Own.length,I p.2.aA.aD.aL,.h f p.2.aA.aD.cV.length,.h e p.2.aA.aQ.length,.h d p.2.aA.pJ.length,.h c p.2.aT.length,.h z p.2.aR.length,.h b p.2.eE.length,.h ⟨none,0⟩ 0,I p.2.aG]])) id [1,2,3] (λ(m:Table) (l:AC)=>[]) [10,11] (λm l=>(oBs m.aA k j i g f e d [ow c (m.aT:ay),ow l (m.aR:bp),ow b (m.eE:ax),.box 2 [.h k m.aA.Mem.Heap.Bytes.length,.h j m.aA.Mem.Heap.Class.length,.h i m.aA.Mem.aC.Global.length,.h g m.aA.Mem.aC.Own.length,I m.aA.aD.aL,.h f m.aA.aD.cV.length,.h e m.aA.aQ.length,.h d m.aA.pJ.length,.h c m.aT.length,.h l m.aR.length,.h b m.eE.length,.h ⟨none,0⟩ 0,I m.aG]])) Q Q (λhF2 ⟨x4,x5⟩ z hr2=>bE [24] Q2 (kP aBM Q h9 Q λx15 s40 o=>eP 0 5 (JX x4) [1,2,3,21,22,23] (λ(a:Table) (s:AC)=>[]) [11,12] (λa s=>(oBs a.aA k j i g f e d [ow c (a.aT:ay),ow s (a.aR:bp),ow b (a.eE:ax),.box 2 [.h k a.aA.Mem.Heap.Bytes.length,.h j a.aA.Mem.Heap.Class.length,.h i a.aA.Mem.aC.Global.length,.h g a.aA.Mem.aC.Own.length,I a.aA.aD.aL,.h f a.aA.aD.cV.length,.h e a.aA.aQ.length,.h d a.aA.pJ.length,.h c a.aT.length,.h s a.aR.length,.h b a.eE.length,.h ⟨none,0⟩ 0,I a.aG]])) Q (iP aJ [11,12,13,14] Q<|λB=>bd B λL hA3 B=>nd B λhA4 B=>(by repeat' first|refine fA Q2 ?_ ?_|refine R5 hA3 Q (λh=>aO8 (h.a o.1) (h.a o.2.1) (h.a o.2.2.1) (h.a o.2.2.2.1) (h.a o.2.2.2.2.1) (h.a o.2.2.2.2.2.1) (h.a o.2.2.2.2.2.2)) λX=>?_|refine ZA bB [15,16,17,18,19,20,21] (L) X VG ZB λs46=>?_|refine have S:=rn hA4;apN 8 22 VG Q Q Q9 S λS W=>?_|exact wi B<|pE (p:=(({x5 with aR:=x5.aR++([L]),Log:=[]}:Table))) W [0,1,2,3,4,5,6,7,23,9,10,11,12] Q2)) λa s=>nxW s [0,1,2,3,4,5,6,7,8,9,10,11,12] Q)<|bkW z [0,1,2,3,4,5,6,7,8,9,10,11,12] Q) λm l=>λq=>nw iO Q<|wi q<|LP ⟨none,0⟩ [2,3,36,37] (λ(p:Int×Table) (x:AC)=>[(38,I p.1)]) [0,1,2,3,4,5,6,7,8,9,13,10,12] [12] (λp x=>(T1 p.2 k j i g f e d c l b x [.box 2 (LK p.2 k j i g f e d c l b x)])) id [2,3] (λ(G:Table) (w:AC)=>[]) [12] (λG w=>(T1 G k j i g f e d c l b w [.box 2 (LK G k j i g f e d c l b w)])) Q Q (λhF3 ⟨x9,N⟩ x hr3=>bE [39] Q2 (kP aDH Q h11 Q λx12 s27 V=>eP 0 5 (JW x9) [2,3,36,37,38] (λ(F:Table) (v:AC)=>[]) [12] (λF v=>(T1 F k j i g f e d c l b v [.box 2 (LK F k j i g f e d c l b v)])) Q (iP aJ [12,13,14] Q<|λA=>bd A λM hA1 A=>nd A λhA2 A=>(by repeat' first|refine fA Q2 ?_ ?_|refine R5 hA1 Q (λh=>aTM (h.a V.1) (h.a V.2)) λO=>?_|refine ZA bG6 [15,16] (M) (O.1,O.2) oF ZB λs33=>?_|refine have T:=rn hA2;apN 10 17 oF Q Q Q9 T λT Y=>?_|exact wi A<|pE (p:=(({N with Log:=N.Log++([M])}:Table))) Y [0,1,2,3,4,5,6,7,8,9,18,11,12] Q2)) λF v=>nxW v [0,1,2,3,4,5,6,7,8,9,10,11,12] Q)<|bkW x [0,1,2,3,4,5,6,7,8,9,10,11,12] Q) λG w=>jB (k,j,i,g,f,e,d,c,l,b,w) [0,1,2,3,4,5,6,7,8,9,10] Q2
theorem aTN:V0 prog U 351 (Q0 h) [I h] .b:=
 cD call351 func351 Q Q2<|c0 Q (λ_=>yS) λa=>b8 Q2
theorem a0R{z:an}{a:AC}(b:aU U a z):V0 prog U 222 (ZK z) [.h a z.length] .b:=
 cD call222 func222 Q Q2<|dJ 0 0 ND [] 2 [] Q (dE [5,6] Q2 (c0 Q (λh=>g8 (h.a b) (aHH call351 λ_=>aTN)) λc=>bL [] Q2)<|bL [] Q2) λd=>b8 Q2
theorem aJ9{b:eR}{a:aA}{f:AC}{o:Nat×Nat}(n:aU U j a.Mem.Heap.Bytes)(m:aU U i a.Mem.Heap.Class)(l:aU U g a.Mem.aC.Global)(k:aU U f a.Mem.aC.Own)(u:aU U e a.aD.cV)(t:aU U d a.aQ)(s:aU U c a.pJ):VS prog U 226 (FV b a) [.g [I b.Handle,I b.aL],.p 0 0] [o] [.ro 0 (gB a j i g f e d c)] (λr (_:Unit)=>.b r) (λ_ _=>[]):=
 cD call226 func226 Q Q2<|dJ 0 2 wC [] 3 [] Q (c0 Q (λh=>N2 (h.a n) (h.a m) (h.a l) (h.a k)) λp=>dE [9,10] Q2 (bL [] Q2)<|bL [] Q2) λq=>b8 Q2
theorem aO9{l:b7}{a:aA}{f b:AC}{w:Nat×Nat}(v:aU U j l.Rows)(u:aU U i a.Mem.Heap.Bytes)(t:aU U g a.Mem.Heap.Class)(s:aU U f a.Mem.aC.Global)(q:aU U e a.Mem.aC.Own)(p:aU U d a.aD.cV)(o:aU U c a.aQ)(n:aU U b a.pJ):VS prog U 224 (NF l a) [.g [.h j l.Rows.length],.p 0 0] [w] [.ro 0 (gB a i g f e d c b)] (λr (_:Unit)=>.b r) (λ_ _=>[]):=
 cD call224 func224 Q Q2<|λk=>mf [0] Q Q Q<|wi k<|aRY [0] Q Q Q Q (λh=>λm=>BH (h.a v) (aLF (cs:=[(0,(gB a i g f e d c b))]) call226 m Q λhk _=>aJ9 (rk hk (h.a u)) (rk hk (h.a t)) (rk hk (h.a s)) (rk hk (h.a q)) (rk hk (h.a p)) (rk hk (h.a o)) (rk hk (h.a n)))) λx=>b8 Q2
theorem aW8{b:aA}{f a:AC}(p:aU U i b.Mem.Heap.Bytes)(o:aU U g b.Mem.Heap.Class)(n:aU U f b.Mem.aC.Global)(m:aU U e b.Mem.aC.Own)(l:aU U d b.aD.cV)(j:aU U c b.aQ)(k:aU U a b.pJ):V0 prog U 97 (UX b) [.g (gB b i g f e d c a)] .b:=
 cD call97 func97 Q Q2<|dJ 0 1 (tV b) [1] 24 [0] Q (c0 Q (λh=>KU (h.a p) (h.a o) (h.a n) (h.a m)) λw=>dE [6,7] Q2 (bL [0] Q2)<|c0 Q (λh=>BI (h.a l)) λv=>dE [11,12,13] Q2 (bL [0] Q2)<|c0 Q (λh=>KS (h.a j)) λu=>dE [17,18,19] Q2 (bL [0] Q2)<|c0 Q (λh=>a0R (h.a k)) λt=>bL [0] Q2) λy=>bE [24] Q2 (b8 Q2)<|λr=>mf [0] Q Q Q<|wi r<|aRY [0] Q Q Q Q (λh=>λs=>zL (h.a j) (aLF (cs:=[(0,(gB b i g f e d c a))]) call224 s Q λhk q=>aO9 q (rk hk (h.a p)) (rk hk (h.a o)) (rk hk (h.a n)) (rk hk (h.a m)) (rk hk (h.a l)) (rk hk (h.a j)) (rk hk (h.a k)))) λx=>b8 Q2
theorem Z7{s:ay}{f:(bZ->aw)}{h:AC}{c:FuncId}{a:ar}(j:aU U h s)(e:Fu1 prog U (a6W:GM bZ) .b c a f):V0 prog U 228 (OI s f) [.h h s.length,.k (.func (.func c) #[] a.toArray)] I:=
 cD call228 func228 Q Q2<|BX 8 [0,1,7] [] Out.brk [] [] Q Q (λg l d=>bE [9] Q2 (kP a6W Q j Q λi _ _=>λb=>fa1 e i () Q Q Q Q Q trivial b λk _ b=>wi b<|bE [16] Q2 (uX d g<|b8 Q2)<|sO [] Q)<|rU [] Q)<|b8 Q2
theorem T7{s:ay}{f:(bZ->aw)}{b:FuncId}{a:ar}(e:aU U d s)(c:Fu1 prog U (a6W:GM bZ) .b b a f):V0 prog U 98 (tX s f) [.h d s.length,.k (.func (.func b) #[] a.toArray)] .b:=
 cD call98 func98 Q Q2<|c0 Q (λh=>Z7 (h.a e) (h.u1 c)) λg=>b8 Q2
theorem a0S{b:bZ}:V0 prog U 100 (aHJ b) [.g [I b.Head,I b.eW,I b.eU]] .b:=
 cD call100 func100 Q Q2<|dJ 0 1 NG [] 2 [] Q (c0 Q (λ_=>yS) λd=>dE [5,6] Q2 (c0 Q (λ_=>bI) λc=>dE [9,10,11] Q2 (c0 Q (λ_=>bI) λa=>bL [] Q2)<|bL [] Q2)<|bL [] Q2) λe=>b8 Q2
theorem aMA{b:bZ}:V0 prog U 99 (SL b) [.g [I b.Head,I b.eW,I b.eU]] .b:=
 cD call99 func99 Q Q2<|c0 Q (λ_=>a0S) λa=>b8 Q2
theorem YK{s:bp}{f:(aK->aw)}{d:FuncId}{a:ar}(l:aU U i s)(g:Fu1 prog U (aBM:GM aK) .b d a f):V0 prog U 230 (LS s f) [.h i s.length,.k (.func (.func d) #[] a.toArray)] I:=
 cD call230 func230 Q Q2<|BX 8 [0,1,7] [] Out.brk [] [] Q Q (λh n e=>bE [9] Q2 (kP aBM Q l Q λj k c=>λb=>fa1 g j k Q Q Q Q Q ⟨c.1,c.2.1,c.2.2.1,c.2.2.2.1,c.2.2.2.2.1,c.2.2.2.2.2.1,c.2.2.2.2.2.2⟩ b λm _ b=>wi b<|bE [16] Q2 (uX e h<|b8 Q2)<|sO [] Q)<|rU [] Q)<|b8 Q2
theorem kX{s:bp}{f:(aK->aw)}{b:FuncId}{a:ar}(e:aU U d s)(c:Fu1 prog U (aBM:GM aK) .b b a f):V0 prog U 101 (iG s f) [.h d s.length,.k (.func (.func b) #[] a.toArray)] .b:=
 cD call101 func101 Q Q2<|c0 Q (λh=>YK (h.a e) (h.u1 c)) λg=>b8 Q2
theorem S7{e d:bq}{f:AC}(k:aU U g e)(j:aU U f d):V0 prog U 256 (lW e d) [.h g e.length,.h f d.length] .b:=
 cD call256 func256 Q Q2<|bE [10] Q2 (b8 Q2)<|BX 13 [0,1,12] [] Out.brk [] [] Q Q (λc l a=>bE [14] Q2 (iP aJ [] Q<|kP bG5 Q k Q λi _ _=>kP bG5 Q j Q λh _ _=>λb=>neS eqGuardType219 stoodInHeld219 underlying219 (aM8 9997 i h) Q6<|wi b<|bE [24] Q2 (uX a c<|b8 Q2)<|sO [] Q)<|rU [] Q)<|b8 Q2
theorem aH0{e d:bc}{f:AC}(k:aU U g e)(j:aU U f d):V0 prog U 445 (MB e d) [.h g e.length,.h f d.length] .b:=
 cD call445 func445 Q Q2<|bE [10] Q2 (b8 Q2)<|BX 13 [0,1,12] [] Out.brk [] [] Q Q (λc l a=>bE [14] Q2 (iP aJ [] Q<|kP aS3 Q k Q λi _ _=>kP aS3 Q j Q λh _ _=>λb=>neS eqGuardType132 stoodInHeld132 underlying132 (aM9 9997 i h) Q6<|wi b<|bE [24] Q2 (uX a c<|b8 Q2)<|sO [] Q)<|rU [] Q)<|b8 Q2
theorem aMB{a b:Batch}(f:aU U d a.bR)(e:aU U c b.bR):V0 prog U 355 (J1 a b) [.g [.b a.Collect,.h d a.bR.length],.g [.b b.Collect,.h c b.bR.length]] .b:=
 cD call355 func355 Q Q2<|dJ 0 2 J0 [] 4 [] Q (dE [9,10] Q2 (c0 Q (λh=>aH0 (h.a f) (h.a e)) λg=>bL [] Q2)<|bL [] Q2) λi=>b8 Q2
theorem aFV{e d:bx}{f:AC}(k:aU U g e)(j:aU U f d):V0 prog U 356 (zG e d) [.h g e.length,.h f d.length] .b:=
 cD call356 func356 Q Q2<|bE [10] Q2 (b8 Q2)<|BX 13 [0,1,12] [] Out.brk [] [] Q Q (λc l a=>bE [14] Q2 (iP aJ [] Q<|kP aGL Q k Q λi _ _=>kP aGL Q j Q λh _ _=>λb=>neS eqGuardType237 stoodInHeld237 underlying237 (aNA 9997 i h) Q6<|wi b<|bE [24] Q2 (uX a c<|b8 Q2)<|sO [] Q)<|rU [] Q)<|b8 Q2
theorem aDY{e d:az}{f:AC}(k:aU U g e)(j:aU U f d):V0 prog U 357 (wD e d) [.h g e.length,.h f d.length] .b:=
 cD call357 func357 Q Q2<|bE [10] Q2 (b8 Q2)<|BX 13 [0,1,12] [] Out.brk [] [] Q Q (λc l a=>bE [14] Q2 (iP aJ [] Q<|kP BF Q k Q λi _ _=>kP BF Q j Q λh _ _=>λb=>neS eqGuardType217 stoodInHeld217 underlying217 (aNB 9997 i h) Q6<|wi b<|bE [24] Q2 (uX a c<|b8 Q2)<|sO [] Q)<|rU [] Q)<|b8 Q2
theorem G8{d c:an}{f:AC}(h:aU U f d)(g:aU U e c):V0 prog U 358 (oN d c) [.h f d.length,.h e c.length] .b:=
 cD call358 func358 Q Q2<|bE [10] Q2 (b8 Q2)<|BX 13 [0,1,12] [] Out.brk [] [] Q Q (λb k a=>bE [14] Q2 (iP aJ [] Q<|ixI Q h Q λj=>ixI Q g Q λi=>bE [24] Q2 (uX a b<|b8 Q2)<|sO [] Q)<|rU [] Q)<|b8 Q2
theorem aPA{a b:aK}{v t r:AC}{o f:AC}(F:aU U w a.Batch.bR)(E:aU U v a.Reads)(D:aU U u a.aH)(C:aU U t a.eX)(B:aU U s a.gN)(A:aU U r a.bH)(z:aU U q a.cK)(y:aU U p b.Batch.bR)(x:aU U o b.Reads)(m:aU U g b.aH)(l:aU U f b.eX)(k:aU U e b.gN)(j:aU U d b.bH)(i:aU U c b.cK):V0 prog U 231 (NH a b) [.g (gTj a w v u t s r q),.g (gTj b p o g f e d c)] .b:=
 cD call231 func231 Q Q2<|dJ 0 2 cG [] 4 [] Q (dE [9,10] Q2 (c0 Q (λh=>aMB (h.a F) (h.a y)) λM=>dE [15,16,17] Q2 (dE [22,23,24] Q2 (dE [29,30,31] Q2 (dE [36,37,38] Q2 (dE [43,44,45] Q2 (dE [50,51,52] Q2 (dE [57,58,59] Q2 (dE [64,65,66] Q2 (dE [71,72,73] Q2 (λn=>eqS eqGuardType95 stoodInHeld95 underlying95 (aSZ 9997 a.Node b.Node) Q Q Q Q Q Q<|wi n<|dE [78,79,80] Q2 (dE [85,86,87] Q2 (dE [92,93,94] Q2 (λn=>eqS eqGuardType97 stoodInHeld97 underlying97 (aS0 9997 a.Sub b.Sub) Q Q Q Q Q Q<|wi n<|dE [99,100,101] Q2 (c0 Q (λh=>aFV (h.a E) (h.a x)) λL=>dE [106,107,108] Q2 (c0 Q (λh=>aDY (h.a D) (h.a m)) λK=>dE [113,114,115] Q2 (c0 Q (λh=>S7 (h.a C) (h.a l)) λJ=>dE [120,121,122] Q2 (c0 Q (λh=>G8 (h.a B) (h.a k)) λI=>dE [127,128,129] Q2 (c0 Q (λh=>G8 (h.a A) (h.a j)) λH=>dE [134,135,136] Q2 (c0 Q (λh=>G8 (h.a z) (h.a i)) λG=>bL [] Q2)<|bL [] Q2)<|bL [] Q2)<|bL [] Q2)<|bL [] Q2)<|bL [] Q2)<|bL [] Q2)<|bL [] Q2)<|bL [] Q2)<|bL [] Q2)<|bL [] Q2)<|bL [] Q2)<|bL [] Q2)<|bL [] Q2)<|bL [] Q2)<|bL [] Q2)<|bL [] Q2)<|bL [] Q2)<|bL [] Q2)<|bL [] Q2) λN=>b8 Q2
theorem Z8{b:Int}:V0 prog U 232 (MC b) [I b] .b:=
 cD call232 func232 Q Q2<|c0 Q (λ_=>bI) λa=>b8 Q2
theorem aFW:V0 prog U 359 (zH h) [I h] .b:=
 cD call359 func359 Q Q2<|c0 Q (λ_=>jW) λa=>b8 Q2
theorem VK{a:an}{b:AC}(c:aU U b a):V0 prog U 233 (xK a) [.h b a.length] .b:=
 cD call233 func233 Q Q2<|dJ 0 0 G5 [] 2 [] Q (dE [5,6] Q2 (c0 Q (λh=>g8 (h.a c) (aHH call359 λ_=>aFW)) λd=>bL [] Q2)<|bL [] Q2) λe=>b8 Q2
theorem aPB{s:Seen}:V0 prog U 234 (WD s) [.g [I s.bZ,I s.eW]] .b:=
 cD call234 func234 Q Q2<|c0 Q (λ_=>Z8) λa=>b8 Q2
theorem aPC{a:az}(e:aU U d a):V0 prog U 235 (NI a) [.h d a.length] .b:=
 cD call235 func235 Q Q2<|BX 7 [0,5,6] [] Out.brk [0] [] Q Q (λc f b=>bE [8] Q2 (kP BF Q e Q λk _ _=>dJ 0 2 (lX f) [0,5,6,7] 36 [] Q (iP aJ [0,1] Q<|c0 Q (λ_=>bI) λi=>dE [15,16] Q2 (bL [] Q2)<|c0 Q (λ_=>bI) λh=>dE [20,21,22] Q2 (bL [] Q2)<|dE [24,25] Q2 (kP BF Q e Q λg _ _=>bL [] Q2)<|bL [] Q2) λj=>bE [36] Q2 (uX b c<|b8 Q2)<|sO [] Q)<|rU [] Q)<|b8 Q2
theorem aGU{j:aK}{m l f:AC}(s:aU U n j.Batch.bR)(r:aU U m j.Reads)(q:aU U l j.aH)(E:aU U k j.eX)(p:aU U i j.gN)(e:aU U g j.bH)(o:aU U f j.cK):V0 prog U 103 (vH j) [.g (gTj j n m l k i g f)] .b:=
 cD call103 func103 Q Q2<|bE [7] Q2 (c0 Q (λh=>aPA (b:=zL0) (h.a s) (h.a r) (h.a q) (h.a E) (h.a p) (h.a e) (h.a o) l6 l6 l6 l6 l6 l6 l6) λL=>b8 Q2)<|BX 14 [1,12,13] [0] Out.brk [1] [0] Q Q (λd C c=>bE [15] Q2 (ixI Q e Q λw=>dJ 0 2 (J2 C) [1,12,13,14] 29 [0] Q (c0 Q (λ_=>Z8) λu=>dE [21,22] Q2 (bL [0] Q2)<|λa=>a9C Q Q Q Q Q e Q Q a λa M D=>wi a<|c0 Q (λh=>lQ (h.a D)) λt=>bL [0] Q2) λv=>bE [29] Q2 (uX c d<|b8 Q2)<|sO [0] Q)<|rU [0] Q)<|dJ 0 1 iZ [] 2 [] Q (c0 Q (λh=>aDN (h.a s)) λJ=>dE [33,34] Q2 (c0 Q (λ_=>yS) λI=>dE [37,38,39] Q2 (c0 Q (λ_=>yS) λH=>dE [42,43,44] Q2 (c0 Q (λ_=>Z8) λG=>dE [47,48,49] Q2 (c0 Q (λ_=>bI) λF=>dE [56,57,58] Q2 (c0 Q (λ_=>bI) λB=>dE [61,62,63] Q2 (c0 Q (λh=>VK (h.a p)) λA=>dE [66,67,68] Q2 (c0 Q (λh=>VK (h.a o)) λz=>dE [71,72,73] Q2 (c0 Q (λh=>BK (h.a r) (aHH call234 λ_=>aPB)) λy=>dE [77,78,79] Q2 (c0 Q (λh=>aPC (h.a q)) λx=>bL [] Q2)<|bL [] Q2)<|bL [] Q2)<|bL [] Q2)<|bL [] Q2)<|bL [] Q2)<|bL [] Q2)<|bL [] Q2)<|bL [] Q2)<|bL [] Q2) λK=>b8 Q2
theorem aMC{j:aK}{f b a:AC}(p:aU U g j.Batch.bR)(o:aU U f j.Reads)(n:aU U e j.aH)(m:aU U d j.eX)(l:aU U c j.gN)(k:aU U b j.bH)(i:aU U a j.cK):V0 prog U 102 (SM j) [.g (gTj j g f e d c b a)] .b:=
 cD call102 func102 Q Q2<|c0 Q (λh=>aGU (h.a p) (h.a o) (h.a n) (h.a m) (h.a l) (h.a k) (h.a i)) λq=>b8 Q2
theorem S8{m l f b:AC}(y:aU U n t.aA.Mem.Heap.Bytes)(x:aU U m t.aA.Mem.Heap.Class)(w:aU U l t.aA.Mem.aC.Global)(v:aU U k t.aA.Mem.aC.Own)(u:aU U j t.aA.aD.cV)(s:aU U i t.aA.aQ)(r:aU U g t.aA.pJ)(q:aU U f t.aT)(p:aU U e t.aR)(d:aU U c t.eE)(o:aU U b t.Log):V0 prog U 41 (CH t) [.g (LK t n m l k j i g f e c b)] .b:=
 cD call41 func41 Q Q2<|dJ 0 1 lD [] 2 [] Q (c0 Q (λh=>aW8 (h.a y) (h.a x) (h.a w) (h.a v) (h.a u) (h.a s) (h.a r)) λD=>dE [5,6] Q2 (dE [10,11,12] Q2 (c0 Q (λh=>T7 (h.a q) (aHH call99 λ_=>aMA)) λC=>dE [16,17,18] Q2 (dE [22,23,24] Q2 (c0 Q (λh=>kX (h.a p) (aHH call102 λa=>aMC a.1 a.2.1 a.2.2.1 a.2.2.2.1 a.2.2.2.2.1 a.2.2.2.2.2.1 a.2.2.2.2.2.2)) λB=>dE [28,29,30] Q2 (c0 Q (λh=>aDO (h.a d)) λA=>dE [33,34,35] Q2 (c0 Q (λ_=>bI) λz=>bL [] Q2)<|bL [] Q2)<|bL [] Q2)<|bL [] Q2)<|bL [] Q2)<|bL [] Q2)<|bL [] Q2) λE=>b8 Q2
theorem aH1{j:aK}{f b a:AC}(o:aU U g j.Batch.bR)(n:aU U f j.Reads)(m:aU U e j.aH)(l:aU U d j.eX)(k:aU U c j.gN)(i:aU U b j.bH)(h:aU U a j.cK):V0 prog U 128 (MD j) [.g (gTj j g f e d c b a)] .b:=
 cD call128 func128 Q Q2<|b8 Q2
theorem aH2{q:aP}{a:AC}(b:aU U a q.List):V0 prog U 130 (ME q) [.g [.h a q.List.length]] .b:=
 cD call130 func130 Q Q2<|b8 Q2
theorem YL{m l f b:AC}(B:aU U n t.aA.Mem.Heap.Bytes)(A:aU U m t.aA.Mem.Heap.Class)(z:aU U l t.aA.Mem.aC.Global)(y:aU U k t.aA.Mem.aC.Own)(x:aU U j t.aA.aD.cV)(w:aU U i t.aA.aQ)(v:aU U g t.aA.pJ)(u:aU U f t.aT)(p:aU U e t.aR)(d:aU U c t.eE)(o:aU U b t.Log):V0 prog U 54 (AN t) [.g (LK t n m l k j i g f e c b)] .b:=
 cD call54 func54 Q Q2<|dJ 0 1 J3 [] 2 [] Q (c0 Q (λh=>kX (h.a p) (aHH call128 λa=>aH1 a.1 a.2.1 a.2.2.1 a.2.2.2.1 a.2.2.2.2.1 a.2.2.2.2.2.1 a.2.2.2.2.2.2)) λr=>dE [6,7] Q2 (c0 Q (λh=>xX (h.a d) (aHH call130 λa=>aH2 a)) λq=>bL [] Q2)<|bL [] Q2) λs=>b8 Q2
theorem OU{j:aK}{f b a:AC}(p:aU U g j.Batch.bR)(o:aU U f j.Reads)(n:aU U e j.aH)(m:aU U d j.eX)(l:aU U c j.gN)(k:aU U b j.bH)(i:aU U a j.cK):V0 prog U 104 (wE j) [.g (gTj j g f e d c b a)] .b:=
 cD call104 func104 Q Q2<|c0 Q (λh=>aGU (h.a p) (h.a o) (h.a n) (h.a m) (h.a l) (h.a k) (h.a i)) λq=>b8 Q2
theorem aH3{n:Int}{c:Bool}{O K f a:AC}{S:Nat×Nat}:VS prog U 42 (MF t n c) [.p 0 0,I n,.b c] [S] ([.box 0 (LK t P O N M L K f e d a q)]++(T1 t P O N M L K f e d a q [])) (λr (y:A7C)=>.t []) (λr y=>([.box 0 (LK r y.1 y.2.1 y.2.2.1 y.2.2.2.1 y.2.2.2.2.1 y.2.2.2.2.2.1 f e d a y.2.2.2.2.2.2)]++(T1 r y.1 y.2.1 y.2.2.1 y.2.2.2.1 y.2.2.2.2.1 y.2.2.2.2.2.1 f e d a y.2.2.2.2.2.2 []))):=
 cD call42 func42 Q Q2<|LP (P,O,N,M,L,K,q) [0,2,7] (λ(p:Int×Table) (u:A7C)=>[(8,I p.1)]) [1,2,3,4,5,6,7,8,9,10,11,0] [] (λp u=>(T1 p.2 u.1 u.2.1 u.2.2.1 u.2.2.2.1 u.2.2.2.2.1 u.2.2.2.2.2.1 f e d a u.2.2.2.2.2.2 [.box 0 (LK p.2 u.1 u.2.1 u.2.2.1 u.2.2.2.1 u.2.2.2.2.1 u.2.2.2.2.2.1 f e d a u.2.2.2.2.2.2)])) Out.brk [0] (λ(s:Table) (u:A7C)=>[]) [] (λs u=>(T1 s u.1 u.2.1 u.2.2.1 u.2.2.2.1 u.2.2.2.2.1 u.2.2.2.2.2.1 f e d a u.2.2.2.2.2.2 [.box 0 (LK s u.1 u.2.1 u.2.2.1 u.2.2.2.1 u.2.2.2.2.1 u.2.2.2.2.2.1 f e d a u.2.2.2.2.2.2)])) Q Q (λH ⟨R,J⟩ ⟨o,m,l,k,j,i,g⟩ G=>bE [9] Q2 (eP 0 1 (λ(p:Bool×Table)=>nM R p.1 p.2) [0,2,6,7,8] (λ(p:Bool×Table) (_:Unit)=>[(24,.b p.1)]) [] (λp _=>(T1 p.2 o m l k j i f e d a g [.box 0 (LK p.2 o m l k j i f e d a g)])) Q (dE [11,12] Q2 (c0 Q (λh=>YL (h.o 0 Q) (h.o 1 Q) (h.o 2 Q) (h.o 3 Q) (h.o 4 Q) (h.o 5 Q) (h.o 6 Q) (h.o 7 Q) (h.o 8 Q) (h.o 9 Q) (h.o 10 Q)) λT=>dE [16,17,18] Q2 (bL (p:=(true,J)) [0,1,2,3,4,5,6,7,8,9,10,11] Q2)<|c0 Q (λh=>kX (h.o 8 Q) (aHH call104 λb=>OU b.1 b.2.1 b.2.2.1 b.2.2.2.1 b.2.2.2.2.1 b.2.2.2.2.2.1 b.2.2.2.2.2.2)) λw=>bL (p:=(w,J)) [0,1,2,3,4,5,6,7,8,9,10,11] Q2)<|c0 Q (λh=>kX (h.o 8 Q) (aHH call104 λb=>OU b.1 b.2.1 b.2.2.1 b.2.2.2.1 b.2.2.2.2.1 b.2.2.2.2.2.1 b.2.2.2.2.2.2)) λv=>bL (p:=(v,J)) [0,1,2,3,4,5,6,7,8,9,10,11] Q2) λ⟨X,W⟩ _=>bE [24] Q2 (uX G H<|jB (o,m,l,k,j,i,g) [11,0,1,2,3,4,5,6,7,8,9,10] Q2)<|fN 11 0 0 13 [0,1,2,3,4,5,6,7,8,9,10] Q5 (λ_=>VJ) λV x=>nxW x [12,13,14,15,16,17,18,19,20,21,22,11] Q)<|bkW (o,m,l,k,j,i,g) [0,1,2,3,4,5,6,7,8,9,10,11] Q) λs ⟨F,E,D,C,B,A,z⟩=>LH (F,E,D,C,B,A,z) [11,0,1,2,3,4,5,6,7,8,9,10] Q Q
theorem aH4{z x v b:AC}(K:aU U B t.aA.Mem.Heap.Bytes)(J:aU U A t.aA.Mem.Heap.Class)(I:aU U z t.aA.Mem.aC.Global)(H:aU U x t.aA.Mem.aC.Own)(G:aU U w t.aA.aD.cV)(F:aU U v t.aA.aQ)(E:aU U s t.aA.pJ)(D:aU U q t.aT)(C:aU U p t.aR)(e:aU U c t.eE)(d:aU U b t.Log):VS prog U 9 (lY t) [.g (LK t B A z x w v s q p c b)] [] [] (λr (y:bG4)=>.g (yTb r y)) (λr y=>(zTb r y [])):=
 cD call9 func9 Q Q2<|c1 Q (λh=>aL9 (h.a K) (h.a J) (h.a I) (h.a H) (h.a G) (h.a F) (h.a E) (h.a D) (h.a C) (h.a e) (h.a d)) λN a=>eP 1 3 DU [2,3] (λ(f:Table) (u:A7C)=>[]) [1] (λf u=>(T1 f u.1 u.2.1 u.2.2.1 u.2.2.2.1 u.2.2.2.2.1 u.2.2.2.2.2.1 a.2.2.2.2.2.2.1 a.2.2.2.2.2.2.2.1 a.2.2.2.2.2.2.2.2.1 a.2.2.2.2.2.2.2.2.2.1 u.2.2.2.2.2.2 [.box 2 (LK f u.1 u.2.1 u.2.2.1 u.2.2.2.1 u.2.2.2.2.1 u.2.2.2.2.2.1 a.2.2.2.2.2.2.1 a.2.2.2.2.2.2.2.1 a.2.2.2.2.2.2.2.2.1 a.2.2.2.2.2.2.2.2.2.1 u.2.2.2.2.2.2)])) Q (c0 Q (λh=>S8 (h.a K) (h.a J) (h.a I) (h.a H) (h.a G) (h.a F) (h.a E) (h.a D) (h.a C) (h.a e) (h.a d)) λM=>bE [7] Q2 (fN 13 2 0 13 [2,3,4,5,6,7,8,9,10,11,12] Q5 (λ_=>aH3) λL g=>pE g [14,15,16,17,18,19,20,21,22,23,24,13,1] Q2)<|pE (a.1,a.2.1,a.2.2.1,a.2.2.2.1,a.2.2.2.2.1,a.2.2.2.2.2.1,a.2.2.2.2.2.2.2.2.2.2) [2,3,4,5,6,7,8,9,10,11,12,13,1] Q2) λf ⟨o,n,m,l,k,j,i⟩=>jB (o,n,m,l,k,j,a.2.2.2.2.2.2.1,a.2.2.2.2.2.2.2.1,a.2.2.2.2.2.2.2.2.1,a.2.2.2.2.2.2.2.2.2.1,i) [0,1,2,3,4,5,6,7,8,9,10] Q2
theorem C4{l:an}(d:aU U c l):V0 prog U 105 (wF l x) [.h c l.length,I x] .b:=
 cD call105 func105 Q Q2<|BX 5 [0,1] [] Out.brk [] [] Q Q (λb f a=>bE [9] Q2 (ixI Q d Q λe=>bE [17] Q2 (uX a b<|b8 Q2)<|sO [] Q)<|rU [] Q)<|b8 Q2
theorem BM{b a:Int}(f:aU U e l):V0 prog U 106 (rH l b a) [.h e l.length,I b,I a] I:=
 cD call106 func106 Q Q2<|BX 7 [0,1,2] [] Out.brk [] [] Q Q (λd g c=>bE [11] Q2 (dJ 0 0 (FW g) [0,1,2,7] 29 [] Q (kP aDH Q f Q λi m o=>dE [20,21] Q2 (kP aDH Q f Q λh k n=>bL [] Q2)<|bL [] Q2) λj=>bE [29] Q2 (uX c d<|b8 Q2)<|sO [] Q)<|rU [] Q)<|b8 Q2
theorem aKA{m:AC}(c:aU U m l):VS prog U 43 (SN l) [.h m l.length] [] [] (λr (y:AC)=>.h y r.length) (λr y=>[ow y r]):=
 cD call43 func43 Q Q2<|λC=>Y9 (O:=Int) bD Q4 λB=>wi C<|LP B [0] (λ(p:an×Int) (b:AC)=>[(3,.h b p.1.length),(4,I p.2)]) [0] [] (λp b=>[ow b (p.1:an)]) id [] (λ(g:an) (e:AC)=>[(3,.h e g.length)]) [] (λg e=>[ow e (g:an)]) Q Q (λA ⟨k,j⟩ b z=>bE [10] Q2 (eP 3 0 (EE j) [0,4] (λ(f:an) (d:AC)=>[(3,.h d f.length)]) [] (λf d=>[ow d (f:an)]) Q (dJ 0 0 (NL l k j) [0,3,4] 27 [0] Q (kP aDH Q c Q λq w L=>dE [18,19] Q2 (bL [0] Q2)<|kP aDH Q c Q λo v K=>c0 Q (λh=>C4 (h.o 0 Q)) λn=>bL [0] Q2) λF=>bE [27] Q2 (pE b [0] Q2)<|kP aDH Q c Q λE J P=>c0 Q (λh=>BM (h.a c)) λD=>dJ 0 1 (NJ l k j) [0,3,4] 44 [0] Q (dE [36,37] Q2 (kP aDH Q c Q λs x M=>bL [0] Q2)<|bL [0] Q2) λu=>bE [44] Q2 (kP aDH Q c Q λt H N=>λa=>lt1 Q bD Q Q Q Q λG=>ap 0 bD Q Q Q Q Q Q Q (λh=>(h.o 2 Q)) Q Q a λa i=>wi a<|pE i [0] Q2)<|pE b [0] Q2) λf d=>nxW d [0] Q)<|bkW b [0] Q) λg e=>jB e [0] Q2
theorem WQ{l:aq}{key val:Int}{v:AC}(u:aU U v l):VS prog U 114 (HN l key val) [.h v l.length,I key,I val] [] [] (λr (y:AC)=>.h y r.length) (λr y=>[ow y r]):=
 cD call114 func114 Q Q2<|λi=>Y9 (O:=KV) dZ Q4 λH=>wi i<|LP H [0,1,2] (λ(p:aq×Bool×Int) (c:AC)=>[(7,.h c p.1.length),(8,.b p.2.1),(9,I p.2.2)]) [0] [] (λp c=>[ow c (p.1:aq)]) id [1,2] (λ(p:aq×Bool) (g:AC)=>[(7,.h g p.1.length),(8,.b p.2)]) [] (λp g=>[ow g (p.1:aq)]) Q Q (λF ⟨k,t,s⟩ c E=>bE [14] Q2 (eP 3 0 (λ(p:aq×Bool)=>o7 s p.1 p.2) [0,1,2,9] (λ(p:aq×Bool) (e:AC)=>[(7,.h e p.1.length),(8,.b p.2)]) [] (λp e=>[ow e (p.1:aq)]) Q (kP cKV Q u Q λz _ _=>bE [23] Q2 (pE (p:=(k,t)) c [0] Q2)<|eP 1 1 (λ(p:aq×Bool)=>tZ l s p.1 p.2) [0,1,2,9] (λ(p:aq×Bool) (b:AC)=>[(7,.h b p.1.length),(8,.b p.2)]) [] (λp b=>[ow b (p.1:aq)]) Q (dJ 0 1 (uA l key val k t s) [0,1,2,7,8,9] 34 [0] Q (dE [25,26] Q2 (kP cKV Q u Q λw _ _=>bL [0] Q2)<|bL [0] Q2) λx=>bE [34] Q2 (λa=>ZA oKV [] ((⟨key,val⟩:KV)) () dZ ZB λC=>ap 0 dZ Q Q Q Q Q Q Q (λh=>(h.o 1 Q)) Q Q a λa o=>wi a<|pE (p:=(k++([(⟨key,val⟩:KV)]),true)) o [0] Q2)<|pE (p:=(k,t)) c [0] Q2) λ⟨n,m⟩ b=>kP cKV Q u Q λd _ _=>λa=>ZA oKV [] (d) () dZ ZB λD=>ap 0 dZ Q Q Q Q Q Q Q (λh=>(h.o 2 Q)) Q Q a λa q=>wi a<|pE (p:=(n++([d]),m)) q [0] Q2) λ⟨B,A⟩ e=>nxW e [0] Q)<|bkW c [0] Q) λ⟨K,J⟩ g=>eP 0 0 J4 [] (λ(j:aq) (f:AC)=>[(7,.h f j.length)]) [] (λj f=>[ow f (j:aq)]) Q (bE [49] Q2 (λi=>ZA oKV [] ((⟨key,val⟩:KV)) () dZ ZB λL=>ap 0 dZ Q Q Q Q Q Q Q (λh=>(h.o 1 Q)) Q Q i λi G=>wi i<|pE G [0] Q2)<|pE g [0] Q2) λj f=>jB f [0] Q2
theorem a0T{l:aq}(a:aU U d l):V0 prog U 360 (ZL l) [.h d l.length] .b:=
 cD call360 func360 Q Q2<|BX 3 [0] [] Out.brk [] [] Q Q (λc e b=>bE [7] Q2 (dJ 0 0 (yP e) [0,3] 43 [] Q (iP aJ [] Q<|kP cKV Q a Q λk _ _=>c0 Q (λ_=>cB) λj=>dE [16,17] Q2 (bL [] Q2)<|kP cKV Q a Q λi _ _=>c0 Q (λ_=>cB) λh=>dE [24,25,26] Q2 (bL [] Q2)<|dE [28,29] Q2 (kP cKV Q a Q λg _ _=>kP cKV Q a Q λf _ _=>bL [] Q2)<|bL [] Q2) λm=>bE [43] Q2 (uX b c<|b8 Q2)<|sO [] Q)<|rU [] Q)<|b8 Q2
theorem aW9{l:aq}{key:Int}(d:aU U c l):V0 prog U 361 (UY l key) [.h c l.length,I key] (λr=>.t [I r.1,.b r.2]):=
 cD call361 func361 Q Q2<|BX 6 [0,1] [] Out.brk [] [] Q Q (λb g a=>bE [10] Q2 (kP cKV Q d Q λf _ _=>bE [19] Q2 (kP cKV Q d Q λe _ _=>uX a b<|b8 Q2)<|sO [] Q)<|rU [] Q)<|b8 Q2
theorem aXA{l:aq}{key:Int}(i:aU U g l):VS prog U 362 (UZ l key) [.h g l.length,I key] [] [] (λr (y:AC)=>.h y r.length) (λr y=>[ow y r]):=
 cD call362 func362 Q Q2<|λs=>Y9 (O:=KV) dZ Q4 λq=>wi s<|LP q [0,1] (λ(p:aq×Int) (b:AC)=>[(5,.h b p.1.length),(6,I p.2)]) [0] [] (λp b=>[ow b (p.1:aq)]) id [] (λ(f:aq) (d:AC)=>[(5,.h d f.length)]) [] (λf d=>[ow d (f:aq)]) Q Q (λk ⟨u,n⟩ b j=>bE [11] Q2 (eP 2 0 (AP n) [0,1,6] (λ(e:aq) (c:AC)=>[(5,.h c e.length)]) [] (λe c=>[ow c (e:aq)]) Q (kP cKV Q i Q λt _ _=>bE [20] Q2 (kP cKV Q i Q λm _ _=>λa=>ZA oKV [] (m) () dZ ZB λv=>ap 0 dZ Q Q Q Q Q Q Q (λh=>(h.o 3 Q)) Q Q a λa o=>wi a<|pE o [0] Q2)<|pE b [0] Q2) λe c=>nxW c [0] Q)<|bkW b [0] Q) λf d=>jB d [0] Q2
theorem aGV{a b:Int}:V0 prog U 363 (OK a b) [I a,I b] I:=
 cD call363 func363 Q Q2<|b8 Q2
theorem a0U{l:aq}{c:iK}(a:aU U e l):VS prog U 236 (ZM l c) [.h e l.length,.g [I c.Kind,I c.Key,I c.dP]] [] [] (λr (y:AC)=>.t [.h y r.1.length,.g [.b r.2.Is,I r.2.dP]]) (λr y=>[ow y r.1]):=
 cD call236 func236 Q Q2<|λb=>Y9 (O:=KV) dZ Q4 λu=>ap 2 dZ Q Q Q Q Q Q Q (λh=>(h.a a)) Q Q b λb d=>wi b<|dJ 0 2 (NM l c) [0,3,5,6] 19 [2,0,1] Q (c0 Q (λ_=>aJS) λk=>dE [14,15] Q2 (bL [2,0,1] Q2)<|c0 Q (λh=>a0T (h.a a)) λj=>bL [2,0,1] Q2) λt=>bE [19] Q2 (jB d [0] Q2)<|c0 Q (λh=>aW9 (h.a a)) λs=>bE [31,32] Q2 (c1 Q (λh=>WQ (h.a a)) λq i=>jB i [3] Q2)<|bE [40,41] Q2 (c1 Q (λh=>aXA (h.a a)) λp g=>jB g [3] Q2)<|bE [47,48] Q2 (iP aJ [1] Q<|c0 Q (λ_=>aGV) λo=>c1 Q (λh=>WQ (h.a a)) λn f=>c0 Q (λ_=>aGV) λm=>jB f [3] Q2)<|jB d [0] Q2
theorem aXB{l:aq}{cmds:bc}(w:aU U j l)(v:aU U i cmds):VS prog U 107 (U0 l cmds) [.h j l.length,.h i cmds.length] [] [] (λr (y:AC×AC)=>.t [.h y.1 r.1.length,.h y.2 r.2.length]) (λr y=>[ow y.1 r.1,ow y.2 r.2]):=
 cD call107 func107 Q Q2<|λg=>Y9 (O:=KV) dZ Q4 λE=>ap 0 dZ Q Q Q Q Q Q Q (λh=>(h.a w)) Q Q g λg t=>Y9 (O:=eX) lG Q4 λs=>wi g<|LP (t,s) [1] (λ(p:aq×bq×Int) (u:AC×AC)=>[(6,.h u.1 p.1.length),(7,.h u.2 p.2.1.length),(8,I p.2.2)]) [0,1] [] (λp u=>[ow u.1 (p.1:aq),ow u.2 (p.2.1:bq)]) id [] (λ(p:aq×bq) (u:AC×AC)=>[(6,.h u.1 p.1.length),(7,.h u.2 p.2.length)]) [] (λp u=>[ow u.1 (p.1:aq),ow u.2 (p.2:bq)]) Q Q (λn ⟨D,C,B⟩ ⟨q,o⟩ m=>bE [18] Q2 (kP aS3 Q v Q λx _ _=>c1 Q (λh=>a0U (h.o 0 Q)) λb d=>λa=>ZA bMC [] (b.2) () lG ZB λk=>ap 1 lG Q Q Q Q Q Q Q (λh=>(h.o 5 Q)) Q Q a λa c=>wi a<|nxW (d,c) [3,1] Q)<|bkW (q,o) [0,1] Q) λ⟨A,z⟩ ⟨f,e⟩=>jB (f,e) [0,1] Q2
theorem VL{e b:bq}{f:AC}(k:aU U g e)(j:aU U f b):V0 prog U 108 (m9 e b) [.h g e.length,.h f b.length] .b:=
 cD call108 func108 Q Q2<|bE [10] Q2 (b8 Q2)<|BX 5 [0,1] [] Out.brk [] [] Q Q (λd l a=>bE [14] Q2 (iP aJ [] Q<|kP bG5 Q k Q λi _ _=>kP bG5 Q j Q λh _ _=>λc=>neS eqGuardType219 stoodInHeld219 underlying219 (aM8 9997 i h) Q6<|wi c<|bE [25] Q2 (uX a d<|b8 Q2)<|sO [] Q)<|rU [] Q)<|b8 Q2
theorem a0V{m:aq}{a:Int}(b:aU U d l):VS prog U 44 (aHM m l a) [.h c m.length,.h d l.length,I a] [] [ow c (m:aq)] (λr (y:AC)=>.t [.h y r.1.length,.b r.2]) (λr y=>[ow y r.1]):=
 cD call44 func44 Q Q2<|c0 Q (λh=>BM (h.a b)) λf=>c0 Q (λh=>BM (h.a b)) λe=>dJ 0 0 (NN m l f e) [0,1,8,9] 23 [0] Q (dE [19,20] Q2 (bL [0] Q2)<|bL [0] Q2) λq=>bE [23] Q2 (jB c [0] Q2)<|kP aDH Q b Q λp t j=>c1 Q (λh=>aXB (h.o 0 Q) (h.a j.1)) λo g=>kP aDH Q b Q λn s i=>c0 Q (λh=>VL (h.o 3 Q) (h.a i.2)) λk=>jB g.1 [2] Q2
theorem aGW(j:aU U i l):VS prog U 10 (OL l) [.h i l.length] [] [] (λr (y:AC)=>.t [.h y r.1.length,.b r.2]) (λr y=>[ow y r.1]):=
 cD call10 func10 Q Q2<|λu=>Y9 (O:=KV) dZ Q4 λt=>wi u<|c1 Q (λh=>aKA (h.a j)) λB C=>LP t [0,6] (λ(p:aq×Bool×Int) (e:AC)=>[(4,.h e p.1.length),(5,.b p.2.1),(7,I p.2.2)]) [0,1] [1] (λp e=>[ow e (p.1:aq)]) id [] (λ(p:aq×Bool) (d:AC)=>[(4,.h d p.1.length),(5,.b p.2)]) [] (λp d=>[ow d (p.1:aq)]) Q Q (λq ⟨A,z,s⟩ e o=>bE [16] Q2 (eP 2 0 (λ(p:aq×Bool)=>J7 s p.1 p.2) [0,6,7] (λ(p:aq×Bool) (c:AC)=>[(4,.h c p.1.length),(5,.b p.2)]) [1] (λp c=>[ow c (p.1:aq)]) Q (rV oI 1 Q3 λk f _ v=>λa=>nE 0 v f Q5<|wi a<|N7 [0] Q4 (λh=>a0V (h.a j)) λb g=>dE [5,30,31] Q2 (λa=>sF Q<|kO oI 2 [] f () Q7<|mQ (p:=(b.1,b.2)) g [5,6] a Q)<|λa=>sF Q<|kO oI 2 [] f () Q7<|mQ (p:=(b.1,false)) g [5,6] a Q) λ⟨n,m⟩ c=>nxW c [0,1] Q)<|bkW e [0] Q) λ⟨x,w⟩ d=>jB d [0] Q2
theorem aGX{d b:Int}{a:AC}(c:aU U a l):V0 prog U 45 (U1 l d b) [.h a l.length,I d,I b] .b:=
 cD call45 func45 Q Q2<|c0 Q (λh=>BM (h.a c)) λg=>c0 Q (λh=>BM (h.a c)) λf=>dJ 0 0 AR [] 6 [] Q (dE [16,17] Q2 (dE [19,20,21] Q2 (bL [] Q2)<|bL [] Q2)<|bL [] Q2) λe=>b8 Q2
theorem WR{t:AC}(r:aU U t l):V0 prog U 11 (HO l) [.h t l.length] .b:=
 cD call11 func11 Q Q2<|c1 Q (λh=>aKA (h.a r)) λC D=>BX 4 [0,3] [0] Out.brk [] [] Q Q (λm B j=>bE [11] Q2 (BX 5 [0,3,4] [0] Out.brk [0,3,4] [0] Q Q (λk u i=>bE [16] Q2 (dJ 0 0 (SO u) [0,3,4,5] 28 [0] Q (iP aJ [] Q<|rV oI 0 Q3 λz g _ x=>λa=>nE 0 x g Q5<|cqS oI 1 [] g () Q9<|wi a<|rV oI 4 Q3 λy f _ w=>λa=>nE 1 w f Q5<|bd a λs e a=>fA Q2 (cqS oI 5 [] f () Q9<|have d:=rb g;ro oI 8 3 0 Q Q Q Q d λu1 q d _=>match u1,d with|_,rfl=>cqS oI 9 [] q () Q9<|have c:=rb f;ro oI 12 7 1 Q Q Q Q c λu2 o c _=>match u2,c with|_,rfl=>IG e Q (λh=>aGX (h.a r))<|sF Q<|kO oI 13 [] o () Q7<|mQ (p:=(s)) () [16] a Q) (cqS oI 5 [] f () Q9<|have b:=rb g;ro oI 8 3 0 Q Q Q Q b λv n b _=>match v,b with|_,rfl=>IG e Q (λh=>aGX (h.a r))<|sF Q<|kO oI 9 [] n () Q7<|mQ (p:=(s)) () [12] a Q)) λA=>bE [28] Q2 (uX i k<|uX j m<|b8 Q2)<|sO [0] Q)<|rU [0] Q)<|sO [0] Q)<|rU [] Q)<|b8 Q2
theorem YM{o m l h b a:AC}(I:aU U p t.aA.Mem.Heap.Bytes)(H:aU U o t.aA.Mem.Heap.Class)(G:aU U n t.aA.Mem.aC.Global)(F:aU U m t.aA.Mem.aC.Own)(E:aU U l t.aA.aD.cV)(D:aU U k t.aA.aQ)(C:aU U j t.aA.pJ)(B:aU U i t.aT)(w:aU U h t.aR)(g:aU U b t.eE)(v:aU U a t.Log):V0 prog U 13 (AS t) [.g (LK t p o n m l k j i h b a)] .b:=
 cD call13 func13 Q Q2<|BX 3 [1] [0] Out.brk [1] [0] Q Q (λf A d=>bE [9] Q2 (kP aBM Q w Q λx q s=>bE [17] Q2 (uX d f<|b8 Q2)<|sO [0] Q)<|rU [0] Q)<|BX 4 [1] [0] Out.brk [] [] Q Q (λe z c=>bE [22] Q2 (kP KP Q g Q λy r u=>bE [32] Q2 (uX c e<|b8 Q2)<|sO [0] Q)<|rU [] Q)<|b8 Q2
theorem aDZ{e b:aq}{f:AC}(k:aU U g e)(j:aU U f b):V0 prog U 14 (CI e b) [.h g e.length,.h f b.length] .b:=
 cD call14 func14 Q Q2<|bE [10] Q2 (b8 Q2)<|BX 5 [0,1] [] Out.brk [] [] Q Q (λd l a=>bE [14] Q2 (iP aJ [] Q<|kP cKV Q k Q λi _ _=>kP cKV Q j Q λh _ _=>λc=>neS eqGuardType107 stoodInHeld107 underlying107 (aNC 9997 i h) Q6<|wi c<|bE [25] Q2 (uX a d<|b8 Q2)<|sO [] Q)<|rU [] Q)<|b8 Q2
theorem aGY{l:bn}(n:aU U e l):VS prog U 64 (HP l) [.h e l.length] [] [] (λr (y:AC)=>.h y r.length) (λr y=>[ow y r]):=
 cD call64 func64 Q Q2<|λk=>Y9 (O:=eR) BD Q4 λj=>wi k<|LP j [0] (λ(p:bo×Int) (c:AC)=>[(3,.h c p.1.length),(4,I p.2)]) [0] [] (λp c=>[ow c (p.1:bo)]) id [] (λ(d:bo) (b:AC)=>[(3,.h b d.length)]) [] (λd b=>[ow b (d:bo)]) Q Q (λg ⟨s,q⟩ c f=>bE [9] Q2 (kP ZZ Q n Q λo t m=>λa=>ap 0 BD Q Q Q Q Q Q Q (λh=>(h.a m)) Q Q a λa i=>wi a<|nxW i [0] Q)<|bkW c [0] Q) λd b=>jB b [0] Q2
theorem aTO{b:an}(e:aU U d b):V0 prog U 471 (Q1 b) [.h d b.length] .b:=
 cD call471 func471 Q Q2<|BX 3 [0] [] Out.brk [0] [] Q Q (λc h a=>bE [7] Q2 (ixI Q e Q λg=>c0 Q (λ_=>cB) λf=>bE [15] Q2 (uX a c<|b8 Q2)<|sO [] Q)<|rU [] Q)<|b8 Q2
theorem aTP{h:Heap}(f:aU U d h.Bytes)(e:aU U c h.Class):V0 prog U 403 (RB h) [.g [.h d h.Bytes.length,.h c h.Class.length]] .b:=
 cD call403 func403 Q Q2<|dJ 0 1 (xM h) [1] 19 [0] Q (dE [7,8] Q2 (bL [0] Q2)<|dE [12,13,14] Q2 (bL [0] Q2)<|c0 Q (λh=>aTO (h.a f)) λg=>bL [0] Q2) λl=>bE [19] Q2 (b8 Q2)<|BX 3 [1] [0] Out.brk [] [] Q Q (λb k a=>bE [21] Q2 (ixI Q e Q λj=>c0 Q (λ_=>cB) λi=>bE [30] Q2 (uX a b<|b8 Q2)<|sO [0] Q)<|rU [] Q)<|b8 Q2
theorem E1{b:an}{at_ a:Int}(g:aU U d b):V0 prog U 367 (vI b at_ a) [.h d b.length,I at_,I a] I:=
 cD call367 func367 Q Q2<|LP () [0,1,2] (λ(p:Int×Int) (_:Unit)=>[(7,I p.1),(8,I p.2)]) [] [] (λp _=>[]) id [] (λ(c:Int) (_:Unit)=>[(7,I c)]) [] (λc _=>[]) Q Q (λf ⟨j,i⟩ _ e=>bE [11] Q2 (ixI Q g Q λh=>sO [] Q)<|rU [] Q) λc _=>b8 Q2
theorem WS{a:Int}:V0 prog U 407 (HQ a) [I a] I:=
 cD call407 func407 Q Q2<|c0 Q (λ_=>cB) λb=>bE [5] Q2 (b8 Q2)<|b8 Q2
theorem S9{a:Int}:V0 prog U 408 (CJ a) [I a] I:=
 cD call408 func408 Q Q2<|c0 Q (λ_=>cB) λb=>bE [5] Q2 (b8 Q2)<|b8 Q2
theorem aGZ{c:Int}:V0 prog U 365 (HR c) [I c] I:=
 cD call365 func365 Q Q2<|bE [4,5] Q2 (b8 Q2)<|bE [6,7] Q2 (b8 Q2)<|bE [8,9] Q2 (b8 Q2)<|b8 Q2
theorem aBR{c:Int}:V0 prog U 473 (EH c) [I c] I:=
 cD call473 func473 Q Q2<|c0 Q (λ_=>cB) λb=>bE [5] Q2 (b8 Q2)<|c0 Q (λ_=>aGZ) λa=>b8 Q2
theorem KY{c:Int}:V0 prog U 409 (nX c) [I c] I:=
 cD call409 func409 Q Q2<|c0 Q (λ_=>cB) λd=>bE [5] Q2 (b8 Q2)<|c0 Q (λ_=>aBR) λb=>λa=>bSY Q Q Q Q a λa=>wi a<|b8 Q2
theorem Z9{a c:Int}:V0 prog U 406 (AV a c) [I a,I c] I:=
 cD call406 func406 Q Q2<|dJ 0 0 (NO a c) [0,1] 16 [] Q (c0 Q (λ_=>WS) λf=>dE [7,8] Q2 (bL [] Q2)<|c0 Q (λ_=>S9) λe=>c0 Q (λ_=>KY) λd=>c0 Q (λ_=>cB) λb=>bL [] Q2) λj=>bE [16] Q2 (b8 Q2)<|c0 Q (λ_=>WS) λi=>c0 Q (λ_=>S9) λh=>c0 Q (λ_=>aBR) λg=>b8 Q2
theorem aXC{b a:Int}:V0 prog U 472 (vJ b a) [I b,I a] I:=
 cD call472 func472 Q Q2<|dJ 0 0 (AW b a) [0,1] 12 [] Q (c0 Q (λ_=>cB) λd=>dE [7,8] Q2 (bL [] Q2)<|c0 Q (λ_=>cB) λc=>bL [] Q2) λe=>bE [12] Q2 (b8 Q2)<|b8 Q2
theorem aXD{h:Heap}{p:Int}(a:aU U j h.Bytes)(w:aU U i h.Class):V0 prog U 404 (U3 h p) [.g [.h j h.Bytes.length,.h i h.Class.length],I p] .b:=
 cD call404 func404 Q Q2<|ixI Q w Q λv=>bE [18] Q2 (BX 7 [2,5] [0] Out.brk [] [] Q Q (λg B d=>bE [23] Q2 (ixI Q a Q λA=>bE [31] Q2 (uX d g<|b8 Q2)<|sO [0] Q)<|rU [] Q)<|b8 Q2)<|dJ 0 2 (mM h p v) [1,2,5,6] 58 [0] Q (iP aJ [0,1] Q<|ixI Q a Q λn=>dE [37,38] Q2 (bL [0] Q2)<|ixI Q a Q λm=>dE [46,47,48] Q2 (bL [0] Q2)<|ixI Q a Q λl=>c0 Q (λ_=>KY) λk=>bL [0] Q2) λz=>bE [58] Q2 (b8 Q2)<|BX 8 [1,2,5,6] [0] Out.brk [1,2,6] [0] Q Q (λf y c=>bE [64] Q2 (ixI Q a Q λo=>bE [72] Q2 (uX c f<|b8 Q2)<|sO [0] Q)<|rU [0] Q)<|BX 9 [1,2,6] [0] Out.brk [] [] Q Q (λe x b=>c0 Q (λ_=>KY) λu=>bE [76] Q2 (iP aJ [0] Q<|c0 Q (λ_=>aXC) λt=>c0 Q (λ_=>Z9) λs=>c0 Q (λh=>E1 (h.a a)) λr=>c0 Q (λ_=>cB) λq=>bE [88] Q2 (uX b e<|b8 Q2)<|sO [0] Q)<|rU [] Q)<|b8 Q2
theorem aXE{h:Heap}(f:aU U d h.Bytes)(e:aU U c h.Class):V0 prog U 284 (U4 h) [.g [.h d h.Bytes.length,.h c h.Class.length]] .b:=
 cD call284 func284 Q Q2<|c0 Q (λh=>aTP (h.a f) (h.a e)) λj=>bE [6] Q2 (b8 Q2)<|BX 3 [1] [0] Out.brk [] [] Q Q (λb i a=>bE [8] Q2 (c0 Q (λh=>aXD (h.a f) (h.a e)) λg=>bE [14] Q2 (uX a b<|b8 Q2)<|sO [0] Q)<|rU [] Q)<|b8 Q2
theorem aKB{l:aC}{m:AC}(E:aU U n l.Global)(D:aU U m l.Own):VS prog U 405 (SP l) [.g [.h n l.Global.length,.h m l.Own.length]] [] [] (λr (y:AC)=>.h y r.length) (λr y=>[ow y r]):=
 cD call405 func405 Q Q2<|λA=>Y9 (O:=Int) bD Q4 λz=>wi A<|LP z [1] (λ(p:an×Int) (g:AC)=>[(3,.h g p.1.length),(4,I p.2)]) [1,0] [0] (λp g=>[ow g (p.1:an)]) id [1] (λ(i:an) (f:AC)=>[(3,.h f i.length)]) [0] (λi f=>[ow f (i:an)]) Q Q (λx ⟨J,H⟩ g v=>bE [11] Q2 (kP KQ Q E Q λo s B=>λc=>ap 0 bD Q Q Q Q Q Q Q (λh=>(h.a B)) Q Q c λc j=>wi c<|nxW j [0,1] Q)<|bkW g [0,1] Q) λi f=>LP f [1] (λ(p:an×Int) (e:AC)=>[(3,.h e p.1.length),(5,I p.2)]) [0,1] [1] (λp e=>[ow e (p.1:an)]) id [] (λ(a:an) (d:AC)=>[(3,.h d a.length)]) [] (λa d=>[ow d (a:an)]) Q Q (λw ⟨G,F⟩ e u=>bE [26] Q2 (kP KQ Q D Q λq t C=>λb=>ap 0 bD Q Q Q Q Q Q Q (λh=>(h.a C)) Q Q b λb k=>wi b<|nxW k [0,1] Q)<|bkW e [0] Q) λa d=>jB d [0] Q2
theorem aTQ{l:aC}{m:AC}(u:aU U m l.Global)(o:aU U k l.Own):V0 prog U 285 (RC l) [.g [.h m l.Global.length,.h k l.Own.length]] .b:=
 cD call285 func285 Q Q2<|dJ 0 1 (FY l) [1] 15 [0] Q (dE [9,10] Q2 (bL [0] Q2)<|bL [0] Q2) λA=>bE [15] Q2 (b8 Q2)<|BX 3 [1] [0] Out.brk [1] [0] Q Q (λi z e=>bE [20] Q2 (kP KQ Q o Q λp B D=>bE [30] Q2 (uX e i<|b8 Q2)<|sO [0] Q)<|rU [0] Q)<|c1 Q (λh=>aKB (h.a u) (h.a o)) λy C=>BX 5 [4] [1] Out.brk [] [] Q Q (λg r d=>bE [36] Q2 (dJ 0 1 (FX r) [4,5] 54 [0] Q (iP aJ [] Q<|rV oI 0 Q3 λw c _ t=>λa=>nE 1 t c Q5<|wi a<|c0 Q (λ_=>cB) λv=>dE [44,45] Q2 (λa=>sF Q<|kO oI 1 [] c () Q7<|mQ () [4] a Q)<|λa=>cqS oI 1 [] c () Q9<|cpc 4 Q Q λf=>aV8 f Q Q Q Q Q Q a λa j=>have b:=rb c;wi b<|rV oI 4 Q3 λu1 n _ s=>λb=>nE 2 s n Q5<|match u1,b with|_,rfl=>cqS oI 5 [] n () Q9<|wi a<|c0 Q (λh=>C4 ((h.o 8 Q).sub (XR j.1 j.2) j)) λq=>bL [8] Q2) λx=>bE [54] Q2 (uX d g<|b8 Q2)<|sO [0] Q)<|rU [] Q)<|b8 Q2
theorem BN{h:Heap}{a:Int}(m:aU U d h.Bytes)(b:aU U c h.Class):V0 prog U 291 (nY h a) [.g [.h d h.Bytes.length,.h c h.Class.length],I a] I:=
 cD call291 func291 Q Q2<|c0 Q (λ_=>WS) λe=>dJ 0 1 (xN h e) [2,5] 28 [0] Q (iP aJ [0] Q<|dE [9,10] Q2 (bL [0] Q2)<|ixI Q b Q λj=>dE [16,17,18] Q2 (bL [0] Q2)<|ixI Q b Q λi=>c0 Q (λ_=>S9) λg=>c0 Q (λ_=>KY) λf=>bL [0] Q2) λl=>bE [28] Q2 (b8 Q2)<|ixI Q b Q λk=>b8 Q2
theorem aAA{h:Heap}{a:Int}{b:AC}(d:aU U c h.Bytes)(e:aU U b h.Class):V0 prog U 289 (AY h a) [.g [.h c h.Bytes.length,.h b h.Class.length],I a] I:=
 cD call289 func289 Q Q2<|iP aJ [0] Q<|c0 Q (λh=>BN (h.a d) (h.a e)) λi=>c0 Q (λ_=>Z9) λg=>c0 Q (λh=>E1 (h.a d)) λf=>b8 Q2
theorem aBS{h:Heap}{l:an}{c:Int}{f:AC}(j:aU U f h.Bytes)(i:aU U e h.Class)(g:aU U d l):V0 prog U 286 (EK h l c) [.g [.h f h.Bytes.length,.h e h.Class.length],.h d l.length,I c] .b:=
 cD call286 func286 Q Q2<|BX 7 [1,2,3] [0] Out.brk [] [] Q Q (λb k a=>bE [11] Q2 (dJ 0 1 (CL k) [1,2,3,7] 30 [0] Q (iP aJ [0] Q<|ixI Q g Q λp=>c0 Q (λh=>BN (h.a j) (h.a i)) λo=>dE [21,22] Q2 (bL [0] Q2)<|ixI Q g Q λn=>c0 Q (λh=>aAA (h.a j) (h.a i)) λm=>bL [0] Q2) λq=>bE [30] Q2 (uX a b<|b8 Q2)<|sO [0] Q)<|rU [] Q)<|b8 Q2
theorem a0W{a c:Int}:V0 prog U 287 (AZ a c) [I a,I c] I:=
 cD call287 func287 Q Q2<|dJ 0 0 (EL a c) [0,1] 12 [] Q (c0 Q (λ_=>cB) λd=>dE [7,8] Q2 (bL [] Q2)<|c0 Q (λ_=>cB) λb=>bL [] Q2) λe=>bE [12] Q2 (b8 Q2)<|b8 Q2
theorem a0X{r o:AC}(n:aU U r m.Heap.Bytes)(l:aU U q m.Heap.Class)(t:aU U p m.aC.Global)(s:aU U o m.aC.Own):V0 prog U 147 (ZN m) [.g (gM m r q p o)] .b:=
 cD call147 func147 Q Q2<|dJ 0 1 (NP m) [1] 14 [0] Q (c0 Q (λh=>aXE (h.a n) (h.a l)) λv=>bV3 [8,9] Q Q (λd=>bL [0] Q2) λd=>c0 Q (λh=>aTQ (h.a t) (h.a s)) λu=>bL [0] Q2) λF=>bBW [14] Q Q (λj=>b8 Q2) λj=>BX 3 [1] [0] Out.brk [] [] Q Q (λb E a=>bBW [16] Q Q (λi=>iP aJ [0] Q<|kP KQ Q t Q λD H y=>c0 Q (λh=>aBS (h.a n) (h.a l) (h.a y)) λC=>bBW [30] Q Q (λg=>uX a b<|b8 Q2) λg=>BX 4 [1,3] [0] Out.brk [1,3] [0] Q Q (λk B c=>bBW [32] Q Q (λf=>iP aJ [0] Q<|c0 Q (λ_=>a0W) λA=>kP KQ Q s Q λz G x=>c0 Q (λh=>aBS (h.a n) (h.a l) (h.a x)) λw=>bBW [48] Q Q (λe=>uX c k<|uX a b<|b8 Q2) λe=>sO [0] Q) λf=>rU [0] Q)<|sO [0] Q) λi=>rU [] Q)<|b8 Q2
theorem aTR{c:aD}(i:aU U e c.cV):V0 prog U 148 (rJ c) [.g [I c.aL,.h e c.cV.length]] .b:=
 cD call148 func148 Q Q2<|dJ 0 1 (qH c) [1] 14 [0] Q (c0 Q (λ_=>cB) λf=>dE [8,9] Q2 (bL [0] Q2)<|bL [0] Q2) λo=>bE [14] Q2 (b8 Q2)<|BX 3 [1] [0] Out.brk [] [] Q Q (λd h a=>bE [16] Q2 (kP bB5 Q i Q λg _ _=>dJ 0 3 (nA h) [1,3] 45 [0] Q (dE [26,27] Q2 (λb=>neS eqGuardType227 stoodInHeld227 underlying227 (aM7 9997 g zL3) Q6<|wi b<|dE [30,31,32] Q2 (bL [0] Q2)<|c0 Q (λ_=>cB) λm=>dE [38,39,40] Q2 (bL [0] Q2)<|c0 Q (λ_=>cB) λl=>bL [0] Q2)<|c0 Q (λ_=>cB) λk=>dE [38,39,40] Q2 (bL [0] Q2)<|c0 Q (λ_=>cB) λj=>bL [0] Q2) λn=>bE [45] Q2 (uX a d<|b8 Q2)<|sO [0] Q)<|rU [] Q)<|b8 Q2
theorem nC:V0 prog U 264 (jU h) [I h] .b:=
 cD call264 func264 Q Q2<|dJ 0 0 CM [] 2 [] Q (c0 Q (λ_=>cB) λa=>dE [4,5] Q2 (bL [] Q2)<|bL [] Q2) λb=>b8 Q2
theorem mZ:V0 prog U 288 (gP h) [I h] I:=
 cD call288 func288 Q Q2<|c0 Q (λ_=>nC) λa=>bE [5] Q2 (b8 Q2)<|b8 Q2
theorem aTS{l:bn}(v:aU U i l):V0 prog U 149 (RD l) [.h i l.length] .b:=
 cD call149 func149 Q Q2<|c1 Q (λh=>aGY (h.a v)) λg t=>dJ 0 0 (FZ g) [3] 16 [0] Q (dE [11,12] Q2 (bL [0] Q2)<|bL [0] Q2) λx=>bE [16] Q2 (b8 Q2)<|λu=>Y9 (O:=Int) bD Q4 λs=>wi u<|LP s [3] (λ(p:an×Int) (c:AC)=>[(4,.h c p.1.length),(5,I p.2)]) [1,0] [0] (λp c=>[ow c (p.1:an)]) Out.brk [] (λ(_:Unit) (_:Unit)=>[]) [] (λ_ _=>[]) Q Q (λe ⟨q,o⟩ c d=>bE [21] Q2 (rV S1 1 Q3 λw b _ j=>λa=>nE 0 j b Q5<|wi a<|c0 Q (λ_=>mZ) λn=>eP 0 1 (xP q o n) [3,4,5,6] (λ(f:Bool) (_:Unit)=>[(45,.b f)]) [0] (λf _=>[ow t (g:bo)]) Q (dE [31,32] Q2 (λa=>sF Q<|kO S1 2 [] b () Q7<|mQ () [5,0] a Q)<|λa=>nE 0 j b Q5<|wi a<|c0 Q (λ_=>cB) λm=>dE [39,40,41] Q2 (λa=>sF Q<|kO S1 2 [] b () Q7<|mQ () [5,0] a Q)<|c0 Q (λh=>C4 (h.o 0 Q)) λk=>λa=>sF Q<|kO S1 2 [] b () Q7<|mQ () [5,0] a Q) λf _=>bE [45] Q2 (uX d e<|b8 Q2)<|λa=>lt1 Q bD Q Q Q Q λy=>ap 1 bD Q Q Q Q Q Q Q (λh=>(h.o 2 Q)) Q Q a λa r=>wi a<|nxW r [1,0] Q)<|rU [] Q) λ() _=>b8 Q2
theorem a0Y{z:an}(d:aU U c z):V0 prog U 150 (ZO z) [.h c z.length] .b:=
 cD call150 func150 Q Q2<|BX 3 [0] [] Out.brk [0] [] Q Q (λb e a=>bE [7] Q2 (dJ 0 0 (NQ e) [0,3] 22 [] Q (ixI Q d Q λh=>dE [14,15] Q2 (ixI Q d Q λg=>c0 Q (λ_=>nC) λf=>bL [] Q2)<|bL [] Q2) λi=>bE [22] Q2 (uX a b<|b8 Q2)<|sO [] Q)<|rU [] Q)<|b8 Q2
theorem aXF{l:aC}{a:Int}{b:AC}(e:aU U c l.Global)(d:aU U b l.Own):V0 prog U 292 (U5 l a) [.g [.h c l.Global.length,.h b l.Own.length],I a] .b:=
 cD call292 func292 Q Q2<|c1 Q (λh=>aKB (h.a e) (h.a d)) λg i=>c0 Q (λh=>C4 (h.o 1 Q)) λf=>b8 Q2
theorem aTT{a:Int}{b:AC}(g:aU U e m.Heap.Bytes)(f:aU U d m.Heap.Class)(j:aU U c m.aC.Global)(i:aU U b m.aC.Own):V0 prog U 152 (RE m a) [.g (gM m e d c b),I a] I:=
 cD call152 func152 Q Q2<|c0 Q (λh=>BN (h.a g) (h.a f)) λn=>bE [5,10] Q2 (b8 Q2)<|c0 Q (λh=>aXF (h.a j) (h.a i)) λl=>bE [11,15] Q2 (b8 Q2)<|c0 Q (λh=>aAA (h.a g) (h.a f)) λk=>bE [16,21] Q2 (b8 Q2)<|b8 Q2
theorem aMD:V0 prog U 290 (KB h) [I h] I:=
 cD call290 func290 Q Q2<|c0 Q (λ_=>nC) λa=>bE [5] Q2 (b8 Q2)<|b8 Q2
theorem aD0{b a:AC}(f:aU U d m.Heap.Bytes)(e:aU U c m.Heap.Class)(i:aU U b m.aC.Global)(g:aU U a m.aC.Own):V0 prog U 151 (CN m h) [.g (gM m d c b a),I h] .b:=
 cD call151 func151 Q Q2<|dJ 0 1 xR [] 4 [] Q (iP aJ [0] Q<|c0 Q (λ_=>nC) λp=>dE [6,7] Q2 (c0 Q (λ_=>mZ) λo=>c0 Q (λh=>aTT (h.a f) (h.a e) (h.a i) (h.a g)) λn=>dE [12,13,14] Q2 (c0 Q (λ_=>mZ) λl=>c0 Q (λh=>aAA (h.a f) (h.a e)) λk=>c0 Q (λ_=>aMD) λj=>bL [] Q2)<|bL [] Q2)<|bL [] Q2) λq=>b8 Q2
theorem aXG{b:aA}{m l f:AC}(s:aU U m b.Mem.Heap.Bytes)(r:aU U l b.Mem.Heap.Class)(q:aU U k b.Mem.aC.Global)(p:aU U j b.Mem.aC.Own)(x:aU U i b.aD.cV)(o:aU U g b.aQ)(w:aU U f b.pJ):V0 prog U 65 (U6 b) [.g (gB b m l k j i g f)] .b:=
 cD call65 func65 Q Q2<|dJ 0 1 (uE b) [1] 26 [0] Q (c0 Q (λh=>a0X (h.a s) (h.a r) (h.a q) (h.a p)) λz=>dE [8,9] Q2 (bL [0] Q2)<|c0 Q (λh=>aTR (h.a x)) λy=>dE [13,14,15] Q2 (bL [0] Q2)<|c0 Q (λh=>aTS (h.a o)) λu=>dE [19,20,21] Q2 (bL [0] Q2)<|c0 Q (λh=>a0Y (h.a w)) λt=>bL [0] Q2) λE=>bE [26] Q2 (b8 Q2)<|c1 Q (λh=>aGY (h.a o)) λD F=>BX 4 [1,3] [1,0] Out.brk [] [] Q Q (λe v d=>bE [33] Q2 (dJ 0 1 (KC v) [1,3,4] 55 [0,1] Q (iP aJ [1] Q<|rV S1 0 Q3 λB c _ n=>λa=>nE 1 n c Q5<|wi a<|c0 Q (λh=>aD0 (h.a s) (h.a r) (h.a q) (h.a p)) λA=>dE [44,45] Q2 (λa=>sF Q<|kO S1 2 [] c () Q7<|mQ () [5,1] a Q)<|λa=>nE 1 n c Q5<|sF Q<|kO S1 2 [] c () Q7<|mQ () [5,1] a Q) λC=>bE [55] Q2 (uX d e<|b8 Q2)<|sO [0,1] Q)<|rU [] Q)<|b8 Q2
theorem KZ:V0 prog U 237 (wG h) [I h] .b:=
 cD call237 func237 Q Q2<|dJ 0 0 F5 [] 2 [] Q (dE [4,5] Q2 (bL [] Q2)<|c0 Q (λ_=>nC) λa=>bL [] Q2) λb=>b8 Q2
theorem a0Z{b:bZ}:V0 prog U 109 (ZP b) [.g [I b.Head,I b.eW,I b.eU]] .b:=
 cD call109 func109 Q Q2<|dJ 0 1 EP [] 2 [] Q (c0 Q (λ_=>KZ) λd=>dE [5,6] Q2 (c0 Q (λ_=>cB) λc=>dE [9,10,11] Q2 (c0 Q (λ_=>cB) λa=>bL [] Q2)<|bL [] Q2)<|bL [] Q2) λe=>b8 Q2
theorem VM{l:an}(d:aU U c l):V0 prog U 238 (xS l) [.h c l.length] .b:=
 cD call238 func238 Q Q2<|BX 3 [0] [] Out.brk [0] [] Q Q (λb g a=>bE [7] Q2 (ixI Q d Q λf=>c0 Q (λ_=>nC) λe=>bE [15] Q2 (uX a b<|b8 Q2)<|sO [] Q)<|rU [] Q)<|b8 Q2
theorem aPD{j:aK}{r o m l:AC}(T:aU U r j.Batch.bR)(S:aU U q j.Reads)(b:aU U p j.aH)(h4:aU U o j.eX)(R:aU U n j.gN)(k:aU U m j.bH)(P:aU U l j.cK):V0 prog U 110 (NR j) [.g (gTj j r q p o n m l)] .b:=
 cD call110 func110 Q Q2<|dJ 0 1 (fV j) [1] 61 [0] Q (c0 Q (λh=>aDL (h.a T)) λz=>dE [9,10] Q2 (bL [0] Q2)<|c0 Q (λ_=>KZ) λy=>dE [14,15,16] Q2 (bL [0] Q2)<|c0 Q (λ_=>KZ) λx=>dE [20,21,22] Q2 (bL [0] Q2)<|c0 Q (λ_=>cB) λw=>dE [26,27,28] Q2 (bL [0] Q2)<|c0 Q (λ_=>cB) λv=>dE [36,37,38] Q2 (bL [0] Q2)<|c0 Q (λ_=>cB) λu=>dE [42,43,44] Q2 (bL [0] Q2)<|c0 Q (λh=>VM (h.a R)) λt=>dE [48,49,50] Q2 (bL [0] Q2)<|c0 Q (λh=>VM (h.a P)) λs=>dE [54,55,56] Q2 (bL [0] Q2)<|bL [0] Q2) λY=>bE [61] Q2 (b8 Q2)<|BX 3 [1] [0] Out.brk [1] [0] Q Q (λi N e=>bE [66] Q2 (dJ 0 1 (CP N) [1,3] 87 [0] Q (iP aJ [0] Q<|ixI Q k Q λD=>c0 Q (λ_=>cB) λC=>dE [75,76] Q2 (bL [0] Q2)<|λa=>a9C Q Q Q Q Q k Q Q a λa Z O=>wi a<|ixI Q k Q λB=>c0 Q (λh=>C4 (h.a O)) λA=>bL [0] Q2) λE=>bE [87] Q2 (uX e i<|b8 Q2)<|sO [0] Q)<|rU [0] Q)<|BX 4 [1] [0] Out.brk [1] [0] Q Q (λg X d=>bE [92] Q2 (kP aGL Q S Q λG _ _=>c0 Q (λ_=>cB) λF=>bE [102] Q2 (uX d g<|b8 Q2)<|sO [0] Q)<|rU [0] Q)<|BX 5 [1] [0] Out.brk [] [] Q Q (λf M c=>bE [107] Q2 (dJ 0 1 (oQ M) [1,5] 147 [0] Q (iP aJ [0] Q<|kP BF Q b Q λV _ _=>c0 Q (λ_=>cB) λL=>dE [117,118] Q2 (bL [0] Q2)<|kP BF Q b Q λK _ _=>c0 Q (λ_=>cB) λJ=>dE [126,127,128] Q2 (bL [0] Q2)<|dE [130,131] Q2 (kP BF Q b Q λI _ _=>kP BF Q b Q λH _ _=>bL [0] Q2)<|bL [0] Q2) λW=>bE [147] Q2 (uX c f<|b8 Q2)<|sO [0] Q)<|rU [] Q)<|b8 Q2
theorem aH5{e b:bc}{f:AC}(k:aU U g e)(j:aU U f b):V0 prog U 364 (uI e b) [.h g e.length,.h f b.length] .b:=
 cD call364 func364 Q Q2<|bE [10] Q2 (b8 Q2)<|BX 5 [0,1] [] Out.brk [] [] Q Q (λd l a=>bE [14] Q2 (iP aJ [] Q<|kP aS3 Q k Q λi _ _=>kP aS3 Q j Q λh _ _=>λc=>neS eqGuardType132 stoodInHeld132 underlying132 (aM9 9997 i h) Q6<|wi c<|bE [25] Q2 (uX a d<|b8 Q2)<|sO [] Q)<|rU [] Q)<|b8 Q2
theorem aFX{a b:Batch}(f:aU U d a.bR)(e:aU U c b.bR):V0 prog U 239 (zI a b) [.g [.b a.Collect,.h d a.bR.length],.g [.b b.Collect,.h c b.bR.length]] .b:=
 cD call239 func239 Q Q2<|dJ 0 2 A3 [] 4 [] Q (dE [9,10] Q2 (c0 Q (λh=>aH5 (h.a f) (h.a e)) λg=>bL [] Q2)<|bL [] Q2) λi=>b8 Q2
theorem aH6{a b:aK}{v t r:AC}{o f:AC}(R:aU U w a.Batch.bR)(H:aU U v a.Reads)(G:aU U u a.aH)(P:aU U t a.eX)(O:aU U s a.gN)(N:aU U r a.bH)(M:aU U q a.cK)(L:aU U p b.Batch.bR)(F:aU U o b.Reads)(n:aU U g b.aH)(A:aU U f b.eX)(z:aU U e b.gN)(y:aU U d b.bH)(x:aU U c b.cK):V0 prog U 240 (CQ a b) [.g (gTj a w v u t s r q),.g (gTj b p o g f e d c)] .b:=
 cD call240 func240 Q Q2<|dJ 0 2 (sY a b) [2,3] 22 [0,1] Q (dE [13,14] Q2 (bL [0,1] Q2)<|bL [0,1] Q2) λK=>bE [22] Q2 (b8 Q2)<|BX 5 [2,3] [0,1] Out.brk [2,3] [0,1] Q Q (λm J i=>bE [27] Q2 (iP aJ [0,1] Q<|kP aGL Q H Q λC _ _=>kP aGL Q F Q λB _ _=>λk=>neS eqGuardType237 stoodInHeld237 underlying237 (aNA 9997 C B) Q6<|wi k<|bE [40] Q2 (uX i m<|b8 Q2)<|sO [0,1] Q)<|rU [0,1] Q)<|BX 6 [2,3] [0,1] Out.brk [] [] Q Q (λl I h=>bE [45] Q2 (iP aJ [0,1] Q<|kP BF Q G Q λE _ _=>kP BF Q n Q λD _ _=>λj=>neS eqGuardType217 stoodInHeld217 underlying217 (aNB 9997 E D) Q6<|wi j<|bE [58] Q2 (uX h l<|b8 Q2)<|sO [0,1] Q)<|rU [] Q)<|b8 Q2
theorem MN{d b:an}{f:AC}(h:aU U f d)(g:aU U e b):V0 prog U 241 (uJ d b) [.h f d.length,.h e b.length] .b:=
 cD call241 func241 Q Q2<|bE [10] Q2 (b8 Q2)<|BX 5 [0,1] [] Out.brk [] [] Q Q (λc k a=>bE [14] Q2 (iP aJ [] Q<|ixI Q h Q λj=>ixI Q g Q λi=>bE [25] Q2 (uX a c<|b8 Q2)<|sO [] Q)<|rU [] Q)<|b8 Q2
theorem VN{a b:aK}{v t r:AC}{o f:AC}(C:aU U w a.Batch.bR)(F:aU U v a.Reads)(E:aU U u a.aH)(B:aU U t a.eX)(A:aU U s a.gN)(z:aU U r a.bH)(y:aU U q a.cK)(x:aU U p b.Batch.bR)(D:aU U o b.Reads)(m:aU U g b.aH)(l:aU U f b.eX)(k:aU U e b.gN)(j:aU U d b.bH)(i:aU U c b.cK):V0 prog U 111 (qI a b) [.g (gTj a w v u t s r q),.g (gTj b p o g f e d c)] .b:=
 cD call111 func111 Q Q2<|dJ 0 2 cA [] 4 [] Q (dE [9,10] Q2 (c0 Q (λh=>aFX (h.a C) (h.a x)) λL=>dE [15,16,17] Q2 (dE [22,23,24] Q2 (dE [29,30,31] Q2 (dE [36,37,38] Q2 (dE [43,44,45] Q2 (dE [50,51,52] Q2 (dE [57,58,59] Q2 (dE [64,65,66] Q2 (dE [71,72,73] Q2 (λn=>eqS eqGuardType95 stoodInHeld95 underlying95 (aSZ 9997 a.Node b.Node) Q Q Q Q Q Q<|wi n<|dE [78,79,80] Q2 (dE [85,86,87] Q2 (dE [92,93,94] Q2 (λn=>eqS eqGuardType97 stoodInHeld97 underlying97 (aS0 9997 a.Sub b.Sub) Q Q Q Q Q Q<|wi n<|dE [99,100,101] Q2 (c0 Q (λh=>aH6 (h.a C) (h.a F) (h.a E) (h.a B) (h.a A) (h.a z) (h.a y) (h.a x) (h.a D) (h.a m) (h.a l) (h.a k) (h.a j) (h.a i)) λK=>dE [104,105,106] Q2 (c0 Q (λh=>VL (h.a B) (h.a l)) λJ=>dE [111,112,113] Q2 (c0 Q (λh=>MN (h.a A) (h.a k)) λI=>dE [118,119,120] Q2 (c0 Q (λh=>MN (h.a z) (h.a j)) λH=>dE [125,126,127] Q2 (c0 Q (λh=>MN (h.a y) (h.a i)) λG=>bL [] Q2)<|bL [] Q2)<|bL [] Q2)<|bL [] Q2)<|bL [] Q2)<|bL [] Q2)<|bL [] Q2)<|bL [] Q2)<|bL [] Q2)<|bL [] Q2)<|bL [] Q2)<|bL [] Q2)<|bL [] Q2)<|bL [] Q2)<|bL [] Q2)<|bL [] Q2)<|bL [] Q2)<|bL [] Q2)<|bL [] Q2) λM=>b8 Q2
theorem aD1{v r o f:AC}(h1:aU U w t.aA.Mem.Heap.Bytes)(h2:aU U v t.aA.Mem.Heap.Class)(h3:aU U u t.aA.Mem.aC.Global)(Z:aU U s t.aA.Mem.aC.Own)(Y:aU U r t.aA.aD.cV)(X:aU U q t.aA.aQ)(W:aU U p t.aA.pJ)(V:aU U o t.aT)(e:aU U n t.aR)(m:aU U g t.eE)(S:aU U f t.Log):V0 prog U 46 (KD t) [.g (LK t w v u s r q p o n g f)] .b:=
 cD call46 func46 Q Q2<|dJ 0 1 (lE t) [1] 32 [0] Q (c0 Q (λh=>aXG (h.a h1) (h.a h2) (h.a h3) (h.a Z) (h.a Y) (h.a X) (h.a W)) λz=>dE [8,9] Q2 (bL [0] Q2)<|dE [13,14,15] Q2 (bL [0] Q2)<|dE [19,20,21] Q2 (bL [0] Q2)<|c0 Q (λh=>aDM (h.a m)) λy=>dE [25,26,27] Q2 (bL [0] Q2)<|c0 Q (λ_=>cB) λx=>bL [0] Q2) λx1=>bE [32] Q2 (b8 Q2)<|BX 3 [1] [0] Out.brk [1] [0] Q Q (λl x3 j=>bE [34] Q2 (kP a6W Q V Q λB _ _=>c0 Q (λ_=>a0Z) λA=>bE [43] Q2 (uX j l<|b8 Q2)<|sO [0] Q)<|rU [0] Q)<|BX 4 [1] [0] Out.brk [] [] Q Q (λk T i=>bE [45] Q2 (dJ 0 1 (nB T) [1,4] 81 [0] Q (kP aBM Q e Q λx7 N R=>dE [53,54] Q2 (kP aBM Q e Q λx8 M d=>c0 Q (λh=>aPD (h.a d.1) (h.a d.2.1) (h.a d.2.2.1) (h.a d.2.2.2.1) (h.a d.2.2.2.2.1) (h.a d.2.2.2.2.2.1) (h.a d.2.2.2.2.2.2)) λx9=>dE [61,62,63] Q2 (bL [0] Q2)<|kP aBM Q e Q λH L P=>dE [70,71] Q2 (kP aBM Q e Q λG K c=>c0 Q (λh=>VN (b:=zL0) (h.a c.1) (h.a c.2.1) (h.a c.2.2.1) (h.a c.2.2.2.1) (h.a c.2.2.2.2.1) (h.a c.2.2.2.2.2.1) (h.a c.2.2.2.2.2.2) l6 l6 l6 l6 l6 l6 l6) λF=>bL [0] Q2)<|bL [0] Q2)<|kP aBM Q e Q λE J O=>dE [70,71] Q2 (kP aBM Q e Q λD I a=>c0 Q (λh=>VN (b:=zL0) (h.a a.1) (h.a a.2.1) (h.a a.2.2.1) (h.a a.2.2.2.1) (h.a a.2.2.2.2.1) (h.a a.2.2.2.2.2.1) (h.a a.2.2.2.2.2.2) l6 l6 l6 l6 l6 l6 l6) λC=>bL [0] Q2)<|bL [0] Q2) λx6=>bE [81] Q2 (uX i k<|b8 Q2)<|sO [0] Q)<|rU [] Q)<|b8 Q2
theorem aTU{a c:Int}:V0 prog U 366 (RF a c) [I a,I c] I:=
 cD call366 func366 Q Q2<|c0 Q (λ_=>Z9) λb=>bE [10] Q2 (b8 Q2)<|b8 Q2
theorem aD2{b a:AC}(f:aU U d m.Heap.Bytes)(e:aU U c m.Heap.Class)(t:aU U b m.aC.Global)(s:aU U a m.aC.Own):V0 prog U 242 (KE m h) [.g (gM m d c b a),I h] (λr=>.t [I r.1,I r.2]):=
 cD call242 func242 Q Q2<|dJ 0 1 (F6 m h) [1,2] 17 [0] Q (iP aJ [0] Q<|c0 Q (λ_=>nC) λj=>dE [9,10] Q2 (bL [0] Q2)<|c0 Q (λ_=>mZ) λi=>c0 Q (λh=>BN (h.a f) (h.a e)) λg=>bL [0] Q2) λq=>bE [17] Q2 (b8 Q2)<|iP aJ [0] Q<|c0 Q (λ_=>mZ) λp=>c0 Q (λh=>BN (h.a f) (h.a e)) λo=>c0 Q (λ_=>aGZ) λn=>bE [25] Q2 (b8 Q2)<|c0 Q (λ_=>mZ) λl=>c0 Q (λ_=>aTU) λk=>b8 Q2
theorem aXH{n:gL}:V0 prog U 243 (U8 n) [.g [I n.Key,I n.dP,I n.Next]] .b:=
 cD call243 func243 Q Q2<|dJ 0 1 A4 [] 2 [] Q (c0 Q (λ_=>cB) λc=>dE [5,6] Q2 (c0 Q (λ_=>cB) λb=>dE [9,10,11] Q2 (c0 Q (λ_=>KZ) λa=>bL [] Q2)<|bL [] Q2)<|bL [] Q2) λd=>b8 Q2
theorem TA{at_:Int}{b:AC}(a:aU U e m.Heap.Bytes)(l:aU U d m.Heap.Class)(k:aU U c m.aC.Global)(j:aU U b m.aC.Own):V0 prog U 244 (CR m at_) [.g (gM m e d c b),I at_] (λr=>.g [I r.Key,I r.dP,I r.Next]):=
 cD call244 func244 Q Q2<|iP aJ [0] Q<|c0 Q (λh=>E1 (h.a a)) λi=>c0 Q (λh=>E1 (h.a a)) λg=>c0 Q (λh=>E1 (h.a a)) λf=>b8 Q2
theorem aPE{b:Int}{v t:AC}(l:aU U w m.Heap.Bytes)(k:aU U v m.Heap.Class)(j:aU U u m.aC.Global)(i:aU U t m.aC.Own):VS prog U 112 (NS m b) [.g (gM m w v u t),I b] [] [] (λr (y:AC)=>.t [.h y r.1.length,.b r.2]) (λr y=>[ow y r.1]):=
 cD call112 func112 Q Q2<|λG=>Y9 (O:=Int) bD Q4 λF=>wi G<|LP F [2] (λ(p:an×Int) (f:AC)=>[(6,.h f p.1.length),(7,I p.2)]) [1,0] [0] (λp f=>[ow f (p.1:an)]) Out.brk [] (λ(g:an) (e:AC)=>[(6,.h e g.length)]) [] (λg e=>[ow e (g:an)]) Q Q (λd ⟨s,q⟩ f c=>bE [13] Q2 (dJ 0 1 (CT m s q) [2,6,7] 22 [0,1] Q (c0 Q (λh=>aD0 (h.a l) (h.a k) (h.a j) (h.a i)) λz=>dE [17,18] Q2 (bL [0,1] Q2)<|c0 Q (λh=>C4 (h.o 0 Q)) λx=>bL [0,1] Q2) λK=>bE [22] Q2 (λa=>Y9 (O:=Int) bD Q4 λE=>wi a<|uX c d<|jB E [2] Q2)<|c0 Q (λh=>aD2 (h.a l) (h.a k) (h.a j) (h.a i)) λD=>dJ 0 1 (CS m s q D) [2,6,7,8] 38 [0,1] Q (dE [31,32] Q2 (bL [0,1] Q2)<|c0 Q (λh=>TA (h.a l) (h.a k) (h.a j) (h.a i)) λB=>c0 Q (λ_=>aXH) λA=>bL [0,1] Q2) λJ=>bE [38] Q2 (λa=>Y9 (O:=Int) bD Q4 λo=>wi a<|uX c d<|jB o [2] Q2)<|λa=>lt1 Q bD Q Q Q Q λC=>ap 0 bD Q Q Q Q Q Q Q (λh=>(h.o 2 Q)) Q Q a λa n=>wi a<|c0 Q (λh=>TA (h.a l) (h.a k) (h.a j) (h.a i)) λH=>bQN underlying95 Q Q Q Q Q Q Q<|nxW n [0,1] Q)<|bkW f [0] Q) λg e=>jB e [0] Q2
theorem aG0{b a:AC}(i:aU U d m.Heap.Bytes)(g:aU U c m.Heap.Class)(f:aU U b m.aC.Global)(e:aU U a m.aC.Own):V0 prog U 113 (aC9 m h) [.g (gM m d c b a),I h] (λr=>.g [I r.Key,I r.dP,I r.Next]):=
 cD call113 func113 Q Q2<|c0 Q (λh=>aD2 (h.a i) (h.a g) (h.a f) (h.a e)) λk=>bE [14] Q2 (b8 Q2)<|c0 Q (λh=>TA (h.a i) (h.a g) (h.a f) (h.a e)) λj=>b8 Q2
theorem aPF{R K G l:AC}(u:aU U R t.aA.Mem.Heap.Bytes)(s:aU U P t.aA.Mem.Heap.Class)(q:aU U N t.aA.Mem.aC.Global)(o:aU U M t.aA.Mem.aC.Own)(h5:aU U L t.aA.aD.cV)(h6:aU U K t.aA.aQ)(h7:aU U J t.aA.pJ)(S:aU U H t.aT)(h9:aU U G t.aR)(F:aU U l t.eE)(E:aU U k t.Log):VS prog U 47 (NT t) [.g (LK t R P N M L K J H G l k)] [] [] (λr (y:AC)=>.h y r.length) (λr y=>[ow y r]):=
 cD call47 func47 Q Q2<|λhF=>Y9 (O:=KV) dZ Q4 λj=>wi hF<|c0 Q (λh=>aD1 (h.a u) (h.a s) (h.a q) (h.a o) (h.a h5) (h.a h6) (h.a h7) (h.a S) (h.a h9) (h.a F) (h.a E)) λx1=>bE [12] Q2 (jB j [1] Q2)<|LP j [1] (λ(p:aq×Int) (b:AC)=>[(3,.h b p.1.length),(4,I p.2)]) [1,0] [0] (λp b=>[ow b (p.1:aq)]) Out.brk [] (λ(n:aq) (e:AC)=>[(3,.h e n.length)]) [] (λn e=>[ow e (n:aq)]) Q Q (λC ⟨x4,x5⟩ b A=>bE [15] Q2 (iP aJ [1] Q<|kP a6W Q S Q λx7 _ _=>c1 Q (λh=>aPE (h.a u) (h.a s) (h.a q) (h.a o)) λx8 Z=>bE [32] Q2 (λB=>Y9 (O:=KV) dZ Q4 λz=>wi B<|uX A C<|jB z [4] Q2)<|LP b [1,4,5] (λ(p:aq×Int) (d:AC)=>[(3,.h d p.1.length),(7,I p.2)]) [0,3,1] [3,1] (λp d=>[ow d (p.1:aq)]) id [1,4] (λ(f:aq) (c:AC)=>[(3,.h c f.length)]) [1] (λf c=>[ow c (f:aq)]) Q Q (λhF2 ⟨w,v⟩ d hr2=>bE [38] Q2 (eP 0 4 (λ(p:Int×Int×Int)=>MI w v p.1 p.2.1 p.2.2) [1,3,4,5,7] (λ(p:Int×Int×Int) (_:Unit)=>[(8,.p 3 0)]) [0,1,2] (λp _=>[.box 3 [I p.1,I p.2.1,I p.2.2]]) Q (iP aJ [2] Q<|rV oI 1 Q3 λT i _ D=>λg=>nE 2 D i Q5<|bd g λa m g=>fA Q2 ((by refine fA Q2 ?_ ?_<;>exact IG m Q (λh=>aG0 (h.a u) (h.a s) (h.a q) (h.a o))<|sF Q<|kO oI 3 [] i () Q7<|fR Q2<|mQ (p:=(a.Key,a.dP,a.Next)) () [6,0,7,2] g Q)) (IG m Q (λh=>aG0 (h.a u) (h.a s) (h.a q) (h.a o))<|sF Q<|kO oI 3 [] i () Q7<|fR Q2<|mQ (p:=(a.Key,a.dP,a.Next)) () [6,0,7,2] g Q)) λ⟨Y,X,W⟩ _=>c1 Q (λh=>WQ (h.o 1 Q)) λV x=>nxW x [4,2,3] Q)<|bkW d [0,2] Q) λf c=>nxW c [0,1] Q)<|bkW b [0] Q) λn e=>jB e [0] Q2
theorem aPG{x v r o:AC}(n:aU U x t.aA.Mem.Heap.Bytes)(m:aU U w t.aA.Mem.Heap.Class)(l:aU U v t.aA.Mem.aC.Global)(k:aU U u t.aA.Mem.aC.Own)(j:aU U s t.aA.aD.cV)(i:aU U r t.aA.aQ)(g:aU U q t.aA.pJ)(f:aU U p t.aT)(e:aU U o t.aR)(b:aU U d t.eE)(a:aU U c t.Log):V0 prog U 12 (NU t) [.g (LK t x w v u s r q p o d c)] .b:=
 cD call12 func12 Q Q2<|c1 Q (λh=>aGW (h.a a)) λA z=>dJ 0 1 (CY t A) [1,3] 18 [1,0] Q (dE [12,13] Q2 (bL [1,0] Q2)<|c0 Q (λh=>WR (h.a a)) λB=>bL [1,0] Q2) λH=>bE [18] Q2 (b8 Q2)<|dJ 0 1 CX [] 2 [] Q (c0 Q (λh=>YM (h.a n) (h.a m) (h.a l) (h.a k) (h.a j) (h.a i) (h.a g) (h.a f) (h.a e) (h.a b) (h.a a)) λF=>dE [21,22] Q2 (bL [] Q2)<|c0 Q (λh=>aD1 (h.a n) (h.a m) (h.a l) (h.a k) (h.a j) (h.a i) (h.a g) (h.a f) (h.a e) (h.a b) (h.a a)) λE=>dE [24,25] Q2 (c1 Q (λh=>aPF (h.a n) (h.a m) (h.a l) (h.a k) (h.a j) (h.a i) (h.a g) (h.a f) (h.a e) (h.a b) (h.a a)) λD y=>c0 Q (λh=>aDZ (h.o 0 Q) (h.o 2 Q)) λC=>bL [] Q2)<|bL [] Q2) λG=>b8 Q2
theorem aTV{b:Int}{o:AC}(k:aU U s m.Heap.Bytes)(j:aU U q m.Heap.Class)(u:aU U o m.aC.Global)(t:aU U n m.aC.Own):VS prog U 115 (KF m b) [.g (gM m s q o n),I b] [] [] (λr (y:AC)=>.t [.h y r.1.length,.b r.2]) (λr y=>[ow y r.1]):=
 cD call115 func115 Q Q2<|λA=>Y9 (O:=Int) bD Q4 λl=>wi A<|c0 Q (λh=>KU (h.a k) (h.a j) (h.a u) (h.a t)) λE=>bE [12] Q2 (jB l [1] Q2)<|LP l [2] (λ(p:an×Int) (f:AC)=>[(6,.h f p.1.length),(7,I p.2)]) [1,0] [0] (λp f=>[ow f (p.1:an)]) Out.brk [] (λ(g:an) (e:AC)=>[(6,.h e g.length)]) [] (λg e=>[ow e (g:an)]) Q Q (λd ⟨z,x⟩ f c=>bE [16] Q2 (dJ 0 1 (F7 m z x) [2,6,7] 25 [0,1] Q (c0 Q (λh=>PM (h.a k) (h.a j) (h.a u) (h.a t)) λw=>dE [20,21] Q2 (bL [0,1] Q2)<|c0 Q (λh=>lQ (h.o 0 Q)) λv=>bL [0,1] Q2) λD=>bE [25] Q2 (λa=>sR Q<|LG Int<|rN ⟨none,0⟩ [2] (re a Q c d) Q2 Q4)<|c0 Q (λh=>WO (h.a k) (h.a j)) λC=>c0 Q (λ_=>aGT) λB=>bE [33] Q2 (λa=>sR Q<|LG Int<|rN ⟨none,0⟩ [3] (re a Q c d) Q2 Q4)<|λa=>lt1 Q bD Q Q Q Q λF=>ap 0 bD Q Q Q Q Q Q Q (λh=>(h.o 3 Q)) Q Q a λa i=>wi a<|nxW i [0,1] Q)<|bkW f [0] Q) λg e=>jB e [0] Q2
theorem aXI{z x v o f:AC}(F:aU U A t.aA.Mem.Heap.Bytes)(E:aU U z t.aA.Mem.Heap.Class)(D:aU U x t.aA.Mem.aC.Global)(C:aU U w t.aA.Mem.aC.Own)(N:aU U v t.aA.aD.cV)(M:aU U u t.aA.aQ)(L:aU U s t.aA.pJ)(B:aU U q t.aT)(K:aU U o t.aR)(n:aU U f t.eE)(m:aU U e t.Log):VS prog U 48 (OM t) [.g (LK t A z x w v u s q o f e)] [] [] (λr (y:AC)=>.t [.h y r.1.length,.b r.2]) (λr y=>[ow y r.1]):=
 cD call48 func48 Q Q2<|λJ=>Y9 (O:=an) aHP Q4 λd=>wi J<|c0 Q (λh=>S8 (h.a F) (h.a E) (h.a D) (h.a C) (h.a N) (h.a M) (h.a L) (h.a B) (h.a K) (h.a n) (h.a m)) λT=>bE [12] Q2 (jB d [1] Q2)<|LP d [1,15,16] (λ(p:b4×Int) (b:AC)=>[(4,.h b p.1.length),(17,I p.2)]) [1,0] [0] (λp b=>[ow b (p.1:List an)]) Out.brk [] (λ(g:b4) (a:AC)=>[(4,.h a g.length)]) [] (λg a=>[ow a (g:List an)]) Q Q (λl ⟨S,R⟩ b k=>bE [18] Q2 (kP a6W Q B Q λP _ _=>c1 Q (λh=>aTV (h.a F) (h.a E) (h.a D) (h.a C)) λH j=>bE [31] Q2 (λc=>sR Q<|LG an<|rN ⟨none,0⟩ [5] (re c Q k l) Q2 Q4)<|λc=>ZA oL [4] (H.1) j aHP ZB λG=>apN 0 5 aHP Q Q Q9 c λc i=>wi c<|nxW i [6,1] Q)<|bkW b [0] Q) λg a=>jB a [0] Q2
theorem LV{s:aq}{f:(KV->aw)}{h:AC}{c:FuncId}{a:ar}(j:aU U h s)(e:Fu1 prog U (cKV:GM KV) .b c a f):V0 prog U 120 (jL s f) [.h h s.length,.k (.func (.func c) #[] a.toArray)] I:=
 cD call120 func120 Q Q2<|BX 8 [0,1,7] [] Out.brk [] [] Q Q (λg l d=>bE [9] Q2 (kP cKV Q j Q λi _ _=>λb=>fa1 e i () Q Q Q Q Q trivial b λk _ b=>wi b<|bE [16] Q2 (uX d g<|b8 Q2)<|sO [] Q)<|rU [] Q)<|b8 Q2
theorem aAB{s:aq}{g:(KV->aw)}{d:FuncId}{b:ar}(c:Fu1 prog U (cKV:GM KV) .b d b g):VS prog U 249 (rK s g) [.h e s.length,.k (.func (.func d) #[] b.toArray)] [] [ow e (s:aq)] (λr (y:AC)=>.h y r.length) (λr y=>[ow y r]):=
 cD call249 func249 Q Q2<|c0 Q (λh=>LV (h.o 0 Q) (h.u1 c)) λG=>bE [12] Q2 (jB e [0] Q2)<|LP () [1] (λ(p:aq×Int×Int) (_:Unit)=>[(0,.h e p.1.length),(5,I p.2.1),(6,I p.2.2)]) [0] [] (λp _=>[ow e (p.1:aq)]) id [] (λ(p:aq×Int) (_:Unit)=>[(0,.h e p.1.length),(5,I p.2)]) [] (λp _=>[ow e (p.1:aq)]) Q Q (λA ⟨t,m,B⟩ _ z=>bE [19] Q2 (eP 2 0 (λ(p:aq×Int)=>kH B p.1 p.2) [1,6] (λ(p:aq×Int) (_:Unit)=>[(0,.h e p.1.length),(5,I p.2)]) [] (λp _=>[ow e (p.1:aq)]) Q (rV oKV 0 Q3 λf n _ E=>λa=>nE 0 E n Q5<|fa1 c f () Q Q Q Q Q trivial a λv _ a=>wi a<|bE [29] Q2 (λa=>cqS oKV 1 [] n () Q9<|wi a<|rV oKV 5 Q3 λu D _ C=>λa=>nE 2 C D Q5<|sF Q<|pD oKV 6 [] [0,17,22,30] f () Q8<|mQ (p:=(t.set m.toNat f,aZ (m+1))) () [9] a Q)<|λa=>sF Q<|kO oKV 1 [] n () Q7<|mQ (p:=(t,m)) () [5] a Q) λ⟨x,w⟩ _=>sO [0] Q)<|rU [0] Q) λ⟨q,l⟩ _=>λi=>cpc 0 Q Q λk=>aV7 k Q Q Q Q Q Q i λi o=>clr 0 l.toNat q.length ((⟨0,0⟩:KV):KV) o dZ Q (λ_=>(bTP (⟨0,0⟩:KV))) Q Q Q Q Q Q Q Q<|rr e (fK (xs:=List.replicate (q.length-l.toNat) (⟨0,0⟩:KV)) (oB o.1 o.2)).symm [0,36] [] [] Q Q Q Q<|cpc 0 Q Q λj=>aV8 j Q Q Q Q Q Q i λi F=>sR Q<|poR 0 0 l.toNat Q Q F Q<|rN (AC.sub e 2 0) [0] i Q2 Q4
theorem K0{s:aq}{b:AC}(c:aU U b s):VS prog U 250 (lF s) [.h b s.length] [] [] (λr (y:AC)=>.h y r.length) (λr y=>[ow y r]):=
 cD call250 func250 Q Q2<|λa=>eqn Q Q Q Q (λe=>have a:=cln c e a;sR Q<|LG KV<|rN ⟨none,0⟩ [0] a Q2 Q4)<|Y9 (O:=KV) dZ Q4 λf=>ap 0 dZ Q Q Q Q Q Q Q (λh=>(h.a c)) Q Q a λa d=>wi a<|jB d [0] Q2
theorem aPH{x:KV}{a:Int}{b:Nat×Nat}:VS prog U 251 (NV x a) [.g [I x.Key,I x.dP],.p 0 0] [b] [.ro 0 [I a]] (λr (_:Unit)=>.b r) (λ_ _=>[]):=
 cD call251 func251 Q Q2<|b8 Q2
theorem aG1{l:aq}{key:Int}{a:AC}(e:aU U a l):VS prog U 119 (ON l key) [.h a l.length,I key] [] [] (λr (y:AC)=>.h y r.length) (λr y=>[ow y r]):=
 cD call119 func119 Q Q2<|c1 Q (λh=>K0 (h.a e)) λg i=>λc=>mf [0] Q Q Q<|wi c<|bTE 0 [1] Q Q Q Q Q Q (λ_=>λd=>aAB (bTD call251 d λ_=>aPH)) λf b=>jB b [2] Q2
theorem aPI{x:KV}{a:Int}{b:Nat×Nat}:VS prog U 121 (WE x a) [.g [I x.Key,I x.dP],.p 0 0] [b] [.ro 0 [I a]] (λr (_:Unit)=>.b r) (λ_ _=>[]):=
 cD call121 func121 Q Q2<|b8 Q2
theorem aH7{s v:aq}{i:Int}{b a:AC}:VS prog U 122 (MJ s i v) [.h b s.length,I i,.h a v.length] [] [ow b s,.o (cLs a v)] (λr (y:AC)=>.h y r.length) (λr y=>[ow y r]):=bTI Q ai (a9Q (k:=2) (el:=107) (z:=.agg #[.int .i64 0,.int .i64 0]) ai Q a3O a6U bB3 a6V) call122
theorem WT{l:aq}{key val:Int}(g:aU U c l):VS prog U 51 (vK l key val) [.h c l.length,I key,I val] [] [] (λr (y:AC)=>.h y r.length) (λr y=>[ow y r]):=
 cD call51 func51 Q Q2<|c1 Q (λh=>aG1 (h.a g)) λd m=>λb=>mf [0] Q Q Q<|wi b<|aRY [0] Q Q Q Q (λh=>λf=>LV (h.o 1 Q) (aLF (cs:=[(0,[I key])]) call121 f Q λ_ _=>aPI)) λj=>eP 0 1 (A6 key val d) [2,4,7] (λ(a:Int) (_:Unit)=>[(8,I a)]) [1,0] (λa _=>[]) Q (bE [16] Q2 (bL [1,0] Q2)<|bL [1,0] Q2) λa _=>λb=>ltL oKV () (⟨key,val⟩:KV) dZ Q Q Q Q Q Q Q Q (λ_=>Q) λk=>wi b<|N7 [0,2] Q4 (λ_=>aH7) λi e=>jB e [3] Q2
theorem aBT{U:Ctx}{E D f:AC}(d:aU U F t.aA.Mem.Heap.Bytes)(c:aU U E t.aA.Mem.Heap.Class)(P:aU U D t.aA.Mem.aC.Global)(O:aU U C t.aA.Mem.aC.Own)(N:aU U B t.aA.aD.cV)(M:aU U A t.aA.aQ)(L:aU U w t.aA.pJ)(K:aU U u t.aT)(J:aU U s t.aR)(l:aU U g t.eE)(j:aU U f t.Log):VS prog U 15 (yQ t) [.g (LK t F E D C B A w u s g f)] [] [] (λr (y:AC)=>.h y r.length) (λr y=>[ow y r]):=λr i=>by
 unfold yQ at i;cases hc:OM t with
 |none=>rw[hc] at i;cases i
 |some x=>
  rw[hc] at i;refine⟨call15,λvs G b=>?_⟩;cases G;refine Calls.mono ((callsIn_wide (n:=8)).1 (bMB (ok:=x.2) i (λW a=>?_) (λn W h nd a I=>?_) (λn W z v m k y q o hz ⟨yv,e⟩ hm H=>?_))) ?_
  .refine(callsIn_wide (n:=7)).2 (Calls.mono ((aXI (B4 b a d) (B4 b a c) (B4 b a P) (B4 b a O) (B4 b a N) (B4 b a M) (B4 b a L) (B4 b a K) (B4 b a J) (B4 b a l) (B4 b a j) x hc).run _ rfl (aZ3 W)) ?_);rintro e p ⟨v,rfl,y,d,c⟩;cases d;exact⟨y,rfl,aRZ c,λz hz=>bL1 (a9U bLZ) c hz⟩
  .refine(callsIn_wide (n:=n)).2 (Calls.mono ((WO (B4 b a d) (B4 b a c) nd I).run _ rfl (aZ3 W)) ?_);rintro e p ⟨v,rfl,y,d,c⟩;cases d;exact⟨rfl,aRZ c⟩
  .subst e;refine(callsIn_wide (n:=n)).2 (Calls.mono ((WT (bTN hm) q H).run _ rfl (aZ3 W)) ?_);rintro e p ⟨v,rfl,y,d,c⟩;cases d;exact⟨y,rfl,aRZ c,(bQT c hz).mono o⟩
  .rintro e p ⟨y,rfl,d,c⟩;exact⟨_,rfl,y,rfl,bL3 b d c⟩
theorem aAC{s:a7}{f:(iO->aw)}{c:FuncId}{a:ar}(l:aU U i s)(e:Fu1 prog U (aDH:GM iO) .b c a f):V0 prog U 371 (A7 s f) [.h i s.length,.k (.func (.func c) #[] a.toArray)] I:=
 cD call371 func371 Q Q2<|BX 8 [0,1,7] [] Out.brk [] [] Q Q (λg n d=>bE [9] Q2 (kP aDH Q l Q λk h j=>λb=>fa1 e k (h.1,h.2) Q Q Q Q Q ⟨j.1,j.2⟩ b λm _ b=>wi b<|bE [16] Q2 (uX d g<|b8 Q2)<|sO [] Q)<|rU [] Q)<|b8 Q2
theorem aME{a:iO}{e d:Int}{b:AC}{f b1:Nat×Nat}(i:aU U c a.bR)(h:aU U b a.eX):VS prog U 372 (SS a e d) [.g [I a.Kind,I a.Who,I a.aG,I a.Code,.h c a.bR.length,.h b a.eX.length],.p 0 0,.p 1 0] [f,b1] [.ro 0 [I e],.ro 1 [I d]] (λr (_:Unit)=>.b r) (λ_ _=>[]):=
 cD call372 func372 Q Q2<|dJ 0 3 zJ [] 4 [] Q (dE [8,9] Q2 (bL [] Q2)<|bL [] Q2) λg=>b8 Q2
theorem BO{b a:Int}(g:aU U c l):V0 prog U 254 (rL l b a) [.h c l.length,I b,I a] I:=
 cD call254 func254 Q Q2<|λe=>mf [0,1] Q Q Q<|wi e<|bTC [0,1] Q Q Q Q (λh=>λf=>aAC (h.a g) (aLF (cs:=[(0,[I b]),(1,[I a])]) call372 f Q λ_ d=>aME d.1 d.2)) λi=>b8 Q2
theorem aKC{m:AC}(i:aU U m l):VS prog U 124 (SU l) [.h m l.length] [] [] (λr (y:AC)=>.h y r.length) (λr y=>[ow y r]):=
 cD call124 func124 Q Q2<|λx=>Y9 (O:=Int) bD Q4 λw=>wi x<|LP w [0,8,9] (λ(p:an×Int) (b:AC)=>[(3,.h b p.1.length),(10,I p.2)]) [0] [] (λp b=>[ow b (p.1:an)]) id [] (λ(f:an) (d:AC)=>[(3,.h d f.length)]) [] (λf d=>[ow d (f:an)]) Q Q (λu ⟨k,g⟩ b t=>bE [11] Q2 (eP 2 0 (ER g) [0,8,9,10] (λ(e:an) (c:AC)=>[(3,.h c e.length)]) [] (λe c=>[ow c (e:an)]) Q (kP aDH Q i Q λj C E=>dJ 0 2 (NX l k g j) [0,3,5,8,9,10] 22 [0,2] Q (dE [16,17] Q2 (bL [0,2] Q2)<|c0 Q (λh=>lQ (h.o 0 Q)) λn=>bL [0,2] Q2) λA=>bE [22] Q2 (pE b [0] Q2)<|c0 Q (λh=>BO (h.a i)) λz=>dJ 0 2 (NW k g j) [0,3,5,8,9,10] 36 [0,1] Q (dE [28,29] Q2 (kP aDH Q i Q λo s D=>bL [0,1] Q2)<|bL [0,1] Q2) λq=>bE [36] Q2 (λa=>lt1 Q bD Q Q Q Q λB=>ap 0 bD Q Q Q Q Q Q Q (λh=>(h.o 2 Q)) Q Q a λa v=>wi a<|pE v [0] Q2)<|pE b [0] Q2) λe c=>nxW c [0] Q)<|bkW b [0] Q) λf d=>jB d [0] Q2
theorem a00{l:aq}(d:aU U c l):V0 prog U 450 (ZS l) [.h c l.length] .b:=
 cD call450 func450 Q Q2<|BX 7 [0,5,6] [] Out.brk [] [] Q Q (λb e a=>bE [8] Q2 (kP cKV Q d Q λj _ _=>dJ 0 2 (yR e) [0,5,6,7] 36 [] Q (iP aJ [0,1] Q<|c0 Q (λ_=>bI) λh=>dE [15,16] Q2 (bL [] Q2)<|c0 Q (λ_=>bI) λg=>dE [20,21,22] Q2 (bL [] Q2)<|dE [24,25] Q2 (kP cKV Q d Q λf _ _=>bL [] Q2)<|bL [] Q2) λi=>bE [36] Q2 (uX a b<|b8 Q2)<|sO [] Q)<|rU [] Q)<|b8 Q2
theorem aXJ{l:aq}{key:Int}(d:aU U c l):V0 prog U 451 (U9 l key) [.h c l.length,I key] (λr=>.t [I r.1,.b r.2]):=
 cD call451 func451 Q Q2<|BX 10 [1,8,9] [] Out.brk [] [] Q Q (λb f a=>bE [11] Q2 (kP cKV Q d Q λe _ _=>bE [17] Q2 (uX a b<|b8 Q2)<|sO [] Q)<|rU [] Q)<|b8 Q2
theorem a01{l:aq}{c:iK}(a:aU U d l):VS prog U 373 (ZT l c) [.h d l.length,.g [I c.Kind,I c.Key,I c.dP]] [] [] (λr (y:AC)=>.t [.h y r.1.length,.g [.b r.2.Is,I r.2.dP]]) (λr y=>[ow y r.1]):=
 cD call373 func373 Q Q2<|c1 Q (λh=>K0 (h.a a)) λe b=>dJ 0 2 (NY l c e) [0,3,5,6] 19 [2,0,1] Q (c0 Q (λh=>a00 (h.a a)) λk=>dE [14,15] Q2 (bL [2,0,1] Q2)<|c0 Q (λ_=>aJT) λj=>bL [2,0,1] Q2) λs=>bE [19] Q2 (jB b [0] Q2)<|c0 Q (λh=>aXJ (h.a a)) λq=>bE [31,32] Q2 (jB b [0] Q2)<|bE [37,38] Q2 (c1 Q (λh=>WT (h.a a)) λp i=>jB i [3] Q2)<|bE [46,47] Q2 (c1 Q (λh=>aG1 (h.a a)) λo g=>jB g [3] Q2)<|c0 Q (λ_=>aJ1) λn=>c1 Q (λh=>WT (h.a a)) λm f=>jB f [3] Q2
theorem aXK{l:aq}{cmds:bc}{f:AC}(x:aU U g l)(w:aU U f cmds):VS prog U 255 (VA l cmds) [.h g l.length,.h f cmds.length] [] [] (λr (y:AC×AC)=>.t [.h y.1 r.1.length,.h y.2 r.2.length]) (λr y=>[ow y.1 r.1,ow y.2 r.2]):=
 cD call255 func255 Q Q2<|c1 Q (λh=>K0 (h.a x)) λE t=>λv=>Y9 (O:=eX) lG Q4 λs=>wi v<|LP (t,s) [15,16] (λ(p:aq×bq×Int) (u:AC×AC)=>[(6,.h u.1 p.1.length),(7,.h u.2 p.2.1.length),(17,I p.2.2)]) [0,1] [] (λp u=>[ow u.1 (p.1:aq),ow u.2 (p.2.1:bq)]) id [] (λ(p:aq×bq) (u:AC×AC)=>[(6,.h u.1 p.1.length),(7,.h u.2 p.2.length)]) [] (λp u=>[ow u.1 (p.1:aq),ow u.2 (p.2:bq)]) Q Q (λm ⟨D,C,B⟩ ⟨q,o⟩ k=>bE [18] Q2 (kP aS3 Q w Q λi _ _=>c1 Q (λh=>a01 (h.o 0 Q)) λb d=>λa=>ZA bMC [] (b.2) () lG ZB λj=>ap 1 lG Q Q Q Q Q Q Q (λh=>(h.o 6 Q)) Q Q a λa c=>wi a<|nxW (d,c) [4,1] Q)<|bkW (q,o) [0,1] Q) λ⟨A,z⟩ ⟨n,e⟩=>jB (n,e) [0,1] Q2
theorem aXL{n:Int}(i:aU U q l):VS prog U 123 (VB l n) [.h q l.length,I n] [] [] (λr (y:AC)=>.t [.h y r.1.length,.b r.2]) (λr y=>[ow y r.1]):=
 cD call123 func123 Q Q2<|λg=>Y9 (O:=KV) dZ Q4 λG=>wi g<|c1 Q (λh=>aKC (h.a i)) λb F=>λg=>bLN Q Q Q Q<|bQI Q Q Q Q<|cpc 1 Q Q λm=>aV8 m Q Q Q Q Q Q g λg L=>po 1 0 ((if(if(b.length:Int)<n then(b.length:Int) else n)<0 then 0 else(if(b.length:Int)<n then(b.length:Int) else n)).toNat) Q Q Q Q L Q<|wi g<|LP G [0,23,24] (λ(p:aq×Bool×Int) (c:AC)=>[(6,.h c p.1.length),(7,.b p.2.1),(25,I p.2.2)]) [0,1] [] (λp c=>[ow c (p.1:aq),ow (AC.sub F 1 0) ((b.take ((if(if(b.length:Int)<n then(b.length:Int) else n)<0 then 0 else(if(b.length:Int)<n then(b.length:Int) else n)).toNat)).drop 0:an)]) id [] (λ(p:aq×Bool) (f:AC)=>[(6,.h f p.1.length),(7,.b p.2)]) [] (λp f=>[ow f (p.1:aq)]) Q Q (λC ⟨E,P,D⟩ c B=>bE [26] Q2 (eP 2 0 (λ(p:aq×Bool)=>A9 D p.1 p.2) [0,23,24,25] (λ(p:aq×Bool) (e:AC)=>[(6,.h e p.1.length),(7,.b p.2)]) [1] (λp e=>[ow e (p.1:aq)]) Q (rV oI 1 Q3 λw j _ K=>λa=>nE 0 K j Q5<|wi a<|c0 Q (λh=>BO (h.a i)) λv=>bE [33] Q2 (λa=>sF Q<|kO oI 2 [] j () Q7<|mQ (p:=(E,false)) c [0,5] a Q)<|kP aDH Q i Q λu R J=>c1 Q (λh=>aXK (h.o 0 Q) (h.a J.1)) λd o=>dE [7,45,46] Q2 (c0 Q (λh=>BO (h.a i)) λt=>kP aDH Q i Q λs A H=>c0 Q (λh=>S7 (h.o 7 Q) (h.a H.2)) λk=>λa=>sF Q<|kO oI 2 [] j () Q7<|mQ (p:=(d.1,k)) o.1 [6,9] a Q)<|λa=>sF Q<|kO oI 2 [] j () Q7<|mQ (p:=(d.1,false)) o.1 [6,8] a Q) λ⟨z,x⟩ e=>nxW e [0,1] Q)<|bkW c [0] Q) λ⟨N,M⟩ f=>jB f [0] Q2
theorem aXM{a:AC}(c:aU U a l):VS prog U 52 (aDC l) [.h a l.length] [] [] (λr (y:AC)=>.t [.h y r.1.length,.b r.2]) (λr y=>[ow y r.1]):=
 cD call52 func52 Q Q2<|c1 Q (λh=>aXL (h.a c)) λd b=>jB b [0] Q2
theorem aXN{d b:Int}{a:AC}(c:aU U a l):V0 prog U 127 (VC l d b) [.h a l.length,I d,I b] .b:=
 cD call127 func127 Q Q2<|c0 Q (λh=>BO (h.a c)) λg=>c0 Q (λh=>BO (h.a c)) λf=>dJ 0 0 BA [] 6 [] Q (dE [16,17] Q2 (dE [19,20,21] Q2 (bL [] Q2)<|bL [] Q2)<|bL [] Q2) λe=>b8 Q2
theorem aPJ{a:Int}{b:a7}{d:Int}{f b1:Nat×Nat}(e:aU U c b):VS prog U 126 (NZ a b d) [I a,.p 0 0,.p 1 0] [f,b1] [.ro 0 [.h c b.length],.ro 1 [I d]] (λr (_:Unit)=>.b r) (λ_ _=>[]):=
 cD call126 func126 Q Q2<|c0 Q (λh=>aXN (h.a e)) λg=>b8 Q2
theorem aXO(i:aU U e l):V0 prog U 53 (VD l) [.h e l.length] .b:=
 cD call53 func53 Q Q2<|c1 Q (λh=>aKC (h.a i)) λq r=>λk=>shS [0] Q Q<|wi k<|BX 10 [1,3,8,9] [1,0] Out.brk [] [] Q Q (λd p b=>bE [11] Q2 (rV oI 0 Q3 λj g _ n=>λa=>nE 1 n g Q5<|cqS oI 2 [] g () Q9<|cpc 6 Q Q λc=>aV8 c Q Q Q Q Q Q a λa f=>mf [0,2] Q Q Q<|wi a<|bTC [1,5] Q Q Q Q (λh=>λm=>g8 ((h.o 6 Q).sub (XR f.1 f.2) f) (aLF (cs:=[(0,[.h e l.length]),(2,[I j])]) call126 m Q λhk _=>aPJ (rk hk (h.a i)))) λo=>bE [19] Q2 (uX b d<|b8 Q2)<|sO [6,1] Q)<|rU [] Q)<|b8 Q2
theorem aKD{e d:aq}{f:AC}(k:aU U g e)(j:aU U f d):V0 prog U 131 (F9 e d) [.h g e.length,.h f d.length] .b:=
 cD call131 func131 Q Q2<|bE [10] Q2 (b8 Q2)<|BX 13 [0,1,12] [] Out.brk [] [] Q Q (λc l a=>bE [14] Q2 (iP aJ [] Q<|kP cKV Q k Q λi _ _=>kP cKV Q j Q λh _ _=>λb=>neS eqGuardType107 stoodInHeld107 underlying107 (aNC 9997 i h) Q6<|wi b<|bE [24] Q2 (uX a c<|b8 Q2)<|sO [] Q)<|rU [] Q)<|b8 Q2
theorem aTW{a b:aq}(f:aU U d a)(e:aU U c b):V0 prog U 55 (ZU a b) [.h d a.length,.h c b.length] .b:=
 cD call55 func55 Q Q2<|c0 Q (λh=>aKD (h.a f) (h.a e)) λg=>b8 Q2
theorem aPK{x v r o:AC}(n:aU U x t.aA.Mem.Heap.Bytes)(m:aU U w t.aA.Mem.Heap.Class)(l:aU U v t.aA.Mem.aC.Global)(k:aU U u t.aA.Mem.aC.Own)(j:aU U s t.aA.aD.cV)(i:aU U r t.aA.aQ)(g:aU U q t.aA.pJ)(f:aU U p t.aT)(e:aU U o t.aR)(b:aU U d t.eE)(a:aU U c t.Log):V0 prog U 16 (N0 t) [.g (LK t x w v u s r q p o d c)] .b:=
 cD call16 func16 Q Q2<|c1 Q (λh=>aXM (h.a a)) λG z=>dJ 0 1 oR [] 2 [] Q (dE [4,10,11,12] Q2 (c0 Q (λh=>aXO (h.a a)) λE=>dE [15,16,17] Q2 (c0 Q (λh=>YL (h.a n) (h.a m) (h.a l) (h.a k) (h.a j) (h.a i) (h.a g) (h.a f) (h.a e) (h.a b) (h.a a)) λD=>dE [20,21] Q2 (bL [] Q2)<|c0 Q (λh=>S8 (h.a n) (h.a m) (h.a l) (h.a k) (h.a j) (h.a i) (h.a g) (h.a f) (h.a e) (h.a b) (h.a a)) λC=>dE [23,24] Q2 (N7 [] Q4 (λh=>aBT (h.a n) (h.a m) (h.a l) (h.a k) (h.a j) (h.a i) (h.a g) (h.a f) (h.a e) (h.a b) (h.a a)) λB y=>c0 Q (λh=>aTW (h.o 2 Q) (h.o 1 Q)) λA=>bL [] Q2)<|bL [] Q2)<|bL [] Q2)<|bL [] Q2) λF=>b8 Q2
theorem aPL{code:bh}{a:AC}(b:aU U a code):V0 prog U 3 (WG code) [.h a code.length] .b:=
 cD call3 func3 Q Q2<|c0 Q (λh=>a6Y (h.a b)) λr=>bE [9] Q2 (b8 Q2)<|c1 Q (λh=>aDK (h.a b)) λq x=>c0 Q (λh=>aW0 (h.o 0 Q) (h.o 1 Q)) λp=>bE [14] Q2 (c1 Q (λh=>YJ (h.o 0 Q) (h.o 1 Q)) λo w=>bQN underlying47 Q Q Q Q Q Q Q<|b8 Q2)<|c1 Q (λh=>YJ (h.o 0 Q) (h.o 1 Q)) λn v=>c1 Q (λh=>aH4 (h.o 3 Q) (h.o 4 Q) (h.o 5 Q) (h.o 6 Q) (h.o 7 Q) (h.o 8 Q) (h.o 9 Q) (h.o 10 Q) (h.o 11 Q) (h.o 12 Q) (h.o 13 Q)) λm u=>c1 Q (λh=>aGW (h.o 25 Q)) λl t=>dJ 0 3 iH [] 2 [] Q (c0 Q (λh=>WR (h.o 13 Q)) λj=>dE [32,33] Q2 (c0 Q (λh=>aPG (h.o 15 Q) (h.o 16 Q) (h.o 17 Q) (h.o 18 Q) (h.o 19 Q) (h.o 20 Q) (h.o 21 Q) (h.o 22 Q) (h.o 23 Q) (h.o 24 Q) (h.o 25 Q)) λi=>dE [35,36,37] Q2 (c0 Q (λh=>YM (h.o 15 Q) (h.o 16 Q) (h.o 17 Q) (h.o 18 Q) (h.o 19 Q) (h.o 20 Q) (h.o 21 Q) (h.o 22 Q) (h.o 23 Q) (h.o 24 Q) (h.o 25 Q)) λg=>dE [39,40,41] Q2 (dE [7,29,42,43,44] Q2 (N7 [] Q4 (λh=>aBT (h.o 15 Q Q) (h.o 16 Q Q) (h.o 17 Q Q) (h.o 18 Q Q) (h.o 19 Q Q) (h.o 20 Q Q) (h.o 21 Q Q) (h.o 22 Q Q) (h.o 23 Q Q) (h.o 24 Q Q) (h.o 25 Q Q)) λf s=>c0 Q (λh=>aDZ (h.o 27 Q) (h.o 28 Q)) λe=>dE [48,49,50] Q2 (c0 Q (λh=>aPK (h.o 15 Q) (h.o 16 Q) (h.o 17 Q) (h.o 18 Q) (h.o 19 Q) (h.o 20 Q) (h.o 21 Q) (h.o 22 Q) (h.o 23 Q) (h.o 24 Q) (h.o 25 Q)) λd=>dE [52,53,54] Q2 (dE [58,59,60] Q2 (c0 Q (λh=>WR (h.o 25 Q)) λc=>bL [] Q2)<|bL [] Q2)<|bL [] Q2)<|bL [] Q2)<|bL [] Q2)<|bL [] Q2)<|bL [] Q2)<|bL [] Q2) λk=>b8 Q2
end
end Go.Proofs.YtdooodokcphomaaGreat
end
noncomputable section
namespace Go.Gv
variable{h:Heap}{c s x:Int}{l:an}{k w:Nat}{O ρ σ:Type}
def eY{f:σ->Option (Step σ ρ)}(n:Nat)(S:Nat->σ)(r:ρ)(b:∀k,k<n->f (S k)=some (.next (S (k+1))))(c:f (S n)=some (.stop r)):loop f (S 0)=some r:=by
  have key:∀d k,k+d=n->loop f (S k)=some r:=by
    intro d;induction d with
    | zero => intro k hk; obtain rfl : k = n := by omega
              exact aY c
    |succ d a=>intro k hk;rw[bJ (b k aa)];exact a (k+1) aa
  exact key n 0 aa
def bB6{f:σ->Option (Step σ ρ)}(n:Nat)(S:Nat->σ)(g:Nat->ρ)
  (h:∀k,k<=n->f (S k)=some (.stop (g k))\/(k<n/\f (S k)=some (.next (S (k+1)))/\g k=g (k+1))):∀k,k<=n->loop f (S k)=some (g k):=by
 have key:∀d k,k+d=n->loop f (S k)=some (g k):=by
  intro d;induction d with
  |zero=>
   intro k hk;obtain a|⟨a,_⟩:=h k aa
   .exact aY a
   .omega
  |succ d b=>
   intro k hk;obtain a|⟨_,e,c⟩:=h k aa
   .exact aY a
   .rw[bJ e,c];exact b (k+1) aa
 intro k hk;exact key (n-k) k aa
def BP{f:σ->Option (Step σ ρ)}(n:Nat)(S:Nat->σ)(p:Nat->Prop)[DecidablePred p](yes no:ρ)
  (m:∀k,k<n->p k->f (S k)=some (.next (S (k+1)))) (l:∀k,k<n->¬p k->f (S k)=some (.stop no)) (i:f (S n)=some (.stop yes)) :
  loop f (S 0)=some (if ∀k,k<n->p k then yes else no):=by
 classical
 have key:∀d k,k+d=n->loop f (S k)=some (if ∀j,k<=j->j<n->p j then yes else no):=by
  intro d;induction d with
  |zero=>
   intro k hk;obtain rfl:k=n:=aa
   rw[aY i,aM (λj a b=>aa)]
  |succ d g=>
   intro k hk;by_cases c:p k
   .rw[bJ (m k aa c),g (k+1) aa];by_cases h:∀j,k+1<=j->j<n->p j
    .rw[aM h,aM];intro j a b;by_cases e:j=k
     .subst e;exact c
     .exact h j aa b
    .rw[aO h,aO];exact λq=>h λj a b=>q j aa b
   .rw[aY (l k aa c),aO];exact λq=>c (q k (jE _) aa)
 have:=key n 0 aa;rw[this];by_cases h:∀k,k<n->p k
 .rw[aM h,aM (λj _ b=>h j b)]
 .rw[aO h,aO (λq=>h λk a=>q k (iT _) a)]
def m0{f:σ->Option (Step σ ρ)}(l:List O)(S:Nat->σ)(p:O->Prop)[DecidablePred p](yes no:ρ)
  (e:∀k (h:k<l.length),p l[k]->f (S k)=some (.next (S (k+1)))) (d:∀k (h:k<l.length),¬p l[k]->f (S k)=some (.stop no)) (c:f (S l.length)=some (.stop yes)) :
  loop f (S 0)=some (if ∀x∈l,p x then yes else no):=by
 classical
 have:=BP (f:=f) l.length S (λk=>∀h:k<l.length,p l[k]) yes no (λk h a=>e k h (a h)) (λk h a=>d k h (λq=>a λ_=>q)) c;rw[this];by_cases h:∀x∈l,p x
 .rw[aM h,aM (λk hk _=>h _ (cQ hk))]
 .rw[aO h,aO];intro q;refine h λx b=>?_;obtain⟨k,hk,rfl⟩:=aF8.1 b;exact q k hk hk
theorem cC(b:-9223372036854775808<=x)(a:x<=9223372036854775807):aZ x=x:=VW ⟨b,a⟩
theorem iD{l:List O}{i:Int}(b:0<=i)(a:i<l.length):idx l i=some (l[i.toNat]' aa):=idx_eq b a
theorem wrap_i64(b:-9223372036854775808<=x)(a:x<=9223372036854775807):IntKind.i64.wrap x=x:=VW ⟨b,a⟩
def a3T{y:Int}(a:0<=x):x.tdiv y=x/y:=Int.tdiv_eq_ediv_of_nonneg a
theorem TB{y:Int}(a:0<=x):x.tmod y=x % y:=a5V a
def a94(a:0<=x)(hk:k<=63):qO .i64 x k=x/2 ^ k:=by
 unfold qO;have:min ((k:Int).toNat) IntKind.i64.bits=k:=by simp[IntKind.bits];omega
 rw[this,Int.fdiv_eq_ediv_of_nonneg _ (by exact Int.le_of_lt (Int.pow_pos aa))]
def cO{c:Prop}[Decidable c]{a b:O}(h:c:=by simp;omega):ite c a b=a:=aM h
def dY{c:Prop}[Decidable c]{a b:O}(h:¬c:=by simp):ite c a b=b:=aO h
def iB{c:Prop}[Decidable c]{a b:O}(h:¬c:=by omega):ite c a b=b:=aO h
def T8{c:Prop}[Decidable c]{a b:O}(h:¬c:=by simp;omega):ite c a b=b:=aO h
def LW{p:Prop}[Decidable p]{k:Option O}(h:p:=by simp;omega):need p k=k:=cJ h k
def WU{p:Prop}[Decidable p]{k:Option O}(h:p:=by omega):need p k=k:=cJ h k
def RK{l:List O}(h:k<l.length:=by omega):idx l (k:Int)=some l[k]:=aS h
def cY(b:-9223372036854775808<=x:=by omega)(a:x<=9223372036854775807:=by omega):aZ x=x:=cC b a
structure GOp where
 Kind:Int
 Cell:Int
 bYI:Int
 dP:Int
 deriving DecidableEq,Inhabited
structure Job where
 bU:Bool
 Op:GOp
 aG:Int
 Pc:Int
 Sub:Sub
 H:Int
 Old:Int
 dP:Int
 Code:Int
 deriving DecidableEq,Inhabited
section
variable {O:Type} {p:O->Bool}
theorem TC{f:Int->Option (Step Int (Out Unit Int))}{s:List O}(hl:s.length<=4611686018427387904)
  (n:∀k:Nat,f (k:Int)=if h:k<s.length then(if p s[k] then some (.stop (Out.ret (k:Int))) else some (.next ((k+1:Nat):Int))) else some (.stop (Out.brk ()))) :
  ∀d k,k+d=s.length->(∃j,∃h:j<s.length,k<=j/\(∀i (h:i<s.length),k<=i->i<j->p s[i]=false)/\p s[j]=true/\loop f (k:Int)=some (Out.ret (j:Int)))\/((∀i (h:i<s.length),k<=i->p s[i]=false)/\loop f (k:Int)=some (Out.brk ()))
 |0,k,hk=>.inr ⟨λi h l=>aa,aY aj⟩
 |d + 1,k,hk=>by
  have c:k<s.length:=aa
  by_cases g:p s[k]=true
  .exact .inl ⟨k,c,jE _,λi h o l=>aa,g,aY (by rw[n k,dif_pos c,aM g])⟩
  .have g:p s[k]=false:=by simpa using g
   have q:f (k:Int)=some (.next ((k+1:Nat):Int)):=by rw[n k,dif_pos c,aO (by simp[g])]
   rcases TC hl n d (k+1) aa with ⟨j,h,o,l,t,r⟩|⟨o,l⟩
   .refine .inl ⟨j,h,aa,λi m a b=>?_,t,by rw[bJ q];exact r⟩;by_cases e:i=k
    .subst e;exact g
    .exact l i m aa b
   .refine .inr ⟨λi m a=>?_,by rw[bJ q];exact l⟩;by_cases e:i=k
    .subst e;exact g
    .exact o i m aa
theorem aQK{f:List O×Int×Int->Option (Step (List O×Int×Int) (List O×Int))}{n:Nat}(hl:n<=4611686018427387904)
  (e:∀(L:List O) (i j:Nat) (h:j<L.length),L.length=n->i<=j->f (L,(i:Int),(j:Int))=if p L[j] then some (.next (L,(i:Int),((j+1:Nat):Int))) else some (.next (L.set i L[j],((i+1:Nat):Int),((j+1:Nat):Int))))
  (l:∀(L:List O) (i j:Nat),j=L.length->f (L,(i:Int),(j:Int))=some (.stop (L,(i:Int)))) :
  ∀d (L:List O) (i j:Nat),j+d=L.length->L.length=n->i<=j->∃(M:List O) (k:Nat),loop f (L,(i:Int),(j:Int))=some (M,(k:Int))/\M.length=n/\k<=n/\M.take k=L.take i++(L.drop j).filter (λx=>!p x)
 |0,L,i,j,s,b,g=>⟨L,i,aY (l L i j aa),b,aa,aj⟩
 |d + 1,L,i,j,s,b,g=>by
  have a:j<L.length:=aa
  have t:L.drop j=L[j]::L.drop (j+1):=vA a;by_cases c:p L[j]=true
  .obtain⟨M,k,q,o,m,r⟩:=aQK hl e l d L i (j+1) aa b aa;refine⟨M,k,by rw[bJ (by rw[e L i j a b g,aM c])];exact q,o,m,aj⟩
  .have c:p L[j]=false:=aj
   obtain⟨M,k,q,o,m,r⟩:=aQK hl e l d (L.set i L[j]) (i+1) (j+1) ah aj aa;refine⟨M,k,by rw[bJ (by rw[e L i j a b g,aO (by simp[c])])];exact q,o,m,?_⟩;rw[r,t,List.filter_cons_of_pos (by simp[c])];have u:(L.set i L[j]).take (i+1)=L.take i++[L[j]]:=by rw[N5 ah,List.take_set_of_le (jE _)];simp
   grind[List.drop_set_of_lt]
end
theorem aYJ{l xs:List O}{a:Nat}(h:a<=l.length):((dF l a xs).take a).drop 0=l.take a:=by grind[dF]
theorem a3U{q:O->Bool}{s:List O}{j:Nat}(h:j<s.length)(b:∀i (h:i<s.length),i<j->q s[i]=true)(a:q s[j]=false):s.take j++(s.drop (j+1)).filter q=s.filter q:=by
 have e:s=s.take j++s[j]::s.drop (j+1):=ae
 have c:(s.take j).filter q=s.take j:=by grind[List.filter_eq_self,XB]
 grind
def a60{s:an}{p:Int->Bool}(hl:s.length<=4611686018427387904) :
  (∃j,∃h:j<s.length,(∀i (h:i<s.length),i<j->p s[i]=false)/\p s[j]=true/\iW s (λy=>some (p y))=some (j:Int))\/((∀i (h:i<s.length),p s[i]=false)/\iW s (λy=>some (p y))=some (-1)):=by
 rcases TC (f:=gU s (λy=>some (p y))) (p:=p) hl (λk=>by
  simp only[gU];by_cases h:k<s.length
  .rw[dif_pos h,cO,aS h,aI,aI,cY];rfl
  grind) s.length 0 aa with ⟨j,h,_,c,e,d⟩|⟨g,c⟩
 .refine .inl ⟨j,h,λi b a=>c i b (iT _) a,e,?_⟩;unfold iW;rw[show(0:Int)=((0:Nat):Int) from rfl,d];rfl
 .refine .inr ⟨λi b=>g i b (iT _),?_⟩;unfold iW;rw[show(0:Int)=((0:Nat):Int) from rfl,c];rfl
def a3V(x y:Int):cmp_Less_int x y=some (decide (x<y)):=by simp[cmp_Less_int,cmp_isNaN_int,xH]
theorem a03{A B:an}{k:Int}(h:k=(A.length:Int)):idx (A++x::B) k=some x:=by grind[aS]
def a3W{data:an}(m:data.length<=4611686018427387904):∀(j:Nat) (A B C:an) (x:Int),A.length=j->(A++x::(B++C)).length=data.length->(A++B).Pairwise (·<=·)->(∀b∈B,x<=b) ->
  ∃M:an,loop (eJ data 0) (A++x::(B++C),(j:Int))=some (M++C)/\M.Perm (A++x::B)/\M.Pairwise (·<=·)
 |0,A,B,C,x,c,a,e,g=>by obtain rfl:A=[]:=vB c;refine⟨x::B,aY ?_,.refl _,aRA.2 ⟨g,e⟩⟩;simp only[eJ,eI];rw[cJ a,dY,cJ a,dY];rfl
 |j + 1,A,B,C,x,c,a,e,g=>by
  obtain⟨A,y,rfl⟩:∃f y,A=f++[y]:=by
   obtain h|⟨f,y,h⟩:=aCH A
   .rw[h] at c;cases c
   .exact⟨f,y,by rw[h,aMW]⟩
  have d:A.length=j:=aj
  have p:A++[y]++x::(B++C)=A++y::(x::(B++C)):=ae
  have t:aZ (((j+1:Nat):Int)-1)=(j:Int):=by grind[cC]
  have r:idx (A++y::(x::(B++C))) ((j+1:Nat):Int)=some x:=by grind[a03]
  have q:idx (A++y::(x::(B++C))) (j:Int)=some y:=a03 aa;rw[p] at a ⊢;have k:∀b∈B,y<=b:=λb i=>(List.pairwise_append.1 e).2.2 y ae b i;by_cases l:x<y
  .have st:eJ data 0 (A++y::(x::(B++C)),((j+1:Nat):Int))=some (.next (A++x::((y::B)++C),(j:Int))):=by simp_all[eJ,cJ,a3V,eI,j7,a03]
   obtain⟨M,s,o,n⟩:=a3W m j A (y::B) C x d aj aj (λb i=>by
    grind)
   refine⟨M,by grind[bJ],o.trans ?_,n⟩;grind
  .refine⟨A++[y]++x::B,aY ?_,.refl _,?_⟩
   .simp_all[eJ,cJ,a3V,eI,aO]
   grind
def aYK{data:an}(g:data.length<=4611686018427387904):∀d (S R:an),R.length=d->S≠[]->(S++R).length=data.length->S.Pairwise (·<=·) ->
  ∃M:an,loop (dN data 0 (data.length:Int)) (S++R,(S.length:Int))=some M/\M.Perm (S++R)/\M.Pairwise (·<=·)
 |0,S,R,e,h,a,f=>by simp_all[aY,dN,cJ]
 |d+1,S,[],e,h,a,f=>by cases e
 |d + 1,S,x::R,e,h,a,f=>by
  obtain⟨M,n,k,j⟩:=a3W g S.length S [] R x rfl aj aj (λb i=>by cases i);have hl:=k.length_eq;simp at hl;have c:=a;simp at c;have st:dN data 0 (data.length:Int) (S++x::R,(S.length:Int))=some (.next (M++R,((S.length+1:Nat):Int))):=by simp only[dN];rw[cJ a,cO];grind[oZ,oY,cJ,cC]
  obtain⟨N,o,m,l⟩:=aYK g d M R aj aj ah j;refine⟨N,by grind[bJ],m.trans ?_,l⟩;grind
def bG7{x:an}(h:x.length<=12)(g:∃n,EA (IntKind.u64.wrap (x.length:Int))=some n):∃y:an,FN x=some y/\y.Perm x/\y.Pairwise (·<=·):=by
 have key:∃y:an,iQ x 0 (x.length:Int)=some y/\y.Perm x/\y.Pairwise (·<=·):=by
  unfold iQ;rw[cY];cases x with
  |nil=>
   simp[aY,dN,cJ,j8,j6]
  |cons a r=>
   obtain⟨M,e,d,c⟩:=aYK (data:=a::r) aa r.length [a] r rfl ae ae (List.pairwise_singleton _ _);refine⟨M,?_,aj,c⟩;have b:loop (dN (a::r) 0 ((a::r).length:Int)) (a::r,(0:Int)+1)=some M:=e;rw[b,aI];simp only[j8,j6];have i:=d.length_eq;grind[cJ]
 obtain⟨y,e,d,c⟩:=key;obtain⟨n,f⟩:=g;refine⟨y,?_,d,c⟩;unfold FN pR;rw[f,aI,aY (r:=y) (by
  simp only[xI];rw[cY,cO,e];rfl),aI]
 rfl
def bQ9(n:Nat):Bool:=(EA (IntKind.u64.wrap (n:Int))).isSome
def bG8:(List.range 13).all bQ9=true:=by kernel_rfl
theorem a61(n:Nat)(h:n<=12):∃m,EA (IntKind.u64.wrap (n:Int))=some m:=aM2.1 (aF4.1 bG8 n (List.mem_range.2 aa))
def a3X(h:l.Pairwise (·<=·)):(H4 l).Pairwise (· < ·)/\∀a,a∈H4 l↔a∈l:=by
 obtain⟨n,f⟩:∃n,l.length=n:=⟨_,rfl⟩
 revert l
 induction n with
 |zero=>intro l h f;obtain rfl:l=[]:=vB f;exact⟨.nil,λa=>Iff.rfl⟩
 |succ n p=>
 intro l h f;obtain⟨l,x,rfl⟩:∃L z,l=L++[z]:=by
  obtain c|⟨L,z,c⟩:=aCH l
  .rw[c] at f;cases f
  .exact⟨L,z,by rw[c,aMW]⟩
 rw[List.pairwise_append] at h;obtain⟨i,j⟩:=p h.1 aj;rw[aLG];split
 .grind
 .rename_i q;refine⟨List.pairwise_append.2 ⟨i,List.pairwise_singleton _ _,λa g b k=>?_⟩,λa=>aj⟩;simp at k;subst k;have o:a<=b:=h.2.2 a ((j a).1 g) b ae;by_cases e:a=b
  .subst e;exfalso;obtain⟨L,z,hz⟩:∃L z,H4 l=L++[z]:=by
    rcases aCH (H4 l) with c|⟨L,z,c⟩
    .rw[c] at g;cases g
    .exact⟨L,z,by rw[c,aMW]⟩
   rw[hz] at g q i;have m:z<=a:=h.2.2 z ((j z).1 aj) a ae;obtain d|d:=dR.1 g
   .have:=(List.pairwise_append.1 i).2.2 a d z ae;omega
   grind
  .omega
theorem dL(n a b:Int):bV n a b=some (decide (a<=n/\n<=b)):=by grind[bV,IV]
theorem cR(n a b:Int):bX n a b=some (decide (a<=n/\n<=b)):=by grind[bX,QF]
theorem map_take{β:Type}(f:O->β){l:List O}(h:k<l.length):(l.take (k+1)).map f=(l.take k).map f++[f l[k]]:=by grind[N5]
def jV(c:Int):Int:=if c=0 then 8 else if c=1 then 16 else if c=2 then 40 else 0
def bA(c:Int):Int:=if c=0 then 12 else if c=1 then 20 else if c=2 then 44 else 0
def cT(c:Int):Int:=if c=0 then 4 else if c=1 then 2 else if c=2 then 1 else 0
def oS(h:0<=c/\c<=2):c=0\/c=1\/c=2:=aa
theorem bG9(h:¬(0<=c/\c<=2)):jV c=0:=by unfold jV;omega
theorem aTX(h:¬(0<=c/\c<=2)):bA c=0:=by unfold bA;omega
theorem a04(h:¬(0<=c/\c<=2)):cT c=0:=by unfold cT;omega
def nZ(c:Int):0<=cT c/\cT c<=4:=by grind[cT]
def a62(c:Int):0<=bA c/\bA c<=44:=by grind[bA]
def kK:0<cT c↔0<=c/\c<=2:=by grind[cT]
def TD(c:Int):HR c=some (jV c):=by grind[HR,jV]
theorem lH(c:Int):l9 c=some (decide (0<=c/\c<=2)):=by simp[l9,dL]
theorem aD3(c:Int):HJ c=some (jV c):=by
 unfold HJ;rw[lH];by_cases h:0<=c/\c<=2
 .obtain rfl|rfl|rfl:=oS h<;>rfl
 grind[bG9]
def aMF(c:Int):EH c=some (bA c):=by
 unfold EH;rw[cR];by_cases h:0<=c/\c<=2
 .obtain rfl|rfl|rfl:=oS h<;>rfl
 grind[aTX]
def YN(c:Int):yJ c=some (bA c):=by
 unfold yJ;rw[lH];by_cases h:0<=c/\c<=2
 .obtain rfl|rfl|rfl:=oS h<;>rfl
 grind[aTX]
theorem jX(c:Int):nX c=some (cT c):=by
 unfold nX;rw[cR];by_cases h:0<=c/\c<=2
 .obtain rfl|rfl|rfl:=oS h<;>rfl
 grind[a04]
def GF(c:Int):qU c=some (cT c):=by
 unfold qU;rw[lH];by_cases h:0<=c/\c<=2
 .obtain rfl|rfl|rfl:=oS h<;>rfl
 grind[a04]
def aD4(s:Int):HQ s=some (if 0<=s/\s<=23 then s/4 else -1):=by grind[HQ,cR,cC]
def aBU(s:Int):CJ s=some (if 0<=s/\s<=23 then s % 4 else -1):=by grind[CJ,cR]
def jG(s c:Int):Int:=if(0<=s/\s<=23)/\s % 4<cT c then s/4*64+8+s % 4*bA c else -1
def aAD{i:Int}(b:0<=i)(a:i<cT c):0<=i*bA c/\i*bA c+bA c<=56:=by unfold cT at a;unfold bA;grind
def yT(s c:Int):AV s c=some (jG s c):=by
 unfold AV NO jG;rw[aD4,aBU,jX,aMF];by_cases h:0<=s/\s<=23
 .have m:=nZ c;have f:¬s/4<0:=aa
  have e:aZ (cT c-1)=cT c-1:=cY;by_cases a:s % 4<cT c
  .have n:=aAD aa a;have l:=a62 c;have d:0<=s % 4/\s % 4<=cT c-1:=aa
   have b:¬cT c-1<s % 4:=aa
   have k:aZ (s/4*64)=s/4*64:=cY;have j:aZ (s/4*64+8)=s/4*64+8:=cY;have i:aZ (s % 4*bA c)=s % 4*bA c:=cY;have g:aZ (s/4*64+8+s % 4*bA c)=s/4*64+8+s % 4*bA c:=cY;simp[h,f,e,a,d,b,cR,k,j,i,g]
  grind[cR]
 .simp[h]
def BQ(s:Int):vG s=some (decide (0<=s/\s<=23)):=by simp[vG,dL]
theorem E2(s c:Int):z8 s c=some (jG s c):=by
 unfold z8 D4 jG;rw[BQ,lH,GF,YN];by_cases h:0<=s/\s<=23
 .have a:=nZ c;rw[TB h.1,a3T h.1];grind[cT,cC,bA]
 .simp[h]
def ldF(l:an):Int:=l.foldl (λn x=>n*256+x) 0
def uQ(l:an):Prop:=∀x∈l,0<=x/\x<=255
instance (l:an):Decidable (uQ l):=by unfold uQ;infer_instance
theorem aTY(h:k<l.length):ldF (l.take (k+1))=ldF (l.take k)*256+l[k]:=by grind[ldF,N5]
def aYL(h:uQ l):∀k,k<=l.length->0<=ldF (l.take k)/\ldF (l.take k)<256 ^ k:=by
 intro k;induction k with
 |zero=>grind[ldF]
 |succ k a=>
  intro hk;have c:=a aa;have b:=h _ (cQ (show k<l.length by omega));grind[aTY]
def bRA(h:k<=6):(256:Int) ^ k<=281474976710656:=by have a:(256:Nat) ^ k<=256 ^ 6:=Nat.pow_le_pow_right aa h;grind
def ld(b:an)(at_ w:Nat):Int:=ldF ((b.drop at_).take w)
def a95{n:Int}(hk:k<=6)(h:0<=n/\n<256 ^ k)(a:0<=x/\x<=255):aZ (aZ (n*256)+x)=n*256+x/\aZ (aZ (256*n)+x)=n*256+x:=by have:=bRA hk;grind[cC]
def a63{b:an}{a:Nat}(h:a+w<=b.length):((b.drop a).take w).length=w:=ah
def aTZ{b:an}{a:Nat}(h:k<((b.drop a).take w).length)(c:a+k<b.length):((b.drop a).take w)[k]=b[a+k]:=ae
def a05{b:an}(d:uQ b)(a w:Nat):uQ ((b.drop a).take w):=λx c=>d x (XE (bDZ c))
def BR{b:an}(l:uQ b){a:Nat}(n:w<=7)(h:a+w<=b.length)(hl:b.length<=100000):vI b (a:Int) (w:Int)=some (ld b a w):=by
 unfold vI;have g:=a63 h;have d:=a05 l a w;have key:loop (AU b (a:Int) (w:Int)) (0,0)=some (ld b a w):=by
  refine eY (f:=AU b (a:Int) (w:Int)) w (λk=>(ldF (((b.drop a).take w).take k),(k:Int))) _ (λk hk=>?_) ?_
  .have e:=aYL d k aa;have c:k<((b.drop a).take w).length:=aa
   have j:=d _ (cQ c);have i:=a95 aa e j;rw[aTZ c aa] at i;have m:aZ ((a:Int)+k)=((a+k:Nat):Int):=by grind[cC]
   simp only[AU];rw[cO,m,RK];simp only[aI,i.1,aTY c,aTZ c (show a+k<b.length by omega)];grind[cC]
  grind[AU,ld]
 rw[key];rfl
def xY{b:an}(n:uQ b){a:Nat}(o:w<=7)(h:a+w<=b.length)(hl:b.length<=100000):qT b (a:Int) (w:Int)=some (ld b a w):=by
 unfold qT;have g:=a63 h;have d:=a05 n a w;have j:aZ ((a:Int)+w)=((a+w:Nat):Int):=by grind[cC]
 have i:(b.take (a+w)).drop a=(b.drop a).take w:=by rw[List.drop_take];congr 1;omega
 rw[WU];have key:loop (xD b (a:Int) (w:Int)) (0,0)=some (ld b a w):=by
  refine eY (f:=xD b (a:Int) (w:Int)) w (λk=>(ldF (((b.drop a).take w).take k),(k:Int))) _ (λk hk=>?_) ?_
  .have e:=aYL d k aa;have c:k<((b.drop a).take w).length:=aa
   have l:=d _ (cQ c);have m:=a95 aa e l;simp only[xD,j,H3,i];rw[cO,aS c];simp only[aI,m.2,aTY c];rw[cY (x:=(k:Int)+1)];rfl
  .have:((b.drop a).take w).take w=(b.drop a).take w:=aj
   simp only[xD,j,H3,i,this,ld];grind
 rw[key];rfl
def K2(hl:l.length<=maxLen)(f:Int->Bool):dQ l (λx=>some (f x))=some (l.any f):=by
 unfold dQ iW;have key:∀k:Nat,k<=l.length->loop (gU l (λx=>some (f x))) (k:Int)=some (if(l.drop k).any f then Out.ret ((k+(l.drop k).findIdx f:Nat):Int) else Out.brk ()):=by
  refine aZS l.length _ λk hk=>?_;by_cases a:k<l.length
  .have c:l.drop k=l[k]::l.drop (k+1):=vA a;simp only[gU];rw[cO,aS a,nT (R3 a hl),c];grind
  grind[gU]
 have b:loop (gU l (λx=>some (f x))) 0=_:=key 0 aa;rw[b];simp only[PW];by_cases h:l.any f=true
 .simp[h,tJ]
 grind[tJ,HK]
def BOk(b:an):Prop:=b.length<=1000/\uQ b
instance (b:an):Decidable (BOk b):=by unfold BOk;infer_instance
def aPM{b:an}(hl:b.length<=maxLen):Q1 b=some (decide (BOk b)):=by
 unfold Q1;have key:loop (qC b) 0=some (if ∀x∈b,0<=x/\x<=255 then Out.brk () else Out.ret false):=by
  refine m0 (f:=qC b) b (λk=>(k:Int)) (λx=>0<=x/\x<=255) _ _ (λk h a=>?_) (λk h a=>?_) ?_
  .simp only[qC];rw[cO,aS h,nT (R3 h hl)];simp[cR,a]
  .simp only[qC];rw[cO,aS h];simp only[aI,cR,a,decide_false,QC,bS]
  .simp[qC]
 rw[key];by_cases h:∀x∈b,0<=x/\x<=255
 .rw[aM h];have:BOk b↔b.length<=1000:=⟨λq=>q.1,λq=>⟨q,h⟩⟩;simp only[aI,PE,aBH,this];grind
 .rw[aO h];have:¬BOk b:=λq=>h q.2;grind[PE]
def aE3{p:O->Prop}[DecidablePred p](l:List O):(l.any λx=>!decide (p x))=!decide (∀x∈l,p x):=aj
def aPN{b:an}(hl:b.length<=maxLen):QM b=some (decide (BOk b)):=by
 unfold QM FI;have e:(λa=>I8 a)=λy:Int=>some (!decide (0<=y/\y<=255)):=by grind[I8,aCU,dL]
 rw[e,K2 hl,aE3];by_cases h:b.length<=1000
 .have:BOk b↔∀x∈b,0<=x/\x<=255:=⟨λq=>q.2,λq=>⟨h,q⟩⟩;grind
 grind[BOk]
def gC(h:Heap):Prop:=h.Bytes.length=384/\h.Class.length=6/\uQ h.Bytes/\∀c∈h.Class,-1<=c/\c<=2
instance (h:Heap):Decidable (gC h):=by unfold gC;infer_instance
def aPO(hl:h.Bytes.length<=maxLen):RB h=some (decide (gC h)):=by
 unfold RB xM;by_cases i:h.Bytes.length=384
 .by_cases g:h.Class.length=6
  .rw[aPM hl];have d:((h.Bytes.length:Int) != 384)=false:=ah
   have c:((h.Class.length:Int) != 6)=false:=ah
   simp only[d,c,bQ,bN,aI];by_cases b:uQ h.Bytes
   .have b1:BOk h.Bytes:=⟨aa,b⟩;have key:loop (qD h) 0=some (if ∀x∈h.Class,-1<=x/\x<=2 then Out.brk () else Out.ret false):=by
     refine m0 (f:=qD h) h.Class (λk=>(k:Int)) (λx=>-1<=x/\x<=2) _ _ (λk h e=>?_) (λk h e=>?_) ?_
     .simp only[qD];rw[cO,aS h,cY];grind[cR]
     .simp only[qD];rw[cO,aS h];grind[cR]
     grind[qD]
    rw[key];have:gC h↔∀x∈h.Class,-1<=x/\x<=2:=⟨λq=>q.2.2.2,λq=>⟨i,g,b,q⟩⟩;simp only[b1,decide_true,jI,bQ,bN,this];by_cases a:∀x∈h.Class,-1<=x/\x<=2
    .rw[aM a,bY a];rfl
    .rw[aO a,eQ a];rfl
   grind[BOk,gC]
  grind[gC]
 grind[gC]
def TE(hl:h.Bytes.length<=maxLen):OA h=some (decide (gC h)):=by
 unfold OA tK;by_cases g:h.Bytes.length=384
 .have d:((h.Bytes.length:Int) == 384)=true:=ah
  rw[aPN hl];by_cases b:uQ h.Bytes
  .have b1:BOk h.Bytes:=⟨aa,b⟩;by_cases f:h.Class.length=6
   .have c:((h.Class.length:Int) == 6)=true:=ah
    have e:(λa=>M4 a)=λy:Int=>some (!decide (-1<=y/\y<=2)):=by grind[M4,dL]
    rw[e,K2 aa,aE3];grind[gC]
   grind[gC]
  grind[BOk,gC]
 grind[gC]
def gY(h:Heap)(p:Nat):an:=(h.Bytes.drop (p*64)).take 64
def cH(h:Heap)(p:Nat):Int:=h.Class.getD p 0
def pS(h:Heap)(p:Nat):Prop:=
 if cH h p<0 then ∀x∈gY h p,x=0
 else((gY h p).getD 0 0=171/\(gY h p).getD 1 0=cH h p/\(gY h p).getD 2 0=cT (cH h p))/\(∀x∈((gY h p).drop 3).take 5,x=0)/\∀i,i<(cT (cH h p)).toNat->1<=ld h.Bytes (p*64+8+i*(bA (cH h p)).toNat) 4/\ld h.Bytes (p*64+8+i*(bA (cH h p)).toNat) 4<=7
instance (h:Heap) (p:Nat):Decidable (pS h p):=by unfold pS;infer_instance
section
variable {h:Heap} (hs:gC h) {p:Nat} (hp:p<6)
include hs hp
theorem YO:(gY h p).length=64:=a63 (by have:=hs.1;omega)
theorem aD5(hk:k<64):h.Bytes[p*64+k]'(by have:=hs.1;omega)=(gY h p)[k]'(by grind[YO]):=(aTZ (show k<((h.Bytes.drop (p*64)).take 64).length by have:=YO hs hp;grind[gY]) _).symm
theorem aYM(hk:k<64):h.Bytes[p*64+k]'(by have:=hs.1;omega)=(gY h p).getD k 0:=by grind[aD5]
theorem aE4:h.Class[p]'(by have:=hs.2.1;omega)=cH h p:=by grind[cH]
theorem aQL:idx h.Class (p:Int)=some (cH h p):=by rw[aS (by have:=hs.2.1;omega),aE4 hs hp]
theorem aT0(hk:k<64):idx h.Bytes (((p*64+k:Nat)):Int)=some ((gY h p).getD k 0):=by rw[aS (by have:=hs.1;omega),aYM hs hp hk]
theorem bB7:uQ (gY h p):=a05 hs.2.2.1 _ _
theorem uR(hc:cH h p=c){i:Nat}(a:i<(cT c).toNat):(8+i*(bA c).toNat)+4<=64/\0<=(i:Int)*bA c/\((8+i*(bA c).toNat:Nat):Int)=8+(i:Int)*bA c:=by grind[cT,bA]
theorem bHB{i:Nat}(b:i<(cT (cH h p)).toNat):jG ((p:Int)*4+i) (cH h p)=((p*64+(8+i*(bA (cH h p)).toNat):Nat):Int):=by have hz:=uR hs hp rfl b;have a:=nZ (cH h p);unfold jG;grind
theorem aD6:U3 h (p:Int)=some (decide (pS h p)):=by
 have G:=hs.1;have hl:=YO hs hp;have d:aZ ((p:Int)*64)=((p*64+0:Nat):Int):=by grind[cC]
 have D:aZ (((p*64+0:Nat):Int)+1)=((p*64+1:Nat):Int):=by grind[cC]
 have C:aZ (((p*64+0:Nat):Int)+2)=((p*64+2:Nat):Int):=by grind[cC]
 have B:aZ (((p*64+0:Nat):Int)+3)=((p*64+3:Nat):Int):=by grind[cC]
 have o:aZ (((p*64+0:Nat):Int)+8)=((p*64+8:Nat):Int):=by grind[cC]
 have j:aZ (((p*64+0:Nat):Int)+64)=((p*64+64:Nat):Int):=by grind[cC]
 unfold U3;rw[aQL hs hp];simp only[aI];by_cases hc:cH h p<0
 .simp only[hc,decide_true,bS,d];have key:loop (uB h (p:Int)) (((p*64+0:Nat)):Int)=some (if ∀x∈gY h p,x=0 then Out.brk () else Out.ret false):=by
   refine m0 (f:=uB h (p:Int)) (gY h p) (λk=>((p*64+k:Nat):Int)) (λx=>x=0) _ _ (λk hk c=>?_) (λk hk c=>?_) ?_
   .simp only[uB,d,j];rw[cO,RK,aD5 hs hp aa,cY];grind
   .simp only[uB,d,j];rw[cO,RK,aD5 hs hp aa];grind
   simp_all[uB]
  rw[key];have e:pS h p↔∀x∈gY h p,x=0:=by simp_all[pS]
  by_cases b:∀x∈gY h p,x=0
  .rw[aM b,bY (e.2 b)];rfl
  .rw[aO b,eQ (λq=>b (e.1 q))];rfl
 .have e:pS h p↔((gY h p).getD 0 0=171/\(gY h p).getD 1 0=cH h p/\(gY h p).getD 2 0=cT (cH h p))/\(∀x∈((gY h p).drop 3).take 5,x=0)/\∀i,i<(cT (cH h p)).toNat->1<=ld h.Bytes (p*64+8+i*(bA (cH h p)).toNat) 4/\ld h.Bytes (p*64+8+i*(bA (cH h p)).toNat) 4<=7:=by simp_all[pS,aO]
  simp only[hc,decide_false,bQ,bN,d,D,C,aT0 hs hp (show 0<64 by omega),aT0 hs hp (show 1<64 by omega),aT0 hs hp (show 2<64 by omega),aI,jX];by_cases a0:(gY h p).getD 0 0=171
  .by_cases F:(gY h p).getD 1 0=cH h p
   .by_cases E:(gY h p).getD 2 0=cT (cH h p)
    .have y:((gY h p).getD 0 0 != 171)=false:=aj
     have v:((gY h p).getD 1 0 != cH h p)=false:=aj
     have u:((gY h p).getD 2 0 != cT (cH h p))=false:=aj
     simp only[y,v,u,bQ,bN,mM,d,B];have s:(((gY h p).drop 3).take 5).length=5:=by simp[hl]
     have key:loop (uD h (p:Int)) (((p*64+3:Nat)):Int)=some (if ∀x∈((gY h p).drop 3).take 5,x=0 then Out.brk () else Out.ret false):=by
      refine m0 (f:=uD h (p:Int)) (((gY h p).drop 3).take 5) (λk=>((p*64+(3+k):Nat):Int)) (λx=>x=0) _ _ (λk hk c=>?_) (λk hk c=>?_) ?_
      .simp only[uD,d,o];rw[cO,RK,aD5 hs hp aa,cY,<-aTZ hk aa,c];simp;omega
      .simp only[uD,d,o];rw[cO,RK,aD5 hs hp aa,<-aTZ hk aa];grind
      simp_all[uD]
     rw[key];by_cases b:∀x∈((gY h p).drop 3).take 5,x=0
     .rw[aM b];simp only[aI,aC8,aC7];have g:loop (uC h (p:Int) (cH h p)) 0=some (if ∀i,i<(cT (cH h p)).toNat->1<=ld h.Bytes (p*64+8+i*(bA (cH h p)).toNat) 4/\ld h.Bytes (p*64+8+i*(bA (cH h p)).toNat) 4<=7 then Out.brk () else Out.ret false):=by
       have r:=nZ (cH h p);have m:∀k:Nat,k<(cT (cH h p)).toNat->uC h (p:Int) (cH h p) (k:Int)=if 1<=ld h.Bytes (p*64+8+k*(bA (cH h p)).toNat) 4/\ld h.Bytes (p*64+8+k*(bA (cH h p)).toNat) 4<=7 then some (.next ((k+1:Nat):Int)) else some (.stop (Out.ret false)):=by
        intro k hk;have hz:=uR hs hp rfl hk;have t:vJ (p:Int) (k:Int)=some ((p:Int)*4+k):=by
         unfold vJ AW;rw[cR,cR];have A:(0:Int)<=p/\(p:Int)<=5:=aa
         have z:(0:Int)<=k/\(k:Int)<=3:=aa
         simp only[aI,A,z,and_self,decide_true,jI,bQ,bN];grind[cC]
        have n:=BR hs.2.2.1 (a:=p*64+(8+k*(bA (cH h p)).toNat)) (w:=4) aa aa aa;simp only[uC,jX,aI];rw[cO,t];simp only[aI,yT,bHB hs hp hk];rw[show((4:Nat):Int)=4 from rfl] at n;rw[n,HE,cY (x:=(k:Int)+1)];simp only[aI,cR];grind
       refine BP (f:=uC h (p:Int) (cH h p)) (cT (cH h p)).toNat (λk=>(k:Int)) (λi=>1<=ld h.Bytes (p*64+8+i*(bA (cH h p)).toNat) 4/\ld h.Bytes (p*64+8+i*(bA (cH h p)).toNat) 4<=7) _ _ (λk hk c=>?_) (λk hk c=>?_) ?_
       .grind
       .rw[m k hk,aO c]
       .simp only[uC,jX,aI];rw[T8]
      rw[g];by_cases l:∀i,i<(cT (cH h p)).toNat->1<=ld h.Bytes (p*64+8+i*(bA (cH h p)).toNat) 4/\ld h.Bytes (p*64+8+i*(bA (cH h p)).toNat) 4<=7
      .rw[aM l,bY (e.2 ⟨⟨a0,F,E⟩,b,l⟩)];rfl
      .rw[aO l,eQ (λq=>l (e.1 q).2.2)];rfl
     .rw[aO b,eQ (λq=>b (e.1 q).2.1)];rfl
    simp_all[mM]
   simp_all[mM]
  simp_all[mM]
end
def aD7(hl:l.length<=maxLen):OB l=some (decide (∀x∈l,x=0)):=by
 unfold OB;have e:(λa=>M5 a)=λy:Int=>some (!decide (y=0)):=by grind[M5]
 simp_all[K2,aE3]
section
variable {h:Heap} (hs:gC h) {p:Nat} (hp:p<6)
include hs hp
theorem bOV:(h.Bytes.take ((p+1)*64)).drop (p*64)=gY h p:=by grind[gY,List.drop_take]
theorem bMD{a:Nat}(b:a+4<=64):ld (gY h p) a 4=ld h.Bytes (p*64+a) 4:=by grind[ld,gY,List.drop_take,List.drop_drop]
theorem a64(hk:k<64):idx (gY h p) (k:Int)=some ((gY h p).getD k 0):=by grind[YO,aS]
theorem aD8:US h (p:Int)=some (decide (pS h p)):=by
 have E:=hs.1;have hl:=YO hs hp;have D:(gY h p).length<=maxLen:=by grind[maxLen]
 have t:aZ ((p:Int)*64)=((p*64:Nat):Int):=by grind[cC]
 have s:aZ (aZ ((p:Int)+1)*64)=(((p+1)*64:Nat):Int):=by grind[cC]
 have n:=a64 hs hp (show 0<64 by omega);have m:=a64 hs hp (show 1<64 by omega);have l:=a64 hs hp (show 2<64 by omega);rw[show((0:Nat):Int)=0 from rfl] at n;rw[show((1:Nat):Int)=1 from rfl] at m;rw[show((2:Nat):Int)=2 from rfl] at l;unfold US;rw[aQL hs hp];simp only[aI,t,s,H3,bOV hs hp];rw[WU];by_cases hc:cH h p<0
 .simp_all[pS,aD7]
 .have o:pS h p↔((gY h p).getD 0 0=171/\(gY h p).getD 1 0=cH h p/\(gY h p).getD 2 0=cT (cH h p))/\(∀x∈((gY h p).drop 3).take 5,x=0)/\∀i,i<(cT (cH h p)).toNat->1<=ld h.Bytes (p*64+8+i*(bA (cH h p)).toNat) 4/\ld h.Bytes (p*64+8+i*(bA (cH h p)).toNat) 4<=7:=by simp_all[pS,aO]
  simp only[hc,decide_false,bQ,bN,n,m,l,aI,GF];by_cases a0:(gY h p).getD 0 0=171
  .by_cases C:(gY h p).getD 1 0=cH h p
   .by_cases B:(gY h p).getD 2 0=cT (cH h p)
    .have g:((gY h p).getD 0 0 != 171)=false:=aj
     have e:((gY h p).getD 1 0 != cH h p)=false:=aj
     have d:((gY h p).getD 2 0 != cT (cH h p))=false:=aj
     have y:((gY h p).take (8:Int).toNat).drop (3:Int).toNat=((gY h p).drop 3).take 5:=by grind[List.drop_take]
     simp only[g,e,d,bQ,bN,kS,y];rw[WU,aD7 aj];by_cases r:∀x∈((gY h p).drop 3).take 5,x=0
     .simp only[bY r,aI,jI,bQ,bN,GF];have b:loop (tL h (p:Int) (cH h p) (cT (cH h p))) 0=some (if ∀i,i<(cT (cH h p)).toNat->1<=ld h.Bytes (p*64+8+i*(bA (cH h p)).toNat) 4/\ld h.Bytes (p*64+8+i*(bA (cH h p)).toNat) 4<=7 then Out.brk () else Out.ret false):=by
       have v:=nZ (cH h p);have u:∀k:Nat,k<(cT (cH h p)).toNat->tL h (p:Int) (cH h p) (cT (cH h p)) (k:Int)=if 1<=ld h.Bytes (p*64+8+k*(bA (cH h p)).toNat) 4/\ld h.Bytes (p*64+8+k*(bA (cH h p)).toNat) 4<=7 then some (.next ((k+1:Nat):Int)) else some (.stop (Out.ret false)):=by
        intro k hk;have hz:=uR hs hp rfl hk;have A:aZ (8+aZ ((k:Int)*bA (cH h p)))=((8+k*(bA (cH h p)).toNat:Nat):Int):=by grind[cC]
        have j:=xY (bB7 hs hp) (a:=8+k*(bA (cH h p)).toNat) (w:=4) aa aa aa;rw[show((4:Nat):Int)=4 from rfl,bMD hs hp aa] at j;simp only[tL,YN,aI,t,s,H3,bOV hs hp,A];rw[cO,j,HE,cY (x:=(k:Int)+1)];simp only[aI,dL];grind
       refine BP (f:=tL h (p:Int) (cH h p) (cT (cH h p))) (cT (cH h p)).toNat (λk=>(k:Int)) (λi=>1<=ld h.Bytes (p*64+8+i*(bA (cH h p)).toNat) 4/\ld h.Bytes (p*64+8+i*(bA (cH h p)).toNat) 4<=7) _ _ (λk hk z=>?_) (λk hk z=>?_) ?_
       .grind
       .simp_all
       .simp only[tL];rw[T8]
      rw[b];by_cases c:∀i,i<(cT (cH h p)).toNat->1<=ld h.Bytes (p*64+8+i*(bA (cH h p)).toNat) 4/\ld h.Bytes (p*64+8+i*(bA (cH h p)).toNat) 4<=7
      .rw[aM c,bY (o.2 ⟨⟨a0,C,B⟩,r,c⟩)];rfl
      .rw[aO c,eQ (λq=>c (o.1 q).2.2)];rfl
     grind
    .have g:((gY h p).getD 0 0 != 171)=false:=aj
     have e:((gY h p).getD 1 0 != cH h p)=false:=aj
     have d:((gY h p).getD 2 0 != cT (cH h p))=true:=aj
     simp_all[kS]
   simp_all[kS]
  simp_all[kS]
end
instance (h:Heap):Decidable (∀p,p<6->pS h p):=Nat.decidableBallLT 6 λp _=>pS h p
def HOk(h:Heap):Prop:=gC h/\∀p,p<6->pS h p
instance (h:Heap):Decidable (HOk h):=by unfold HOk;infer_instance
def aT1(hl:h.Bytes.length<=maxLen):U4 h=some (decide (HOk h)):=by
 unfold U4;rw[aPO hl];by_cases a:gC h
 .have key:loop (AX h) 0=some (if ∀p,p<6->pS h p then Out.brk () else Out.ret false):=by
   refine BP (f:=AX h) 6 (λk=>(k:Int)) (λp=>pS h p) _ _ (λk hk c=>?_) (λk hk c=>?_) ?_
   .simp only[AX];rw[cO,aD6 a hk,cY,bY c];rfl
   .simp only[AX];rw[cO,aD6 a hk,eQ c];rfl
   .rfl
  simp only[aI,bY a,jI,bQ,bN];rw[key];by_cases b:∀p,p<6->pS h p
  .rw[aM b,bY (show HOk h from⟨a,b⟩)];rfl
  .rw[aO b,eQ (λq:HOk h=>b q.2)];rfl
 grind[HOk]
def TF(hl:h.Bytes.length<=maxLen):OC h=some (decide (HOk h)):=by
 unfold OC;rw[TE hl];by_cases a:gC h
 .have key:loop (z7 h) 0=some (if ∀p,p<6->pS h p then Out.brk () else Out.ret false):=by
   refine BP (f:=z7 h) 6 (λk=>(k:Int)) (λp=>pS h p) _ _ (λk hk c=>?_) (λk hk c=>?_) ?_
   .simp only[z7];rw[cO,aD8 a hk,cY,bY c];rfl
   .simp only[z7];rw[cO,aD8 a hk,eQ c];rfl
   .rfl
  simp only[aI,bY a,jI,bQ,bN];rw[key];by_cases b:∀p,p<6->pS h p
  .rw[aM b,bY (show HOk h from⟨a,b⟩)];rfl
  .rw[aO b,eQ (λq:HOk h=>b q.2)];rfl
 grind[HOk]
def bO(h:Heap)(s:Int):Int:=if(0<=s/\s<=23)/\s % 4<cT (cH h (s/4).toNat) then cH h (s/4).toNat else -1
def sZ(hc:0<=bO h s):(0<=s/\s<=23)/\s % 4<cT (cH h (s/4).toNat)/\bO h s=cH h (s/4).toNat:=by unfold bO at hc ⊢;omega
theorem nD(c:gC h)(s:Int):nY h s=some (bO h s):=by
 unfold nY xN bO;rw[aD4,aBU];by_cases a:0<=s/\s<=23
 .obtain⟨k,rfl⟩:=bJ9 a.1;have hk:k/4<6:=aa
  have e:((k:Int)/4)=((k/4:Nat):Int):=aa
  have d:=aQL c hk;have b:¬((k/4:Nat):Int)<0:=aa
  simp only[a,and_self,bS,aI,e,b,decide_false,bQ,bN,d,H3,true_and];grind[a04,jX]
 .simp[a]
theorem lI(b:gC h)(s:Int):mA h s=some (bO h s):=by
 unfold mA FJ bO;rw[BQ];by_cases a:0<=s/\s<=23
 .obtain⟨k,rfl⟩:=bJ9 a.1;have hk:k/4<6:=aa
  have g:((k:Int)/4)=((k/4:Nat):Int):=aa
  have d:=aQL b hk;have f:aZ (Int.tdiv (k:Int) 4)=((k/4:Nat):Int):=by grind[cC]
  simp only[a,and_self,decide_true,jI,bQ,bS,aI,g,f,bN,d,H3,true_and,E2];by_cases e:(k:Int) % 4<cT (cH h (k/4))
  .have i:=aAD (c:=cH h (k/4)) aa e;have j:¬jG (k:Int) (cH h (k/4))<0:=by unfold jG;omega
   grind
  simp_all[jG,aO]
 .simp[a]
def kL(h:Heap)(s:Int):Int:=ld h.Bytes (jG s (bO h s)).toNat 4
def aAE(hc:0<=bO h s):0<=jG s (bO h s)/\jG s (bO h s)+4<=384:=by
 obtain⟨g,d,b⟩:=sZ hc;rw[b];have f:=aAD (c:=cH h (s/4).toNat) aa d;have a:0<bA (cH h (s/4).toNat):=by have:0<=cH h (s/4).toNat/\cH h (s/4).toNat<=2:=kK.1 aa;obtain e|e|e:=oS this<;>rw[e]<;>decide
 have:4<=bA (cH h (s/4).toNat):=by have:0<=cH h (s/4).toNat/\cH h (s/4).toNat<=2:=kK.1 aa;obtain e|e|e:=oS this<;>rw[e]<;>decide
 unfold jG;omega
theorem sE(b:gC h)(hc:0<=bO h s):AY h s=some (kL h s):=by have d:=aAE hc;unfold AY;rw[nD b];simp only[aI,yT];have c:=BR b.2.2.1 (a:=(jG s (bO h s)).toNat) (w:=4) aa (by have:=b.1;omega) (by have:=b.1;omega);rw[show((4:Nat):Int)=4 from rfl,Int.toNat_of_nonneg d.1] at c;rw[c];rfl
theorem N3(b:gC h)(hc:0<=bO h s):GQ h s=some (kL h s):=by
 have e:=aAE hc;have c:h.Bytes.length<=maxLen:=by rw[b.1];simp[maxLen]
 unfold GQ JA;rw[TE c,lI b];have d:=xY b.2.2.1 (a:=(jG s (bO h s)).toNat) (w:=4) aa (by have:=b.1;omega) (by have:=b.1;omega);grind[E2,kL]
def fT(l:bf):an:=l.flatMap bK.aW
def eN(l:aC):an:=fT l.Global++fT l.Own
def LOk(l:aC):Prop:=l.Global.length=3/\l.Own.length=9/\(∀s∈l.Own,s.aW.length<=2)/\(∀x∈eN l,0<=x/\x<=23)/\(eN l).Nodup
instance (l:aC):Decidable (LOk l):=by unfold LOk;infer_instance
theorem YP{l:bf}(h:k<l.length):fT (l.take (k+1))=fT (l.take k)++l[k].aW:=by grind[fT,N5]
def a06(l:bf)(k:Nat):(fT (l.take k)).length<=(fT l).length:=by grind[fT,aGA]
theorem aT2(l:bf)(h:k<l.length):l[k].aW.length<=(fT l).length:=by have a:=a06 l (k+1);grind[YP]
theorem aG2{l:aC}(h:(eN l).length<=1073741824)(e:l.Global.length<=maxLen)(ho:l.Own.length<=maxLen):SP l=some (eN l):=by
 have b:(fT l.Global).length+(fT l.Own).length<=1073741824:=by grind[eN]
 unfold SP;have d:loop (EJ l) ([],0)=some (fT l.Global):=by
  refine eY (f:=EJ l) l.Global.length (λk=>(fT (l.Global.take k),(k:Int))) _ (λk hk=>?_) ?_
  .have a:=a06 l.Global (k+1);rw[YP hk] at a;simp only[EJ];rw[cO,aS hk];grind[cJ,YP,nT]
  grind[EJ]
 rw[d];simp only[aI,aGG,aGF];have c:loop (EI l) (fT l.Global,0)=some (eN l):=by
  have:=eY (f:=EI l) l.Own.length (λk=>(fT l.Global++fT (l.Own.take k),(k:Int))) (eN l) (λk hk=>?_) ?_
  .grind[fT]
  .have a:=a06 l.Own (k+1);rw[YP hk] at a;simp only[EI];rw[cO,aS hk];grind[cJ,YP,nT]
  grind[EI,eN]
 rw[c];rfl
theorem yU(hl:l.length<=maxLen)(x:Int):wF l x=some (decide (x∈l)):=by
 unfold wF;have key:loop (yO l x) 0=some (if ∀y∈l,y≠x then Out.brk () else Out.ret true):=by
  refine m0 (f:=yO l x) l (λk=>(k:Int)) (λy=>y≠x) _ _ (λk h a=>?_) (λk h a=>?_) ?_
  .simp only[yO];rw[cO,aS h,nT (R3 h hl)];have:(l[k] == x)=false:=by simpa using a
   simp only[aI,this,bQ,bN]
  .simp only[yO];rw[cO,aS h];have:(l[k] == x)=true:=by simpa using a
   simp only[aI,this,bS]
  .simp[yO]
 rw[key];by_cases h:x∈l
 .rw[aO (λq=>q x h rfl),bY h];rfl
 .rw[aM (λy b (e:y=x)=>h (e ▸ b)),eQ h];rfl
theorem MO(l:an):l.Nodup↔∀k (h:k<l.length),l[k]∉l.take k:=by grind[aX1,List.mem_take_iff_getElem]
def aPP{l:aC}(h:(eN l).length<=1073741824):RC l=some (decide (LOk l)):=by
 unfold RC FY;by_cases m:l.Global.length=3
 .by_cases ho:l.Own.length=9
  .have i:((l.Global.length:Int) != 3)=false:=ah
   have j:((l.Own.length:Int) != 9)=false:=ah
   simp only[i,j,bQ,bN];have p:loop (qG l) 0=some (if ∀s∈l.Own,s.aW.length<=2 then Out.brk () else Out.ret false):=by
    refine m0 (f:=qG l) l.Own (λk=>(k:Int)) (λs=>s.aW.length<=2) _ _ (λk hk r=>?_) (λk hk r=>?_) ?_
    .simp only[qG];rw[cO,aS hk,cY];simp only[aI];rw[T8];rfl
    .simp only[qG];rw[cO,aS hk];simp only[aI];rw[cO]
    .simp[qG]
   rw[p];by_cases g:∀s∈l.Own,s.aW.length<=2
   .rw[aM g];simp only[aI,aBJ,aBI];rw[aG2 h (by rw[m];simp[maxLen]) (by rw[ho];simp[maxLen])];simp only[aI];have o:loop (qE (eN l)) 0=some (if ∀k,k<(eN l).length->(0<=(eN l).getD k 0/\(eN l).getD k 0<=23)/\(eN l).getD k 0∉(eN l).take k then Out.brk () else Out.ret false):=by
     have c:∀k,k<(eN l).length->qE (eN l) (k:Int)=if(0<=(eN l).getD k 0/\(eN l).getD k 0<=23)/\(eN l).getD k 0∉(eN l).take k then some (.next ((k+1:Nat):Int)) else some (.stop (Out.ret false)):=by
      intro k hk;have e:(eN l).getD k 0=(eN l)[k]:=by rw[DY,iS hk];rfl
      rw[e];simp only[qE];rw[cO,aS hk];simp only[aI,cR,FX];by_cases q:0<=(eN l)[k]/\(eN l)[k]<=23
      .rw[bY q];simp only[jI,bQ,bN,H3,PW];rw[WU,yU (by simp[maxLen];omega),cY];by_cases b:(eN l)[k]∈(eN l).take k
       .rw[aO (λx=>x.2 b),bY b];rfl
       .rw[aM ⟨q,b⟩,eQ b];rfl
      .rw[eQ q];simp only[QC,bS];rw[aO (λx=>q x.1)]
     refine BP (f:=qE (eN l)) (eN l).length (λk=>(k:Int)) (λk=>(0<=(eN l).getD k 0/\(eN l).getD k 0<=23)/\(eN l).getD k 0∉(eN l).take k) _ _ (λk hk d=>?_) (λk hk d=>?_) ?_
     .rw[c k hk,aM d]
     .rw[c k hk,aO d]
     .simp[qE]
    rw[o];have a:LOk l↔∀k,k<(eN l).length->(0<=(eN l).getD k 0/\(eN l).getD k 0<=23)/\(eN l).getD k 0∉(eN l).take k:=by
     have e:∀k (hk:k<(eN l).length),(eN l).getD k 0=(eN l)[k]:=λk hk=>aj
     constructor
     .rintro⟨_,_,_,n,b⟩ k hk;rw[e k hk];exact⟨n _ (cQ hk),(MO _).1 b k hk⟩
     .intro q;refine⟨m,ho,g,λx d=>?_,(MO _).2 λk hk=>?_⟩
      .obtain⟨k,hk,rfl⟩:=aF8.1 d;have:=(q k hk).1;rw[e k hk] at this;exact this
      .have:=(q k hk).2;rw[e k hk] at this;exact this
    by_cases q:LOk l
    .rw[aM (a.1 q),bY q];rfl
    .rw[aO (λx=>q (a.2 x)),eQ q];rfl
   .rw[aO g,eQ (λq:LOk l=>g q.2.2.1)];rfl
  .have i:((l.Global.length:Int) != 3)=false:=ah
   have j:((l.Own.length:Int) != 9)=true:=ah
   simp_all[LOk]
 .have i:((l.Global.length:Int) != 3)=true:=ah
  simp_all[LOk]
def E3:aF->an->Option aF
 |met,[]=>some met
 |met,x::r=>if(0<=x/\x<=23)/\met.getD x.toNat true=false then E3 (met.set x.toNat true) r else none
theorem aYN:∀{xs:an} {met m:aF},E3 met xs=some m->m.length=met.length
 |[],met,m,h=>by grind[E3]
 |x::r,met,m,h=>by
  simp only[E3] at h;split at h
  .have:=aYN h;grind
  .cases h
def aKE:∀(a b:an) (met:aF),E3 met (a++b)=(E3 met a).bind λm=>E3 m b
 |[],b,met=>rfl
 |x::r,b,met=>by
  simp only[H6,E3];split
  .exact aKE r b _
  .rfl
def aH8:∀(xs:an) (met:aF),met.length=24->((E3 met xs).isSome=true↔(∀x∈xs,0<=x/\x<=23)/\xs.Nodup/\∀x∈xs,met.getD x.toNat true=false)
 |[],met,hm=>by simp[E3]
 |x::r,met,hm=>by
  simp only[E3];by_cases h:(0<=x/\x<=23)/\met.getD x.toNat true=false
  .rw[aM h,aH8 r _ aj];grind
  grind
def a07:Option aF->Out aF Bool
 |some m=>.brk m
 |none=>.ret false
def bTY{s:bK}(hl:s.aW.length<=maxLen):∀d k (met:aF),k+d=s.aW.length->met.length=24->loop (xB s) ((k:Int),met)=some (a07 (E3 met (s.aW.drop k))):=by
 intro d;induction d with
 |zero=>
  intro k met hk c;rw[aY (r:=Out.brk met) (by grind[xB]),aII aa];rfl
 |succ d h=>
  intro k met hk c;have b:k<s.aW.length:=aa
  have g:s.aW.drop k=s.aW[k]::s.aW.drop (k+1):=vA b;have a:xB s ((k:Int),met)=if(0<=s.aW[k]/\s.aW[k]<=23)/\met.getD s.aW[k].toNat true=false then some (.next (((k+1:Nat):Int),met.set s.aW[k].toNat true)) else some (.stop (Out.ret false)):=by
   simp only[xB];rw[cO,aS b];simp only[aI,BQ];generalize s.aW[k]=x;by_cases q:0<=x/\x<=23
   .obtain⟨j,rfl⟩:=bJ9 q.1;have f:j<met.length:=aa
    have e:met.getD j true=met[j]:=aj
    simp only[q,and_self,decide_true,jI,bQ,bN,xA,H3,true_and,e];rw[WU,aS f];simp only[aI];cases met[j]
    .simp only[bQ,bN,bS];grind[cJ,nT]
    .simp
   .rw[eQ q];simp only[QC,bS,xA];grind
  rw[g,E3];by_cases q:(0<=s.aW[k]/\s.aW[k]<=23)/\met.getD s.aW[k].toNat true=false
  .rw[aM q] at a ⊢;grind[bJ]
  .rw[aO q] at a ⊢;rw[aY a];rfl
def aNE(l:bf):Prop:=∀s∈l,s.aW.length<=2
instance (l:bf):Decidable (aNE l):=by unfold aNE;infer_instance
def bTZ{l:aC}(ho:l.Own.length=9)(hn:(l.Own++l.Global).length<=1000)(p:∀s∈l.Own++l.Global,s.aW.length<=maxLen):∀d k (met:aF),k+d=(l.Own++l.Global).length->met.length=24 ->
  loop (xC l) ((k:Int),met)=some (if aNE (((l.Own++l.Global).drop k).take (9-k))/\(E3 met (fT ((l.Own++l.Global).drop k))).isSome=true then Out.brk () else Out.ret false):=by
 intro d;induction d with
 |zero=>
  intro k met hk i;rw[aII aa,aM ⟨by simp[aNE],rfl⟩];simp_all[aY,xC]
 |succ d o=>
  intro k met hk i;have c:k<(l.Own++l.Global).length:=aa
  have u:(l.Own++l.Global).drop k=(l.Own++l.Global)[k]::(l.Own++l.Global).drop (k+1):=vA c;have g:=p _ (cQ c);have t:fT ((l.Own++l.Global).drop k)=(l.Own++l.Global)[k].aW++fT ((l.Own++l.Global).drop (k+1)):=by grind[fT]
  have h:∀b:Bool,qA (k:Int) met (l.Own++l.Global)[k] b=if b then some (.stop (Out.ret false)) else(match E3 met (l.Own++l.Global)[k].aW with|some m=>some (.next (((k+1:Nat):Int),m))|none=>some (.stop (Out.ret false))):=by
   intro b;have j:=bTY g _ 0 met (aIN _) i;rw[show((0:Nat):Int)=0 from rfl,PW] at j;unfold qA;rw[j];cases b
   .simp only[bQ,bN,aI];cases E3 met (l.Own++l.Global)[k].aW with
    |none=>rfl
    |some m=>simp only[a07,aA8,aA7];rw[cY];rfl
   .rfl
  have a:xC l ((k:Int),met)=qA (k:Int) met (l.Own++l.Global)[k] (decide (k<9/\2<(l.Own++l.Global)[k].aW.length)):=by
   simp only[xC];rw[aM aj,aS c];simp only[aI];by_cases v:k<9
   .rw[cO];congr 1
    (simp_all;omega)
   grind
  rw[h] at a;by_cases n:k<9/\2<(l.Own++l.Global)[k].aW.length
  .rw[bY n] at a;simp only[bS] at a;rw[aY a,aO];rintro⟨q,_⟩;have e:9-k=(9-(k+1))+1:=aa
   rw[u,e,List.take_succ_cons] at q;have:=q _ aF7;omega
  .rw[eQ n] at a;simp only[bQ,bN] at a;have f:aNE (((l.Own++l.Global).drop k).take (9-k))↔aNE (((l.Own++l.Global).drop (k+1)).take (9-(k+1))):=by
    unfold aNE;by_cases v:k<9
    .have e:9-k=(9-(k+1))+1:=aa
     simp_all
    .have e:9-k=0:=aa
     have w:9-(k+1)=0:=aa
     simp_all
   rw[t,aKE];cases r:E3 met (l.Own++l.Global)[k].aW with
   |none=>
    simp_all[aY]
   |some m=>
    rw[r] at a;rw[bJ a,o (k+1) m aa (by grind[aYN])];simp_all
theorem aBV{l:aC}(h:(eN l).length<=1073741824):qS l=some (decide (LOk l)):=by
 unfold qS FF;by_cases n:l.Global.length=3
 .by_cases ho:l.Own.length=9
  .have k:((l.Global.length:Int) != 3)=false:=ah
   have m:((l.Own.length:Int) != 9)=false:=ah
   simp only[k,m,bQ,bN];rw[WU];have d:∀s∈l.Own++l.Global,s.aW.length<=maxLen:=by grind[eN,maxLen,aF8,aT2]
   have key:=bTZ ho ah d (l.Own++l.Global).length 0 (List.replicate 24 false) aa rfl;rw[show((0:Nat):Int)=0 from rfl,PW,Nat.sub_zero] at key;rw[key];have o:(l.Own++l.Global).take 9=l.Own:=aj
   have p:fT (l.Own++l.Global)=fT l.Own++fT l.Global:=by simp[fT]
   have e:∀j:Nat,j<24->(List.replicate 24 false).getD j true=false:=ai
   have a:LOk l↔aNE ((l.Own++l.Global).take 9)/\(E3 (List.replicate 24 false) (fT (l.Own++l.Global))).isSome=true:=by
    rw[aH8 _ _ rfl,o,p];have c:(fT l.Own++fT l.Global).Perm (eN l):=List.perm_append_comm;constructor
    .rintro⟨_,_,i,g,f⟩;exact⟨i,λx b=>g x (c.mem_iff.1 b),c.nodup_iff.2 f,λx b=>e _ aj⟩
    .rintro⟨i,g,f,_⟩;exact⟨n,ho,i,λx b=>g x (c.mem_iff.2 b),c.nodup_iff.1 f⟩
   by_cases q:LOk l
   .rw[aM (a.1 q),bY q];rfl
   .rw[aO (λx=>q (a.2 x)),eQ q];rfl
  .have k:((l.Global.length:Int) != 3)=false:=ah
   have m:((l.Own.length:Int) != 9)=true:=ah
   simp_all[LOk]
 .have k:((l.Global.length:Int) != 3)=true:=ah
  simp_all[LOk]
end Go.Gv
end
