import Derived.Test.YtdooodokcphomaaGreatXWG
set_option linter.unusedVariables false
set_option linter.unusedSimpArgs false
set_option linter.unusedSectionVars false
set_option linter.constructorNameAsVariable false
set_option linter.unnecessarySimpa false
set_option linter.defProp false
noncomputable section
set_option maxHeartbeats 4000000
set_option maxRecDepth 100000
namespace Go.Proofs.YtdooodokcphomaaGreat
open Go.Gv Tryz
variable{A B C D E H J L T U V X c d e g i k l m n p q s u w x z:AC}{h:Int}{t:Table}{j:aK}
section
variable {κ:Ctx}
theorem aJF{x:Int}:V0 prog κ 492 (aBB x) [.i .u64 x] I:=
 bZ call492 func492 Q Q2<|cH 0 0 (λ(p:Int×Int)=>H7 p.1 p.2) [] (λ(p:Int×Int) (_:Unit)=>[(0,.i .u64 p.1),(2,I p.2)]) [] (λp _=>[]) Q (aV [4] Q2 (bQ (p:=(rS .u64 x 32,32)) [] Q2)<|bQ (p:=(x,0)) [] Q2) λ⟨e,d⟩ _=>cH 0 0 (λ(p:Int×Int)=>H6 p.1 p.2) [] (λ(p:Int×Int) (_:Unit)=>[(0,.i .u64 p.1),(2,I p.2)]) [] (λp _=>[]) Q (aV [8] Q2 (bQ (p:=(rS .u64 e 16,bB (d+16))) [] Q2)<|bQ (p:=(e,d)) [] Q2) λ⟨c,b⟩ _=>cH 0 0 (λ(p:Int×Int)=>H5 p.1 p.2) [] (λ(p:Int×Int) (_:Unit)=>[(0,.i .u64 p.1),(2,I p.2)]) [] (λp _=>[]) Q (aV [14] Q2 (bQ (p:=(rS .u64 c 8,bB (b+8))) [] Q2)<|bQ (p:=(c,b)) [] Q2) λ⟨h,g⟩ _=>λa=>qsi Q Q Q Q Q a λf _ a=>wi a<|cQ Q2
theorem aOJ{x:Int}:V0 prog κ 436 (FL x) [.i .u64 x] I:=
 bZ call436 func436 Q Q2<|c0 Q (λ_=>aJF) λa=>cQ Q2
theorem aJG{x:al}{b:AC}:VS prog κ 333 (GX x) [.h b x.length] [] [ow b (x:al)] (λr (y:Unit)=>.t []) (λr y=>[.o (dF [AC.v b x.length] r)]):=
 bZ call333 func333 Q Q2<|c0 Q (λ_=>aOJ) λe=>gP [0] Q4 (λ_=>SM) λd _=>λc=>un 1 [0,3,5] [] [] Q6 λa=>sF Q<|pnR 1 a Q<|iM () [1] c Q2 Q4
theorem aDQ{s:al}{a:AC}:VS prog κ 334 (slices_Compact_int s) [.h a s.length] [] [ow a s] (λr (y:AC)=>.h y r.length) (λr y=>[ow y r]):=bPS bOA call334
theorem aR4{l:aw}(u:bJ κ i l):VS prog κ 200 (R1 l) [.h i l.length] [] [] (λr (y:AC)=>.h y r.length) (λr y=>[ow y r]):=
 bZ call200 func200 Q Q2<|λg=>W9 (O:=Int) aX Q4 λt=>wi g<|D9 t [8,9] (λ(p:al×Int) (b:AC)=>[(3,.h b p.1.length),(10,I p.2)]) [0] [] (λp b=>[ow b (p.1:al)]) id [] (λ(c:al) (f:AC)=>[(3,.h f c.length)]) [] (λc f=>[ow f (c:al)]) Q Q (λn ⟨z,o⟩ b k=>aV [11] Q2 (cH 2 0 (GY o) [8,9,10] (λ(e:al) (d:AC)=>[(3,.h d e.length)]) [] (λe d=>[ow d (e:al)]) Q (AF IE Q u Q λv _ _=>c0 Q (λ_=>Z9) λj=>aV [18] Q2 (λa=>lt1 Q aX Q4 λA=>ap 0 aX Q Q Q Q Q Q Q (λh=>(h.o 3 Q)) Q Q a λa q=>wi a<|iO q [0] Q2)<|iO b [0] Q2) λe d=>nxW d [0] Q)<|bkW b [0] Q) λc f=>wm (F:=P1 c) Q<|gP [0] Q4 (λ_=>aJG) λx _=>λg=>un 1 [3,24] [] [] Q6 λm=>wi g<|gP [1] Q4 (λ_=>aDQ) λw s=>dD s [2] Q2
theorem T0{s:bo}{f:(Seen->ay)}{b:FuncId}{a:ao}(e:bJ κ d s)(c:Fu1 prog κ (aQ9:F8 Seen) .b b a f):V0 prog κ 201 (kE s f) [.h d s.length,.k (.func (.func b) #[] a.toArray)] .b:=
 bZ call201 func201 Q Q2<|c0 Q (λh=>IW (h.a e) (h.u1 c)) λg=>cQ Q2
theorem aE8{s:Seen}{b:Int}{a:dR}{e d c:Nat×Nat}:VS prog κ 202 (AM s b a) [.g [I s.dR,I s.iF],.p 0 0,.p 1 0] [e,d,c] [.ro 0 [I b],.ro 1 [.p 2 0],.ro 2 [I a.Head,I a.iF,I a.jC]] (λr (_:Unit)=>.b r) (λ_ _=>[]):=
 bZ call202 func202 Q Q2<|dJ 0 4 sM [] 4 [] Q (dE aC [0,1,2,3] Q<|eV [8,9] Q2 (bQ [] Q2)<|bQ [] Q2) λf=>cQ Q2
theorem aJH{b:Int}{v o j f:AC}{b0:Nat×Nat}:VS prog κ 84 (GZ t b) [.p 0 0,I b] [b0] ([.box 0 (QQ t x w v u s q o j e g f)]++(oTb t x w v u s q o j e g f [])) (λr (y:AC)=>.t []) (λr y=>([.box 0 (QQ r x w v u s q o j e g y)]++(oTb r x w v u s q o j e g y []))):=
 bZ call84 func84 Q Q2<|fU bK 9 Q3 λx1 F z h2=>λa=>eH 1 h2 F Q5<|wi a<|c1 Q (λh=>aR4 (h.o 17 Q)) λE s13=>cH 0 2 (λ(p:ba×bq)=>pZ t b E p.1 p.2) [0,1,4,5] (λ(p:ba×bq) (_:Unit)=>[]) [22,1,2,3,4,5,6,7,10,11,14] (λp _=>[ow j (p.1:ba),ow e (p.2:bq),.box 0 [.h x t.aA.Mem.Heap.Bytes.length,.h w t.aA.Mem.Heap.Class.length,.h v t.aA.Mem.aD.Global.length,.h u t.aA.Mem.aD.Own.length,I t.aA.aI.aP,.h s t.aA.aI.bV.length,.h q t.aA.aQ.length,.h o t.aA.iU.length,.h j p.1.length,.h e p.2.length,.h g t.aY.length,.h f t.Log.length,I t.aG]]) Q (aV [25] Q2 (fU oI 22 Q3 λk h7 _ h8=>λa=>eH 2 h8 h7 Q5<|EX oI 23 [] h7 () Q9<|wi a<|dE aC [0,14,25,26] Q<|fU kG 8 Q3 λx8 Y _ V=>λa=>eH 4 V Y Q5<|wi a<|cH 0 6 (jK t b E k) [0,1,4,5,6,7] (λ(W:Bool) (_:Unit)=>[(39,.b W)]) [27,1,2,3,4,5,6,7,10,11,0,14,30] (λW _=>[ow j (t.bC:ba),ow e (t.aH:bq),.ro 3 [I k],.ro 5 [.p 4 0]]) Q (λa=>shS [3,5] Q Q<|wi a<|eV [44,45] Q2 (λa=>sF Q<|fR Q2<|eJ kG 28 [] Y () Q7<|fR Q2<|eJ bK 12 [15,16,17,18,19,20,21] F z Q7<|fR Q2<|fO () [32,33,26,31,27,1,2,3,4,5,6,7,10,11,0,14,30] a Q)<|λa=>mf [3,5] Q Q Q<|wi a<|clP (n3:=4) [26,31,29] Q Q Q Q (λh=>λhB=>T0 (h.o 16 Q) (fkP (xs:=[.p 0 0,.p 1 0]) call202 hB Q λ_ _=>aE8)) λx19=>λa=>sF Q<|fR Q2<|eJ kG 28 [] Y () Q7<|fR Q2<|eJ bK 12 [15,16,17,18,19,20,21] F z Q7<|fR Q2<|fO () [32,33,26,31,27,1,2,3,4,5,6,7,10,11,0,14,30] a Q) λW _=>aV [39] Q2 (λa=>ro bK 1 15 1 Q Q Q Q a λx10 h11 a N=>wi a<|cR 18 1 0 32 [20,21,22,23,24,25,26] Q5 (λ_=>fI) λH _=>λa=>sR Q<|fR Q2<|gR bK 17 [27,28,29,30,31,32,33] [] H N Q8<|fR Q2<|iS e bI.symm [] [(14,9)] Q3<|fR Q2<|iM f [14,5,6,7,8,9,10,11,0,34,12,13] a Q2 Q4)<|λa=>ro kG 0 16 4 Q Q Q Q a λd U a _=>wi a<|aV [55,60] Q2 (λa=>ro bK 1 15 1 Q Q Q Q a λx13 h15 a M=>wi a<|cR 21 1 0 32 [23,24,25,26,27,28,29] Q5 (λ_=>fI) λG _=>λa=>sR Q<|fR Q2<|gR bK 20 [30,31,32,33,34,35,36] [] G M Q8<|fR Q2<|iS e bI.symm [] [(14,9)] Q3<|fR Q2<|eJ kG 17 [] U () Q7<|fR Q2<|iM f [14,5,6,7,8,9,10,11,38,37,12,13] a Q2 Q4)<|cH 1 6 (p5 t b E k d) [0,1,4,5] (λ(l:bq) (_:Unit)=>[]) [4,5,6,7,8,9,10,11,12,13,15] (λl _=>[ow j (t.bC.set k.toNat ({d with jC:=bB (b+1)}:dR):ba),ow e (l:bq),.box 0 [.h x t.aA.Mem.Heap.Bytes.length,.h w t.aA.Mem.Heap.Class.length,.h v t.aA.Mem.aD.Global.length,.h u t.aA.Mem.aD.Own.length,I t.aA.aI.aP,.h s t.aA.aI.bV.length,.h q t.aA.aQ.length,.h o t.aA.iU.length,.h j (t.bC.set k.toNat ({d with jC:=bB (b+1)}:dR)).length,.h e l.length,.h g t.aY.length,.h f t.Log.length,I t.aG]]) Q (dE aC [2,3,14,15,16,19] Q<|λa=>ro bK 1 15 1 Q Q Q Q a λc T a i=>wi a<|c0 Q (λh=>MV (h.o 28 Q)) λx18=>aV [74] Q2 (cH 0 6 (λ(_:Unit)=>H8 t b E k d c) [0,1,4,5] (λ(_:Unit) (_:Unit)=>[]) [4,5,6,7,8,9,10,11,12,13,15] (λ_ _=>[ow j (t.bC.set k.toNat ({d with jC:=bB (b+1)}:dR):ba),ow e (t.aH.set b.toNat ({c with bM:=c.bM++([k])}:aK):bq),.box 0 [.h x t.aA.Mem.Heap.Bytes.length,.h w t.aA.Mem.Heap.Class.length,.h v t.aA.Mem.aD.Global.length,.h u t.aA.Mem.aD.Own.length,I t.aA.aI.aP,.h s t.aA.aI.bV.length,.h q t.aA.aQ.length,.h o t.aA.iU.length,.h j (t.bC.set k.toNat ({d with jC:=bB (b+1)}:dR)).length,.h e (t.aH.set b.toNat ({c with bM:=c.bM++([k])}:aK)).length,.h g t.aY.length,.h f t.Log.length,I t.aG]]) Q (dE aC [2,3,14,15,16,19,22] Q<|λa=>nd a λR a=>(by refine dS Q2 ?_ ?_<;>exact lt1 Q aX Q4 λs31=>have B:=rn R;ap 28 aX Q Q Q Q Q Q Q (λh=>(h.o 30 Q)) Q Q B λB J=>sF Q<|fR Q2<|gR bK 20 [23,24,25,26,27,28,29] [] ({c with bM:=c.bM++([k])}:aK) (i.1,i.2.1,i.2.2.1,i.2.2.2.1,i.2.2.2.2.1,J,i.2.2.2.2.2.2) Q8<|fR Q2<|iS e bI.symm [] [(14,9)] Q3<|fR Q2<|gR kG 17 [] [] ({d with jC:=bB (b+1)}:dR) () Q8<|fR Q2<|iS j bI.symm [] [(14,8)] Q3<|fR Q2<|fO (p:=()) () [32,31,14,4,5,6,7,8,9,10,11,12,13,15] a Q)) λ_ _=>bQ (p:=(t.aH.set b.toNat ({c with bM:=c.bM++([k])}:aK))) [0,1,2,3,4,5,6,7,8,9,10,11,12,13] Q2)<|λa=>sF Q<|fR Q2<|eJ bK 20 [23,24,25,26,27,28,29] T i Q7<|fR Q2<|gR kG 17 [] [] ({d with jC:=bB (b+1)}:dR) () Q8<|fR Q2<|iS j bI.symm [] [(14,8)] Q3<|fR Q2<|fO () [31,30,14,4,5,6,7,8,9,10,11,12,13,15] a Q) λl _=>λa=>ro bK 1 13 1 Q Q Q Q a λn h17 a L=>sF Q<|fR Q2<|gR bK 14 [17,18,19,20,21,22,23] [] ({n with K:=bB (n.K+1)}:aK) L Q8<|fR Q2<|iS e bI.symm [] [(2,9)] Q3<|fR Q2<|fO (p:=(t.bC.set k.toNat ({d with jC:=bB (b+1)}:dR),l.set b.toNat ({n with K:=bB (n.K+1)}:aK))) () [0,24,2,3,4,5,6,7,8,9,10,11,12,13] a Q)<|λa=>sF Q<|fR Q2<|eJ bK 12 [15,16,17,18,19,20,21] F z Q7<|fR Q2<|fO (p:=(t.bC,t.aH)) () [8,23,0,22,1,2,3,4,5,6,7,10,11,14] a Q) λ⟨Z,X⟩ _=>λa=>ro bK 1 13 1 Q Q Q Q a λD h3 a A=>wi a<|aV [98] Q2 (cH 0 2 (λ(_:Unit)=>xN t b Z X D) [0,4] (λ(_:Unit) (m:AC)=>[]) [4,5,6,7,8,9,10,0,11,13] (λ_ m=>[ow e (X:bq),ow m (t.Log++([(⟨2,b,D.aG,0,[],[]⟩:wH)]):bs),.box 0 [.h x t.aA.Mem.Heap.Bytes.length,.h w t.aA.Mem.Heap.Class.length,.h v t.aA.Mem.aD.Global.length,.h u t.aA.Mem.aD.Own.length,I t.aA.aI.aP,.h s t.aA.aI.bV.length,.h q t.aA.aQ.length,.h o t.aA.iU.length,.h j Z.length,.h e X.length,.h g t.aY.length,.h m (t.Log++([(⟨2,b,D.aG,0,[],[]⟩:wH)])).length,I t.aG]]) Q (dE aC [13,16] Q<|λa=>nd a λS a=>(by repeat' first|refine dS Q2 ?_ ?_|refine nw oV Q<|nw eD Q<|HN aRB [24,25] ((⟨2,b,D.aG,0,[],[]⟩:wH)) (⟨none,0⟩,⟨none,0⟩) fK HO λs19=>?_|refine have C:=rn S;apN 12 26 fK Q Q Q9 C λC O=>sF Q<|fR Q2<|eJ bK 14 [17,18,19,20,21,22,23] h3 A Q7<|fR Q2<|?_|exact fO (p:=()) O [28,27,2,4,5,6,7,8,9,10,0,11,13] a Q)) λ_ m=>λa=>ro bK 0 12 1 Q Q Q Q a λx6 h5 a P=>sF Q<|fR Q2<|gR bK 13 [16,17,18,19,20,21,22] [] ({x6 with Pc:=8,K:=0}:aK) P Q8<|fR Q2<|iS e bI.symm [] [(2,9)] Q3<|fR Q2<|iM m [2,3,4,5,6,7,8,9,10,23,11,1] a Q2 Q4)<|λa=>sF Q<|fR Q2<|eJ bK 14 [17,18,19,20,21,22,23] h3 A Q7<|iM f [2,4,5,6,7,8,9,10,0,24,11,12] a Q2 Q4
theorem aCK{s:Int}{O N M G F f:AC}{b0:Nat×Nat}:VS prog κ 85 (uG t s) [.p 0 0,I s] [b0] ([.box 0 (QQ t O N M L J H G F f e d)]++(oTb t O N M L J H G F f e d [])) (λr (y:Unit)=>.t []) (λr y=>([.box 0 (QQ r O N M L J H G F f e d)]++(oTb r O N M L J H G F f e d []))):=
 bZ call85 func85 Q Q2<|fU bK 9 Q3 λx1 h1 V h2=>λa=>eH 1 h2 h1 Q5<|wi a<|cH 0 2 (λ(_:Unit)=>xQ t s x1) [0,1,4] (λ(_:Unit) (_:Unit)=>[(22,.b (decide ((x1.Reads.length:Int)<=x1.K)))]) [1,2,3,4,5,6,7,8,10,11,0,14] (λ_ _=>[ow f (t.aH:bq)]) Q (dE aC [0,14] Q<|λa=>(by refine dS Q2 ?_ ?_<;>exact sF Q<|fR Q2<|eJ bK 12 [15,16,17,18,19,20,21] h1 V Q7<|fR Q2<|fO (p:=()) () [22,1,2,3,4,5,6,7,8,10,11,0,14] a Q)) λ_ _=>aV [22] Q2 (λa=>ro bK 0 12 1 Q Q Q Q a λx2 h3 a U=>sR Q<|fR Q2<|gR bK 13 [16,17,18,19,20,21,22] [] ({x2 with Pc:=9,K:=0}:aK) U Q8<|fR Q2<|iS f bI.symm [] [(11,9)] Q3<|fR Q2<|iM () [11,1,2,3,4,5,6,7,8,23,9,10] a Q2 Q4)<|cH 0 4 (λ(p:Int×Int)=>xP t s p.1 p.2) [0,1,4] (λ(p:Int×Int) (_:Unit)=>[(5,.p 3 0)]) [1,2,3,4,5,6,7,8,0,9,10,11,12] (λp _=>[.box 3 [I p.1,I p.2]]) Q (dE aC [11,12] Q<|λa=>bd a λx13 q a=>bd a λb c a=>aE1 Q Q (have o:=rb q;ro bK 0 12 1 Q Q Q Q o λu1 E o w=>match u1,o with|_,rfl=>dS Q2 (have n:=rb c;wi n<|fU LR 17 Q3 λu2 D _ h18=>λn=>eH 2 h18 D Q5<|match u2,n with|_,rfl=>(by refine dS Q2 ?_ ?_<;>exact sF Q<|fR Q2<|eJ LR 23 [] D () Q7<|fR Q2<|eJ bK 13 [16,27,18,19,20,21,22] E w Q7<|fR Q2<|fO (p:=(b.dR,b.iF)) () [26,1,2,3,4,5,6,7,8,28,9,10,11,12] a Q)) (have m:=rb c;wi m<|fU LR 17 Q3 λu3 C _ h20=>λm=>eH 3 h20 C Q5<|match u3,m with|_,rfl=>sF Q<|swR 3 2 Q<|fD Q Q<|fR Q2<|eJ LR 24 [] C () Q7<|fR Q2<|eJ bK 13 [16,27,18,19,20,21,22] E w Q7<|fR Q2<|fO (p:=(b.dR,b.iF)) () [23,1,2,3,4,5,6,7,8,28,9,10,11,12] a Q)) (have l:=rb q;ro bK 0 12 1 Q Q Q Q l λu4 B l v=>match u4,l with|_,rfl=>dS Q2 (have k:=rb c;wi k<|fU LR 17 Q3 λu5 A _ Z=>λk=>eH 2 Z A Q5<|match u5,k with|_,rfl=>(by refine dS Q2 ?_ ?_<;>exact sF Q<|fR Q2<|eJ LR 23 [] A () Q7<|fR Q2<|eJ bK 13 [16,27,18,19,20,21,22] B v Q7<|fR Q2<|fO (p:=(b.dR,b.iF)) () [26,1,2,3,4,5,6,7,8,28,9,10,11,12] a Q)) (have j:=rb c;wi j<|fU LR 17 Q3 λu6 z _ Y=>λj=>eH 3 Y z Q5<|match u6,j with|_,rfl=>sF Q<|swR 3 2 Q<|fD Q Q<|fR Q2<|eJ LR 24 [] z () Q7<|fR Q2<|eJ bK 13 [16,27,18,19,20,21,22] B v Q7<|fR Q2<|fO (p:=(b.dR,b.iF)) () [23,1,2,3,4,5,6,7,8,28,9,10,11,12] a Q)) ((by refine dS Q2 ?_ ?_<;>exact have i:=rb q;ro bK 0 12 1 Q Q Q Q i λu7 X i R=>match u7,i with|_,rfl=>have h:=rb c;wi h<|fU LR 18 Q3 λu8 x _ W=>λh=>eH 3 W x Q5<|match u8,h with|_,rfl=>sF Q<|swR 3 2 Q<|fD Q Q<|fR Q2<|eJ LR 24 [] x () Q7<|fR Q2<|eJ bK 14 [17,27,19,20,21,22,23] X R Q7<|fR Q2<|fO (p:=(b.dR,b.iF)) () [13,1,2,3,4,5,6,7,8,28,9,10,11,12] a Q))) λ⟨x3,x4⟩ _=>cH 0 6 (λ(p:Int×Int×Int)=>xO t s x4 p.1 p.2.1 p.2.2) [0,1,4,5] (λ(p:Int×Int×Int) (_:Unit)=>[(6,.p 5 0)]) [1,2,3,4,5,6,7,8,9,10,11,12,13,0] (λp _=>[.box 5 [I p.1,I p.2.1,I p.2.2]]) Q (dE aC [0,12,13] Q<|fU kG 8 Q3 λg h9 _ h10=>λa=>eH 4 h10 h9 Q5<|(by refine dS Q2 ?_ ?_<;>exact sF Q<|eJ kG 14 [] h9 () Q7<|fR Q2<|fO (p:=(g.Head,g.iF,g.jC)) () [17,1,2,3,4,5,6,7,18,9,10,11,12,13,0] a Q)) λ⟨x5,x6,x7⟩ _=>dJ 0 6 (hY t s) [0,4] 63 [1,2,3,4,5,6,7,8,9,10,11,12,13] Q (eV [49,50] Q2 (eV [55,56,57] Q2 (bQ [1,2,3,4,5,6,7,8,9,10,11,12,13] Q2)<|bQ [1,2,3,4,5,6,7,8,9,10,11,12,13] Q2)<|bQ [1,2,3,4,5,6,7,8,9,10,11,12,13] Q2) λx8=>aV [63] Q2 (λa=>ro bK 8 12 1 Q Q Q Q a λx9 h5 a T=>wi a<|cR 14 1 0 32 [16,17,18,19,20,21,22] Q5 (λ_=>fI) λP _=>λa=>sR Q<|fR Q2<|gR bK 13 [23,24,25,26,27,28,29] [] P T Q8<|fR Q2<|iS f bI.symm [] [(11,9)] Q3<|fR Q2<|iM () [11,0,1,2,3,4,5,6,7,30,9,10] a Q2 Q4)<|λa=>ro bK 8 12 1 Q Q Q Q a λu h7 a S=>sF Q<|fR Q2<|gR bK 13 [16,17,18,19,20,21,22] [] ({u with K:=bB (u.K+1)}:aK) S Q8<|fR Q2<|iS f bI.symm [] [(11,9)] Q3<|fR Q2<|iM () [11,0,1,2,3,4,5,6,7,23,9,10] a Q2 Q4
theorem L8{x:aW}{f b a:AC}{h:Nat×Nat}:VS prog κ 204 (rK j x) [.p 0 0,.g [I x.Key,.b x.NP,I x.cT]] [h] ([.box 0 (YB j g f e d c b a)]++(YC j g f e d c b a [])) (λr (y:Unit)=>.t []) (λr y=>([.box 0 (YB r g f e d c b a)]++(YC r g f e d c b a []))):=
 bZ call204 func204 Q Q2<|aV [8] Q2 (CS () [0,1,2,3,4,5,6,7] Q Q)<|CS () [0,1,2,3,4,5,6,7] Q Q
theorem aB0{m:Mem}{b a:AC}(f:bJ κ d m.Heap.Bytes)(e:bJ κ c m.Heap.Class)(i:bJ κ b m.aD.Global)(g:bJ κ a m.aD.Own):V0 prog κ 245 (FM m h) [.g (gM m d c b a),I h] I:=
 bZ call245 func245 Q Q2<|c0 Q (λh=>FU (h.a f) (h.a e) (h.a i) (h.a g)) λk=>aV [5,9] Q2 (cQ Q2)<|c0 Q (λh=>aDO (h.a f) (h.a e)) λj=>aV [10,16] Q2 (cQ Q2)<|cQ Q2
theorem tO{m:Mem}{a:Int}(o:bJ κ C m.Heap.Bytes)(n:bJ κ B m.Heap.Class)(v:bJ κ A m.aD.Global)(u:bJ κ z m.aD.Own):VS prog κ 205 (VR m h a) [.g (gM m C B A z),I h,I a] [] [] (λr (y:A4C)=>.t [.g (yM r.1 y),I r.2]) (λr y=>(zM r.1 y [])):=
 bZ call205 func205 Q Q2<|c1 Q (λh=>vZ (h.a o) (h.a n) (h.a v) (h.a u)) λx c=>cH 0 3 (λ(p:Bool×Mem)=>K8 m h a p.1 p.2) [1,2,3,6,8] (λ(p:Bool×Mem) (_:Unit)=>[(19,.b p.1)]) [0,1] (λp _=>(zM p.2 c [.box 2 (yM p.2 c)])) Q (c0 Q (λh=>L4 (h.a o) (h.a n) (h.a v) (h.a u)) λD=>eV [14,15] Q2 (bQ (p:=(true,x)) [2,3,4,5,6,0,1] Q2)<|c0 Q (λ_=>WU) λs=>bQ (p:=(!s,x)) [2,3,4,5,6,0,1] Q2) λ⟨M,j⟩ _=>aV [19] Q2 (dD c [0,1,2,3] Q2)<|c0 Q (λh=>aB0 (h.a o) (h.a n) (h.a v) (h.a u)) λw=>cH 0 3 (TJ w) [6,8,9] (λ(q:Mem) (_:Unit)=>[]) [6] (λq _=>(zM q c [.box 2 (yM q c)])) Q (aV [25] Q2 (cH 0 3 (aC7 w) [6,8,9] (λ(l:Mem) (_:Unit)=>[]) [6] (λl _=>(zM l c [.box 2 (yM l c)])) Q (dE aC [5,6] Q<|λb=>bd b λL k b=>bd b λK i b=>bd b λt g b=>dS Q2 (ES k Q (λh=>CH (h.a o) (h.a n))<|ES i Q (λ_=>eU)<|have f:=rb g;wi f<|gP [0] Q4 (λ_=>gN) λJ _=>λf=>un 7 [28] [] [(4,0)] Q6 λG=>match J,f with|_,rfl=>wi b<|bQ (p:=((⟨(⟨t,j.Heap.Class⟩:Heap),j.aD⟩:Mem))) [7,1,2,3,4,6] Q2) (ES k Q (λh=>CH (h.a o) (h.a n))<|dS Q2 (ES i Q (λ_=>eU)<|have e:=rb g;wi e<|gP [0] Q4 (λ_=>gN) λH _=>λe=>un 7 [28] [] [(4,0)] Q6 λF=>match H,e with|_,rfl=>wi b<|bQ (p:=((⟨(⟨t,j.Heap.Class⟩:Heap),j.aD⟩:Mem))) [7,1,2,3,4,6] Q2) (ES i Q (λ_=>eU)<|have d:=rb g;wi d<|gP [0] Q4 (λ_=>gN) λu8 _=>λd=>un 7 [28] [] [(4,0)] Q6 λE=>match u8,d with|_,rfl=>wi b<|bQ (p:=((⟨(⟨t,j.Heap.Class⟩:Heap),j.aD⟩:Mem))) [7,1,2,3,4,6] Q2))) λl _=>bQ (p:=(l)) [0,1,2,3,4,5] Q2)<|bQ [0,1,2,3,4,6] Q2) λq _=>dD c [0,1,2,3] Q2
theorem aVM{n:fS}:V0 prog κ 246 (VT n) [.g [I n.Key,I n.cT,I n.Next]] .b:=
 bZ call246 func246 Q Q2<|dJ 0 1 B5 [] 2 [] Q (c0 Q (λ_=>cC) λc=>eV [5,6] Q2 (c0 Q (λ_=>cC) λb=>eV [9,10,11] Q2 (c0 Q (λ_=>WU) λa=>bQ [] Q2)<|bQ [] Q2)<|bQ [] Q2) λd=>cQ Q2
theorem aR5{m:Mem}{n:fS}{W:AC}(H:bJ κ X m.Heap.Bytes)(G:bJ κ W m.Heap.Class)(R:bJ κ V m.aD.Global)(P:bJ κ U m.aD.Own):VS prog κ 338 (R3 m h n) [.g (gM m X W V U),I h,.g [I n.Key,I n.cT,I n.Next]] [] [] (λr (y:A4C)=>.t [.g (yM r.1 y),I r.2]) (λr y=>(zM r.1 y [])):=
 bZ call338 func338 Q Q2<|c1 Q (λh=>vZ (h.a H) (h.a G) (h.a R) (h.a P)) λT z=>cH 0 4 (λ(p:Bool×Mem)=>G0 m h n p.1 p.2) [1,3,5,6,8] (λ(p:Bool×Mem) (_:Unit)=>[(19,.b p.1)]) [0,1,2] (λp _=>(zM p.2 z [.box 3 (yM p.2 z)])) Q (c0 Q (λh=>L4 (h.a H) (h.a G) (h.a R) (h.a P)) λY=>eV [14,15] Q2 (bQ (p:=(true,T)) [3,4,5,6,7,0,1,2] Q2)<|c0 Q (λ_=>aVM) λK=>bQ (p:=(!K,T)) [3,4,5,6,7,0,1,2] Q2) λ⟨x2,k⟩ _=>aV [19] Q2 (dD z [0,1,2,3] Q2)<|c0 Q (λh=>aB0 (h.a H) (h.a G) (h.a R) (h.a P)) λS=>cH 0 4 (P3 S) [6,8,9] (λ(J:Mem) (_:Unit)=>[]) [7] (λJ _=>(zM J z [.box 3 (yM J z)])) Q (aV [25] Q2 (cH 0 4 (aBD S) [6,8,9] (λ(F:Mem) (_:Unit)=>[]) [7] (λF _=>(zM F z [.box 3 (yM F z)])) Q (dE aC [5,6,7] Q<|λa=>bd a λx7 E a=>bd a λx8 B a=>bd a λx9 o a=>nd a λl a=>bd a λZ j a=>nd a λi a=>bd a λf g a=>dS Q2 (ES E Q (λh=>CH (h.a H) (h.a G))<|ES B Q (λ_=>eU)<|ES o Q (λ_=>eU)<|have D:=rn l;cat Q Q Q Q D λD=>ES j Q (λ_=>eU)<|have C:=rn i;cat Q Q Q Q C λC=>have A:=rb g;wi A<|gP [0] Q4 (λ_=>gN) λu5 _=>λA=>un 8 [28] [] [(4,0)] Q6 λhl2=>match u5,A with|_,rfl=>wi a<|bQ (p:=((⟨(⟨f,k.Heap.Class⟩:Heap),k.aD⟩:Mem))) [8,1,2,3,4,7] Q2) (ES E Q (λh=>CH (h.a H) (h.a G))<|dS Q2 (ES B Q (λ_=>eU)<|ES o Q (λ_=>eU)<|have x:=rn l;cat Q Q Q Q x λx=>ES j Q (λ_=>eU)<|have w:=rn i;cat Q Q Q Q w λw=>have e:=rb g;wi e<|gP [0] Q4 (λ_=>gN) λO _=>λe=>un 8 [28] [] [(4,0)] Q6 λhl3=>match O,e with|_,rfl=>wi a<|bQ (p:=((⟨(⟨f,k.Heap.Class⟩:Heap),k.aD⟩:Mem))) [8,1,2,3,4,7] Q2) (ES B Q (λ_=>eU)<|dS Q2 (ES o Q (λ_=>eU)<|have v:=rn l;cat Q Q Q Q v λv=>ES j Q (λ_=>eU)<|have u:=rn i;cat Q Q Q Q u λu=>have d:=rb g;wi d<|gP [0] Q4 (λ_=>gN) λN _=>λd=>un 8 [28] [] [(4,0)] Q6 λhl4=>match N,d with|_,rfl=>wi a<|bQ (p:=((⟨(⟨f,k.Heap.Class⟩:Heap),k.aD⟩:Mem))) [8,1,2,3,4,7] Q2) (ES o Q (λ_=>eU)<|have t:=rn l;cat Q Q Q Q t λt=>dS Q2 (ES j Q (λ_=>eU)<|have s:=rn i;cat Q Q Q Q s λs=>have c:=rb g;wi c<|gP [0] Q4 (λ_=>gN) λM _=>λc=>un 8 [28] [] [(4,0)] Q6 λhl5=>match M,c with|_,rfl=>wi a<|bQ (p:=((⟨(⟨f,k.Heap.Class⟩:Heap),k.aD⟩:Mem))) [8,1,2,3,4,7] Q2) (ES j Q (λ_=>eU)<|have q:=rn i;cat Q Q Q Q q λq=>have b:=rb g;wi b<|gP [0] Q4 (λ_=>gN) λL _=>λb=>un 8 [28] [] [(4,0)] Q6 λhl6=>match L,b with|_,rfl=>wi a<|bQ (p:=((⟨(⟨f,k.Heap.Class⟩:Heap),k.aD⟩:Mem))) [8,1,2,3,4,7] Q2))))) λF _=>bQ (p:=(F)) [0,1,2,3,4,5] Q2)<|bQ [0,1,2,3,4,7] Q2) λJ _=>dD z [0,1,2,3] Q2
theorem aJI{x:aW}{b:dR}{v o:AC}{f:AC}{S R P:Nat×Nat}:VS prog κ 206 (P4 t j x b) [.p 0 0,.p 1 0,.g [I x.Key,.b x.NP,I x.cT],.p 2 0] [S,R,P] (([.box 0 (QQ t A z w v q o n J H d c),.box 1 (YB j m l k i g f e),.box 2 [I b.Head,I b.iF,I b.jC]]++(IC t.aA A z w v q o n [ow d (t.aY:au),ow c (t.Log:bs)]))++(YC j m l k i g f e [])) (λr (y:A4C)=>.t []) (λr y=>(([.box 0 [.h y.1 r.1.aA.Mem.Heap.Bytes.length,.h y.2.1 r.1.aA.Mem.Heap.Class.length,.h y.2.2.1 r.1.aA.Mem.aD.Global.length,.h y.2.2.2 r.1.aA.Mem.aD.Own.length,I r.1.aA.aI.aP,.h q r.1.aA.aI.bV.length,.h o r.1.aA.aQ.length,.h n r.1.aA.iU.length,.h J t.bC.length,.h H t.aH.length,.h d r.1.aY.length,.h c r.1.Log.length,I r.1.aG],.box 1 (YB r.2.1 m l k i g f e),.box 2 [I r.2.2.Head,I r.2.2.iF,I r.2.2.jC]]++(IC r.1.aA y.1 y.2.1 y.2.2.1 y.2.2.2 q o n [ow d r.1.aY,ow c r.1.Log]))++(YC r.2.1 m l k i g f e []))):=
 bZ call206 func206 Q Q2<|dE aC [0,1,2,19] Q<|c0 Q (λh=>IX (h.o 14 Q)) λW=>aV [39,46] Q2 (cR 1 1 0 32 [12,13,14,15,16,17,18] Q5 (λ_=>fI) λV _=>CS (A,z,w,v) [0,1,2,3,4,5,6,7,8,9,10,11,20,21,22,23,24,25,26] Q Q)<|aV [49,54] Q2 (cH 0 4 (H9 t j b) [0,1,3] (λ(a:Table) (u:A4C)=>[]) [12,13,14,15,16,17,18,1,2] (λa u=>(IC a.aA u.1 u.2.1 u.2.2.1 u.2.2.2 q o n [ow d (a.aY:au),ow c (a.Log:bs),.box 0 [.h u.1 a.aA.Mem.Heap.Bytes.length,.h u.2.1 a.aA.Mem.Heap.Class.length,.h u.2.2.1 a.aA.Mem.aD.Global.length,.h u.2.2.2 a.aA.Mem.aD.Own.length,I a.aA.aI.aP,.h q a.aA.aI.bV.length,.h o a.aA.aQ.length,.h n a.aA.iU.length,.h J t.bC.length,.h H t.aH.length,.h d a.aY.length,.h c a.Log.length,I a.aG]])) Q (dE aC [1,2,19] Q<|fU oI 16 Q3 λU L _ O=>λs=>eH 4 O L Q5<|bd s λM G s=>(by refine dS Q2 ?_ ?_<;>exact I5 G Q (λh=>aR5 (h.o 3 Q) (h.o 4 Q) (h.o 5 Q) (h.o 6 Q)) λB=>sF Q<|eJ oI 20 [] L () Q7<|fR Q2<|fO (p:=(({t with aA:=(⟨M.1,t.aA.aI,t.aA.aQ,t.aA.iU⟩:aA)}:Table))) B [23,24,25,26,7,8,9,10,11,0,12,13,14,15,27,17,18,1,2] s Q)) λa ⟨F,E,D,C⟩=>CS (F,E,D,C) [9,17,18,0,1,2,3,4,5,6,7,8,10,11,12,13,14,15,16] Q Q)<|fU oI 16 Q3 λT K _ N=>λs=>eH 4 N K Q5<|sF Q<|eJ oI 20 [] K () Q7<|iM (A,z,w,v) [0,1,2,3,4,5,6,7,8,9,10,11,12,13,14,15,23,17,18] s Q2 Q4
theorem aG5{E:Int}{W v f:AC}{b0:Nat×Nat}:VS prog κ 86 (DO t E) [.p 0 0,I E] [b0] ([.box 0 (QQ t X W V U x w v i f e d)]++(oTb t X W V U x w v i f e d [])) (λr (y:A4C)=>.t []) (λr y=>([.box 0 (QQ r y.1 y.2.1 y.2.2.1 y.2.2.2 x w v i f e d)]++(oTb r y.1 y.2.1 y.2.2.1 y.2.2.2 x w v i f e d []))):=
 bZ call86 func86 Q Q2<|fU bK 9 Q3 λx1 h1 s12 h2=>λa=>eH 1 h2 h1 Q5<|wi a<|cH 0 2 (λ(_:Unit)=>EN t E x1) [0,4] (λ(_:Unit) (_:Unit)=>[(22,.b (decide ((x1.aL.length:Int)<=x1.K)))]) [1,2,3,4,5,6,7,8,10,11,0,14] (λ_ _=>[ow f (t.aH:bq)]) Q (dE aC [0,14] Q<|λa=>(by refine dS Q2 ?_ ?_<;>exact sF Q<|fR Q2<|eJ bK 12 [15,16,17,18,19,20,21] h1 s12 Q7<|fR Q2<|fO (p:=()) () [22,1,2,3,4,5,6,7,8,10,11,0,14] a Q)) λ_ _=>aV [22] Q2 (λa=>ro bK 0 12 1 Q Q Q Q a λx2 h3 a s13=>sR Q<|fR Q2<|gR bK 13 [16,17,18,19,20,21,22] [] ({x2 with Pc:=14}:aK) s13 Q8<|fR Q2<|iS f bI.symm [] [(11,9)] Q3<|fR Q2<|iM (X,W,V,U) [11,1,2,3,4,5,6,7,8,23,9,10] a Q2 Q4)<|cH 0 4 (λ(p:Int×Bool×Int)=>EM t E p.1 p.2.1 p.2.2) [0,4] (λ(p:Int×Bool×Int) (_:Unit)=>[(5,.p 3 0)]) [1,2,3,4,5,6,7,8,0,9,10,11,12] (λp _=>[.box 3 [I p.1,.b p.2.1,I p.2.2]]) Q (dE aC [11,12] Q<|λa=>bd a λx30 hA6 a=>bd a λb T a=>aE1 Q Q (have P:=rb hA6;ro bK 0 12 1 Q Q Q Q P λu29 h23 P s51=>match u29,P with|_,rfl=>dS Q2 (have O:=rb T;wi O<|fU kV 18 Q3 λu30 h25 _ h26=>λO=>eH 2 h26 h25 Q5<|match u30,O with|_,rfl=>(by refine dS Q2 ?_ ?_<;>exact sF Q<|fR Q2<|eJ kV 23 [] h25 () Q7<|fR Q2<|eJ bK 13 [16,17,27,19,20,21,22] h23 s51 Q7<|fR Q2<|fO (p:=(b.Key,b.NP,b.cT)) () [26,1,2,3,4,5,6,7,8,28,9,10,11,12] a Q)) (have N:=rb T;wi N<|fU kV 18 Q3 λu31 h27 _ h28=>λN=>eH 3 h28 h27 Q5<|match u31,N with|_,rfl=>sF Q<|swR 3 2 Q<|fD Q Q<|fR Q2<|eJ kV 24 [] h27 () Q7<|fR Q2<|eJ bK 13 [16,17,27,19,20,21,22] h23 s51 Q7<|fR Q2<|fO (p:=(b.Key,b.NP,b.cT)) () [23,1,2,3,4,5,6,7,8,28,9,10,11,12] a Q)) (have M:=rb hA6;ro bK 0 12 1 Q Q Q Q M λu32 h29 M s52=>match u32,M with|_,rfl=>dS Q2 (have L:=rb T;wi L<|fU kV 18 Q3 λu33 h31 _ h32=>λL=>eH 2 h32 h31 Q5<|match u33,L with|_,rfl=>(by refine dS Q2 ?_ ?_<;>exact sF Q<|fR Q2<|eJ kV 23 [] h31 () Q7<|fR Q2<|eJ bK 13 [16,17,27,19,20,21,22] h29 s52 Q7<|fR Q2<|fO (p:=(b.Key,b.NP,b.cT)) () [26,1,2,3,4,5,6,7,8,28,9,10,11,12] a Q)) (have K:=rb T;wi K<|fU kV 18 Q3 λu34 h33 _ h34=>λK=>eH 3 h34 h33 Q5<|match u34,K with|_,rfl=>sF Q<|swR 3 2 Q<|fD Q Q<|fR Q2<|eJ kV 24 [] h33 () Q7<|fR Q2<|eJ bK 13 [16,17,27,19,20,21,22] h29 s52 Q7<|fR Q2<|fO (p:=(b.Key,b.NP,b.cT)) () [23,1,2,3,4,5,6,7,8,28,9,10,11,12] a Q)) ((by refine dS Q2 ?_ ?_<;>exact have J:=rb hA6;ro bK 0 12 1 Q Q Q Q J λu35 h35 J s53=>match u35,J with|_,rfl=>have G:=rb T;wi G<|fU kV 19 Q3 λu36 h37 _ h38=>λG=>eH 3 h38 h37 Q5<|match u36,G with|_,rfl=>sF Q<|swR 3 2 Q<|fD Q Q<|fR Q2<|eJ kV 24 [] h37 () Q7<|fR Q2<|eJ bK 14 [17,18,27,20,21,22,23] h35 s53 Q7<|fR Q2<|fO (p:=(b.Key,b.NP,b.cT)) () [13,1,2,3,4,5,6,7,8,28,9,10,11,12] a Q))) λ⟨x3,x4,x5⟩ _=>dE aC [0,12,13] Q<|c0 Q (λ_=>Z9) λx6=>fU kG 8 Q3 λx7 z _ h6=>λa=>eH 4 h6 z Q5<|ro bK 9 13 1 Q Q Q Q a λF h7 a c=>wi a<|aV [53,54] Q2 (aV [72] Q2 (cR 18 1 0 32 [20,21,22,23,24,25,26] Q5 (λ_=>L8 (j:=({F with Pc:=10,H:=x7.Head,jH:=0}:aK))) λx9 _=>λa=>sF Q<|fR Q2<|gR bK 17 [27,28,29,30,31,32,33] [] x9 c Q8<|fR Q2<|iS f bI.symm [] [(12,9)] Q3<|fR Q2<|eJ kG 14 [] z () Q7<|fR Q2<|iM (X,W,V,U) [12,1,2,3,4,5,6,7,35,34,10,11] a Q2 Q4)<|λa=>sF Q<|fR Q2<|gR bK 17 [20,21,22,23,24,25,26] [] ({F with Pc:=10,H:=x7.Head,jH:=0}:aK) c Q8<|fR Q2<|iS f bI.symm [] [(12,9)] Q3<|fR Q2<|eJ kG 14 [] z () Q7<|fR Q2<|iM (X,W,V,U) [12,1,2,3,4,5,6,7,28,27,10,11] a Q2 Q4)<|aV [76,77] Q2 (dE aC [0,12,13,16,19] Q<|c0 Q (λh=>aF5 (h.o 1 Q) (h.o 2 Q) (h.o 3 Q) (h.o 4 Q)) λB=>dE aC [0,12,13,16,19] Q<|aV [109,117] Q2 (λa=>sF Q<|fR Q2<|gR bK 17 [20,21,22,23,24,25,26] [] ({F with Pc:=11,Node:=B.1}:aK) c Q8<|fR Q2<|iS f bI.symm [] [(12,9)] Q3<|fR Q2<|eJ kG 14 [] z () Q7<|fR Q2<|iM (X,W,V,U) [12,1,2,3,4,5,6,7,28,27,10,11] a Q2 Q4)<|c0 Q (λ_=>eF) λx11=>aV [121,127] Q2 (cR 18 1 0 32 [20,21,22,23,24,25,26] Q5 (λ_=>L8 (j:=({F with Node:=B.1}:aK))) λx12 _=>λa=>sF Q<|fR Q2<|gR bK 17 [27,28,29,30,31,32,33] [] x12 c Q8<|fR Q2<|iS f bI.symm [] [(12,9)] Q3<|fR Q2<|eJ kG 14 [] z () Q7<|fR Q2<|iM (X,W,V,U) [12,1,2,3,4,5,6,7,35,34,10,11] a Q2 Q4)<|cH 0 5 (EJ t) [0] (λ(x13:bq) (_:Unit)=>[]) [1,2,3,4,5,6,7,10,11] (λx13 _=>[ow i (t.bC:ba),ow f (x13:bq),.box 0 [.h X t.aA.Mem.Heap.Bytes.length,.h W t.aA.Mem.Heap.Class.length,.h V t.aA.Mem.aD.Global.length,.h U t.aA.Mem.aD.Own.length,I t.aA.aI.aP,.h x t.aA.aI.bV.length,.h w t.aA.aQ.length,.h v t.aA.iU.length,.h i t.bC.length,.h f x13.length,.h e t.aY.length,.h d t.Log.length,I t.aG]]) Q (dE aC [0,12,13,16,19] Q<|λa=>bd a λx14 hA1 a=>dS Q2 (ES hA1 Q (λ_=>eF)<|sF Q<|fR Q2<|gR bK 17 [20,21,22,23,24,25,26] [] ({F with H:=x14,jH:=F.H,Node:=B.1}:aK) c Q8<|fR Q2<|iS f bI.symm [] [(12,9)] Q3<|fR Q2<|eJ kG 14 [] z () Q7<|fR Q2<|fO (p:=(t.aH.set E.toNat ({F with H:=x14,jH:=F.H,Node:=B.1}:aK))) () [28,27,12,1,2,3,4,5,6,7,10,11] a Q) ((by refine dS Q2 ?_ ?_<;>exact ES hA1 Q (λ_=>eF)<|sF Q<|fR Q2<|gR bK 17 [20,21,22,23,24,25,26] [] ({F with H:=x14,jH:=F.H,Node:=B.1}:aK) c Q8<|fR Q2<|iS f bI.symm [] [(12,9)] Q3<|fR Q2<|eJ kG 14 [] z () Q7<|fR Q2<|fO (p:=(t.aH.set E.toNat ({F with H:=x14,jH:=F.H,Node:=B.1}:aK))) () [28,27,12,1,2,3,4,5,6,7,10,11] a Q))) λx13 _=>CS (X,W,V,U) [2,3,4,5,6,7,8,9,0,1,10,11] Q Q)<|aV [131,132] Q2 (cH 0 5 (oR E x3 x4 x5) [0,4,5] (λ(A:Table) (u:A4C)=>[]) [13,0] (λA u=>(oTb A u.1 u.2.1 u.2.2.1 u.2.2.2 x w v i f e d [.box 0 (QQ A u.1 u.2.1 u.2.2.1 u.2.2.2 x w v i f e d)])) Q (aV [137] Q2 (c0 Q (λ_=>eF) λx25=>λa=>sF Q<|fR Q2<|eJ bK 17 [20,21,22,23,24,25,26] h7 c Q7<|fR Q2<|gR kG 14 [] [39] ({x7 with Head:=x25}:dR) () Q8<|fR Q2<|iS i bI.symm [] [(12,8)] Q3<|fR Q2<|fO (X,W,V,U) [1,2,3,4,5,6,7,28,27,10,11,12,13,0] a Q)<|cH 0 5 (EL E x3 x4 x5) [0,4,5] (λ(R:Table) (u:A4C)=>[]) [13,0] (λR u=>(oTb R u.1 u.2.1 u.2.2.1 u.2.2.2 x w v i f e d [.box 0 (QQ R u.1 u.2.1 u.2.2.1 u.2.2.2 x w v i f e d)])) Q (dE aC [0,13,16,19] Q<|λa=>bd a λx27 s a=>bd a λk q a=>aE1 Q Q (dS Q2 (ES s Q (λ_=>eF)<|I5 q Q (λh=>tO (h.o 1 Q) (h.o 2 Q) (h.o 3 Q) (h.o 4 Q)) λs37=>sF Q<|fR Q2<|eJ bK 17 [20,21,22,23,24,25,26] h7 c Q7<|fR Q2<|eJ kG 14 [] z () Q7<|fR Q2<|fO (p:=(({t with aA:=(⟨k.1,t.aA.aI,t.aA.aQ,t.aA.iU⟩:aA)}:Table))) s37 [27,28,29,30,5,6,7,32,31,10,11,12,13,0] a Q) ((by refine dS Q2 ?_ ?_<;>exact ES s Q (λ_=>eF)<|I5 q Q (λh=>tO (h.o 1 Q) (h.o 2 Q) (h.o 3 Q) (h.o 4 Q)) λs38=>sF Q<|fR Q2<|eJ bK 17 [20,21,22,23,24,25,26] h7 c Q7<|fR Q2<|eJ kG 14 [] z () Q7<|fR Q2<|fO (p:=(({t with aA:=(⟨k.1,t.aA.aI,t.aA.aQ,t.aA.iU⟩:aA)}:Table))) s38 [27,28,29,30,5,6,7,32,31,10,11,12,13,0] a Q))) (dS Q2 (ES s Q (λ_=>eF)<|I5 q Q (λh=>tO (h.o 1 Q) (h.o 2 Q) (h.o 3 Q) (h.o 4 Q)) λs40=>sF Q<|fR Q2<|eJ bK 17 [20,21,22,23,24,25,26] h7 c Q7<|fR Q2<|eJ kG 14 [] z () Q7<|fR Q2<|fO (p:=(({t with aA:=(⟨k.1,t.aA.aI,t.aA.aQ,t.aA.iU⟩:aA)}:Table))) s40 [27,28,29,30,5,6,7,32,31,10,11,12,13,0] a Q) ((by refine dS Q2 ?_ ?_<;>exact ES s Q (λ_=>eF)<|I5 q Q (λh=>tO (h.o 1 Q) (h.o 2 Q) (h.o 3 Q) (h.o 4 Q)) λs41=>sF Q<|fR Q2<|eJ bK 17 [20,21,22,23,24,25,26] h7 c Q7<|fR Q2<|eJ kG 14 [] z () Q7<|fR Q2<|fO (p:=(({t with aA:=(⟨k.1,t.aA.aI,t.aA.aQ,t.aA.iU⟩:aA)}:Table))) s41 [27,28,29,30,5,6,7,32,31,10,11,12,13,0] a Q))) (aE1 Q Q ((by refine dS Q2 ?_ ?_<;>exact ES s Q (λ_=>eF)<|I5 q Q (λh=>tO (h.o 1 Q) (h.o 2 Q) (h.o 3 Q) (h.o 4 Q)) λs43=>sF Q<|fR Q2<|eJ bK 17 [20,21,22,23,24,25,26] h7 c Q7<|fR Q2<|eJ kG 14 [] z () Q7<|fR Q2<|fO (p:=(({t with aA:=(⟨k.1,t.aA.aI,t.aA.aQ,t.aA.iU⟩:aA)}:Table))) s43 [27,28,29,30,5,6,7,32,31,10,11,12,13,0] a Q)) ((by refine dS Q2 ?_ ?_<;>exact ES s Q (λ_=>eF)<|I5 q Q (λh=>tO (h.o 1 Q) (h.o 2 Q) (h.o 3 Q) (h.o 4 Q)) λs45=>sF Q<|fR Q2<|eJ bK 17 [20,21,22,23,24,25,26] h7 c Q7<|fR Q2<|eJ kG 14 [] z () Q7<|fR Q2<|fO (p:=(({t with aA:=(⟨k.1,t.aA.aI,t.aA.aQ,t.aA.iU⟩:aA)}:Table))) s45 [27,28,29,30,5,6,7,32,31,10,11,12,13,0] a Q)) (ES s Q (λ_=>eF)<|(by refine dS Q2 ?_ ?_<;>exact I5 q Q (λh=>tO (h.o 1 Q) (h.o 2 Q) (h.o 3 Q) (h.o 4 Q)) λs47=>sF Q<|fR Q2<|eJ bK 17 [20,21,22,23,24,25,26] h7 c Q7<|fR Q2<|eJ kG 14 [] z () Q7<|fR Q2<|fO (p:=(({t with aA:=(⟨k.1,t.aA.aI,t.aA.aQ,t.aA.iU⟩:aA)}:Table))) s47 [27,28,29,30,5,6,7,32,31,10,11,12,13,0] a Q)))) λR ⟨s32,s33,s34,s35⟩=>iO (p:=(R)) (s32,s33,s34,s35) [0,1,2,3,4,5,6,7,8,9,10,11,12,13] Q2) λA ⟨o,n,m,l⟩=>cH 1 5 (oQ E x3 x4 x5) [0,4,5] (λ(Z:Table) (_:Unit)=>[]) [12,13] (λZ _=>(oTb Z o n m l x w v i f e d [.box 0 (QQ Z o n m l x w v i f e d)])) Q (cH 0 5 (λ(p:Bool×Table)=>uH E x3 x4 x5 p.1 p.2) [0,4,5] (λ(p:Bool×Table) (_:Unit)=>[(180,.b p.1)]) [12,13] (λp _=>(oTb p.2 o n m l x w v i f e d [.box 0 (QQ p.2 o n m l x w v i f e d)])) Q (λa=>ro bK 8 12 1 Q Q Q Q a λx23 h17 a s31=>wi a<|c0 Q (λ_=>iX) λx24=>eV [172,173] Q2 (λa=>sF Q<|fR Q2<|eJ bK 14 [17,18,19,20,21,22,23] h17 s31 Q7<|fR Q2<|fO (p:=(decide ((x23.bW.length:Int)<6),A)) () [0,1,2,3,4,5,6,7,24,9,10,11,12,13] a Q)<|λa=>sF Q<|fR Q2<|eJ bK 14 [17,18,19,20,21,22,23] h17 s31 Q7<|fR Q2<|fO (p:=(false,A)) () [0,1,2,3,4,5,6,7,24,9,10,11,12,13] a Q) λ⟨x19,Y⟩ _=>aV [180] Q2 (cH 0 5 (EK E x3 x4 x5) [0,4,5] (λ(S:Table) (_:Unit)=>[]) [12,13] (λS _=>(oTb S o n m l x w v i f e d [.box 0 (QQ S o n m l x w v i f e d)])) Q (dE aC [11,12,13] Q<|λa=>bd a λg hA2 a=>nd a λhA3 a=>dS Q2 (have hq4:=rb hA2;ro bK 8 12 1 Q Q Q Q hq4 λu4 h13 hq4 D=>match u4,hq4 with|_,rfl=>lt1 Q aX Q4 λs24=>have hq5:=rn hA3;ap 23 aX Q Q Q Q Q Q Q (λh=>(h.o 24 Q)) Q Q hq5 λhq5 s25=>sF Q<|fR Q2<|gR bK 14 [17,18,19,20,21,22,23] [] ({g with bW:=g.bW++([g.H])}:aK) (D.1,D.2.1,D.2.2.1,D.2.2.2.1,D.2.2.2.2.1,D.2.2.2.2.2.1,s25) Q8<|fR Q2<|iS f bI.symm [] [(11,9)] Q3<|fR Q2<|fO (p:=(({Y with aH:=Y.aH.set E.toNat ({g with bW:=g.bW++([g.H])}:aK)}:Table))) () [0,1,2,3,4,5,6,7,25,9,10,11,12,13] a Q) (have hq6:=rb hA2;ro bK 8 12 1 Q Q Q Q hq6 λu5 h15 hq6 C=>match u5,hq6 with|_,rfl=>(by refine dS Q2 ?_ ?_<;>exact lt1 Q aX Q4 λs27=>have hq7:=rn hA3;ap 23 aX Q Q Q Q Q Q Q (λh=>(h.o 24 Q)) Q Q hq7 λhq7 s28=>sF Q<|fR Q2<|gR bK 14 [17,18,19,20,21,22,23] [] ({g with bW:=g.bW++([g.H])}:aK) (C.1,C.2.1,C.2.2.1,C.2.2.2.1,C.2.2.2.2.1,C.2.2.2.2.2.1,s28) Q8<|fR Q2<|iS f bI.symm [] [(11,9)] Q3<|fR Q2<|fO (p:=(({Y with aH:=Y.aH.set E.toNat ({g with bW:=g.bW++([g.H])}:aK)}:Table))) () [0,1,2,3,4,5,6,7,25,9,10,11,12,13] a Q))) λS _=>bQ (p:=(S)) [0,1,2,3,4,5,6,7,8,9,10,11,12,13] Q2)<|bQ [0,1,2,3,4,5,6,7,8,9,10,11,12,13] Q2) λZ _=>λa=>ro bK 8 12 1 Q Q Q Q a λx17 h9 a s19=>wi a<|cR 15 1 0 32 [17,18,19,20,21,22,23] Q5 (λ_=>L8) λx18 _=>λa=>sF Q<|fR Q2<|gR bK 14 [24,25,26,27,28,29,30] [] x18 s19 Q8<|fR Q2<|iS f bI.symm [] [(11,9)] Q3<|fR Q2<|iM (o,n,m,l) [11,0,1,2,3,4,5,6,7,31,9,10] a Q2 Q4)<|bN1 12 0 0 13 18 1 0 32 15 4 0 3 [1,2,3,4,5,6,7,10,11,20,21,22,23,24,25,26] Q Q Q Q Q (λ_=>aJI) λx29 s49=>λa=>fG Q Q<|sF Q<|fR Q2<|gR bK 17 [36,37,38,39,40,41,42] [] x29.2.1 c Q8<|fR Q2<|iS f bI.symm [] [(12,9)] Q3<|fR Q2<|gR kG 14 [] [39] x29.2.2 () Q8<|fR Q2<|iS i bI.symm [] [(12,8)] Q3<|fR Q2<|iM s49 [12,27,28,29,30,31,32,33,44,43,34,35] a Q2 Q4
theorem QU{s:al}{i j:Int}:VS prog κ 207 (sN s i j) [.h e s.length,I i,I j] [] [ow e (s:al)] (λr (y:AC)=>.h y r.length) (λr y=>[ow y r]):=
 bZ call207 func207 Q Q2<|λa=>cpc 0 Q Q λb=>aXZ b Q Q Q Q Q Q Q Q a λa k=>wi a<|aV [16] Q2 (dD e [0] Q2)<|dE aC [] Q<|λa=>aMT b Q6 a λa h=>aE3 b Q6 a λa g=>nd a λf a=>ap2 0 i.toNat j.toNat ⟨f,g.1⟩ Q Q Q Q Q Q Q Q Q λc=>a7C 0 (i.toNat+(s.length-j.toNat)) c.2 (wV c.1 c.2) Q Q Q Q Q Q Q Q Q a λa d=>clr 0 (((((dM s i.toNat (s.drop j.toNat)).take (i.toNat+(s.length-j.toNat))).drop 0).length:Int).toNat) ((s.length:Int).toNat) (0:Int) d aX Q (λ_=>Q) Q Q Q Q Q Q Q Q<|sR Q<|poR 0 0 (i.toNat+(s.length-j.toNat)) Q Q (aXY c (wI d.1 d.2)) (aPH (QM (by rw[MK,wV c.1 c.2];rfl)) (wI d.1 d.2))<|iM (AC.sub e 1 0) [0] a Q2 Q4
theorem L9{h f b:AC}{s:Nat×Nat}:VS prog κ 208 (nD j) [.p 0 0] [s] ([.box 0 (YB j h g f e d c b)]++(YC j h g f e d c b [])) (λr (y:Unit)=>.t []) (λr y=>([.box 0 (YB r h g f e d c b)]++(YC r h g f e d c b []))):=
 bZ call208 func208 Q Q2<|dE aC [0] Q<|aV [11] Q2 (cH 0 1 vO [0] (λ(k:aK) (_:Unit)=>[]) [] (λk _=>(YC k h g f e d c b [.box 0 (YB k h g f e d c b)])) Q (dE aC [] Q<|λi=>bd i λt m i=>bd i λo l i=>(by refine dS Q2 ?_ ?_<;>exact have a:=rb m;wi a<|fU oI 7 Q3 λu1 n _ q=>λa=>eH 1 q n Q5<|match u1,a with|_,rfl=>ES l Q (λ_=>jP)<|sF Q<|eJ oI 8 [] n () Q7<|fO (p:=(({j with Sub:=o}:aK))) () [1,2,3,4,5,6,11,0] i Q)) λk _=>CS () [7,0,1,2,3,4,5,6] Q Q)<|CS () [0,1,2,3,4,5,6,7] Q Q
theorem aE9{u:Int}{o h f:AC}{G:Nat×Nat}:VS prog κ 87 (AN t u) [.p 0 0,I u] [G] ([.box 0 (QQ t o n m l k i h g f d c)]++(oTb t o n m l k i h g f d c [])) (λr (y:Unit)=>.t []) (λr y=>([.box 0 (QQ r o n m l k i h g f d c)]++(oTb r o n m l k i h g f d c []))):=
 bZ call87 func87 Q Q2<|fU bK 9 Q3 λx w e F=>λa=>eH 1 F w Q5<|wi a<|aV [20,26] Q2 (dE aC [0,14] Q<|fU oI 20 Q3 λH v _ E=>λa=>eH 2 E v Q5<|wi a<|fU kG 8 Q3 λq D _ C=>λa=>eH 3 C D Q5<|wi a<|cH 0 4 (nE t u) [0,4] (λ(p:ba) (_:Unit)=>[]) [1,2,3,4,5,6,7,10,11,14] (λp _=>[ow g (p:ba),ow f (t.aH:bq),.box 0 [.h o t.aA.Mem.Heap.Bytes.length,.h n t.aA.Mem.Heap.Class.length,.h m t.aA.Mem.aD.Global.length,.h l t.aA.Mem.aD.Own.length,I t.aA.aI.aP,.h k t.aA.aI.bV.length,.h i t.aA.aQ.length,.h h t.aA.iU.length,.h g p.length,.h f t.aH.length,.h d t.aY.length,.h c t.Log.length,I t.aG]]) Q (aV [45] Q2 (λa=>a8X Q Q Q Q<|sF Q<|fR Q2<|gR kG 25 [] [30] (⟨q.Head,if 1000000<(bB (q.iF+1)) then 1000000 else(bB (q.iF+1)),0⟩:dR) () Q8<|iS g bI.symm [] [(0,8)] Q3<|fR Q2<|eJ oI 22 [] v () Q7<|fR Q2<|eJ bK 12 [15,16,17,18,19,29,21] w e Q7<|fR Q2<|fO () [28,30,0,1,2,3,4,5,6,7,10,11,14] a Q)<|λa=>sF Q<|fR Q2<|gR kG 25 [] [30] ({q with jC:=0}:dR) () Q8<|fR Q2<|iS g bI.symm [] [(0,8)] Q3<|fR Q2<|eJ oI 22 [] v () Q7<|fR Q2<|eJ bK 12 [15,16,17,18,19,29,21] w e Q7<|fR Q2<|fO () [28,30,0,1,2,3,4,5,6,7,10,11,14] a Q) λp _=>λa=>ro bK 1 12 1 Q Q Q Q a λB J a b=>wi a<|gP [21] Q4 (λ_=>QU) λA s=>λa=>sF Q<|fR Q2<|gR bK 13 [16,17,18,19,20,23,22] [] ({B with bM:=A}:aK) (b.1,b.2.1,b.2.2.1,b.2.2.2.1,b.2.2.2.2.1,s,b.2.2.2.2.2.2) Q8<|fR Q2<|iS f bI.symm [] [(2,9)] Q3<|fR Q2<|iM () [2,3,4,5,6,7,8,9,0,24,10,11] a Q2 Q4)<|aV [63,68] Q2 (λa=>sF Q<|fR Q2<|gR bK 12 [15,16,17,18,19,20,21] [9] ({x with Pc:=17}:aK) e Q8<|fR Q2<|iS f bI.symm [] [(0,9)] Q3<|fR Q2<|iM () [0,1,2,3,4,5,6,7,8,22,10,11] a Q2 Q4)<|cR 13 1 0 32 [15,16,17,18,19,20,21] Q5 (λ_=>L9 (j:=({x with Pc:=15,K:=0}:aK))) λz _=>λa=>sF Q<|fR Q2<|gR bK 12 [22,23,24,25,26,27,28] [9] z e Q8<|fR Q2<|iS f bI.symm [] [(0,9)] Q3<|fR Q2<|iM () [0,1,2,3,4,5,6,7,8,29,10,11] a Q2 Q4
theorem aFA{n:Int}{v o h b:AC}{D:Nat×Nat}:VS prog κ 88 (AO t n) [.p 0 0,I n] [D] ([.box 0 (QQ t w v u s q o h g d c b)]++(oTb t w v u s q o h g d c b [])) (λr (y:A6C)=>.t []) (λr y=>([.box 0 (QQ r y.1 y.2.1 y.2.2.1 y.2.2.2.1 y.2.2.2.2.1 y.2.2.2.2.2 h g d c b)]++(oTb r y.1 y.2.1 y.2.2.1 y.2.2.2.1 y.2.2.2.2.1 y.2.2.2.2.2 h g d c b []))):=
 bZ call88 func88 Q Q2<|fU bK 9 Q3 λm z k C=>λa=>eH 1 C z Q5<|wi a<|cH 0 2 (λ(_:Unit)=>B6 t n m) [0,1,4] (λ(_:Unit) (_:Unit)=>[(20,.b (decide ((m.bW.length:Int)<=m.K)))]) [1,2,3,4,5,6,7,8,10,11,0,14] (λ_ _=>[ow d (t.aH:bq)]) Q (dE aC [0,14] Q<|λa=>(by refine dS Q2 ?_ ?_<;>exact sF Q<|fR Q2<|eJ bK 12 [15,16,17,18,19,20,21] z k Q7<|fR Q2<|fO (p:=()) () [22,1,2,3,4,5,6,7,8,10,11,0,14] a Q)) λ_ _=>aV [20] Q2 (λa=>ro bK 0 12 1 Q Q Q Q a λB F a i=>sR Q<|fR Q2<|gR bK 13 [16,17,18,19,20,21,22] [] ({B with Pc:=18}:aK) i Q8<|fR Q2<|iS d bI.symm [] [(11,9)] Q3<|fR Q2<|iM (w,v,u,s,q,o) [11,1,2,3,4,5,6,7,8,23,9,10] a Q2 Q4)<|dE aC [12] Q<|λa=>ro bK 0 12 1 Q Q Q Q a λl E a f=>wi a<|aGP 14 1 16 10 11 0 0 8 [1,2,3,4,5,6,7] Q5 (λ_=>kK) λx e=>aV [36] Q2 (cR 14 1 0 32 [16,17,18,19,20,21,22] Q5 (λ_=>L9 (j:=({l with K:=bB (l.K+1),Sub:=x.1}:aK))) λA _=>λa=>sF Q<|fR Q2<|gR bK 13 [30,31,32,33,34,35,36] [] A f Q8<|fR Q2<|iS d bI.symm [] [(11,9)] Q3<|fR Q2<|iM e [11,23,24,25,26,27,28,29,8,37,9,10] a Q2 Q4)<|λa=>sF Q<|fR Q2<|gR bK 13 [16,17,18,19,20,21,22] [] ({l with Sub:=x.1}:aK) f Q8<|fR Q2<|iS d bI.symm [] [(11,9)] Q3<|fR Q2<|iM e [11,23,24,25,26,27,28,29,8,30,9,10] a Q2 Q4
theorem aR6{m:Mem}{e:Int}{j f:AC}(d:bJ κ j m.Heap.Bytes)(c:bJ κ i m.Heap.Class)(b:bJ κ g m.aD.Global)(a:bJ κ f m.aD.Own):VS prog κ 210 (R4 m e h) [.g (gM m j i g f),I e,I h] [] [] (λr (y:A4C)=>.t [.g (yM r.1 y),I r.2]) (λr y=>(zM r.1 y [])):=
 bZ call210 func210 Q Q2<|dJ 0 2 (G3 m e h) [1,2,3,6] 8 [0,1] Q (c0 Q (λh=>L4 (h.a d) (h.a c) (h.a b) (h.a a)) λp=>eV [11,12] Q2 (bQ [0,1] Q2)<|c0 Q (λ_=>hJ) λo=>bQ [0,1] Q2) λv=>aV [8] Q2 (c1 Q (λh=>vZ (h.a d) (h.a c) (h.a b) (h.a a)) λu n=>dD n [2,3,4,5] Q2)<|c0 Q (λh=>FU (h.a d) (h.a c) (h.a b) (h.a a)) λt=>aV [19,23] Q2 (c1 Q (λh=>vZ (h.a d) (h.a c) (h.a b) (h.a a)) λs l=>dD l [2,3,4,5] Q2)<|c1 Q (λh=>aI5 (h.a d) (h.a c) (h.a b) (h.a a)) λq k=>dD k [2,3,4,5] Q2
theorem aJJ{u:Int}{o j b:AC}{A:Nat×Nat}:VS prog κ 89 (G4 t u) [.p 0 0,I u] [A] ([.box 0 (QQ t o n m l k j i g e c b)]++(oTb t o n m l k j i g e c b [])) (λr (y:A4C)=>.t []) (λr y=>([.box 0 (QQ r y.1 y.2.1 y.2.2.1 y.2.2.2 k j i g e c b)]++(oTb r y.1 y.2.1 y.2.2.1 y.2.2.2 k j i g e c b []))):=
 bZ call89 func89 Q Q2<|fU bK 9 Q3 λq z a x=>λd=>eH 1 x z Q5<|wi d<|aV [17] Q2 (λd=>sR Q<|fR Q2<|gR bK 12 [15,16,17,18,19,20,21] [9] ({q with Pc:=18}:aK) a Q8<|fR Q2<|iS e bI.symm [] [(0,9)] Q3<|fR Q2<|iM (o,n,m,l) [0,1,2,3,4,5,6,7,8,22,10,11] d Q2 Q4)<|fU oI 19 Q3 λD v _ w=>λd=>eH 2 w v Q5<|EX oI 22 [] v () Q9<|wi d<|gP [25] Q4 (λ_=>QU) λs f=>c0 Q (λh=>TW (h.o 6 Q)) λC=>aV [43] Q2 (c1 Q (λh=>aR6 (h.o 1 Q) (h.o 2 Q) (h.o 3 Q) (h.o 4 Q)) λB p=>λd=>sF Q<|fR Q2<|gR bK 12 [15,16,17,18,26,20,21] [9] ({q with eC:=s}:aK) (a.1,a.2.1,a.2.2.1,a.2.2.2.1,f,a.2.2.2.2.2.1,a.2.2.2.2.2.2) Q8<|fR Q2<|iS e bI.symm [] [(0,9)] Q3<|fR Q2<|iM p [0,27,28,29,30,5,6,7,8,31,10,11] d Q2 Q4)<|λd=>sF Q<|fR Q2<|gR bK 12 [15,16,17,18,26,20,21] [9] ({q with eC:=s}:aK) (a.1,a.2.1,a.2.2.1,a.2.2.2.1,f,a.2.2.2.2.2.1,a.2.2.2.2.2.2) Q8<|fR Q2<|iS e bI.symm [] [(0,9)] Q3<|fR Q2<|iM (o,n,m,l) [0,1,2,3,4,5,6,7,8,27,10,11] d Q2 Q4
theorem aDR{f:Int}{o j h a:AC}{F:Nat×Nat}:VS prog κ 91 (xR t f) [.p 0 0,I f] [F] ([.box 0 (QQ t o n m l k j i h g a q)]++(oTb t o n m l k j i h g a q [])) (λr (y:AC)=>.t []) (λr y=>([.box 0 (QQ r o n m l k j i h g a y)]++(oTb r o n m l k j i h g a y []))):=
 bZ call91 func91 Q Q2<|fU bK 9 Q3 λe C x B=>λb=>eH 1 B C Q5<|wi b<|aV [21] Q2 (cH 0 4 (λ(_:Unit)=>MT t f e) [0,1] (λ(_:Unit) (d:AC)=>[]) [1,2,3,4,5,6,7,8,10,15,16,17,19,20,21,12,13,14] (λ_ d=>[ow d (t.Log++([({e with Kind:=3,Who:=f,b8:=[]}:wH)]):bs),.box 0 [.h o t.aA.Mem.Heap.Bytes.length,.h n t.aA.Mem.Heap.Class.length,.h m t.aA.Mem.aD.Global.length,.h l t.aA.Mem.aD.Own.length,I t.aA.aI.aP,.h k t.aA.aI.bV.length,.h j t.aA.aQ.length,.h i t.aA.iU.length,.h h t.bC.length,.h g t.aH.length,.h a t.aY.length,.h d (t.Log++([({e with Kind:=3,Who:=f,b8:=[]}:wH)])).length,I t.aG]]) Q (dE aC [14,22,23] Q<|λb=>nd b λA b=>(by refine dS Q2 ?_ ?_<;>exact nw oV Q<|HN aRB [24,18] (({e with Kind:=3,Who:=f,b8:=[]}:wH)) (⟨none,0⟩,x.2.2.2.1) fK HO λE=>have u:=rn A;apN 11 25 fK Q Q Q9 u λu w=>wi b<|iO (p:=()) w [26,0,1,2,3,4,5,6,7,8,10,15,16,17,19,20,21,12,13,14] Q2)) λ_ d=>λb=>eH 1 B C Q5<|sF Q<|fR Q2<|lP oV<|lP Seen<|lP aW<|lP eD<|lP Int<|lP Int<|lP Int<|fR Q2<|gR bK 17 [20,21,22,23,24,25,26] [38] zL0 (⟨none,0⟩,⟨none,0⟩,⟨none,0⟩,⟨none,0⟩,⟨none,0⟩,⟨none,0⟩,⟨none,0⟩) Q8<|fR Q2<|iS g bI.symm [] [(1,9)] Q3<|fR Q2<|iM d [1,2,3,4,5,6,7,8,9,27,10,0] b Q2 Q4)<|cH 0 4 (λ(_:Unit)=>MU t f e) [0,1] (λ(_:Unit) (c:AC)=>[]) [1,2,3,4,5,6,7,8,10,15,16,17,18,19,20,21,12,13,14] (λ_ c=>[ow c (t.Log++([(⟨3,f,e.aG,e.Code,[],[]⟩:wH)]):bs),.box 0 [.h o t.aA.Mem.Heap.Bytes.length,.h n t.aA.Mem.Heap.Class.length,.h m t.aA.Mem.aD.Global.length,.h l t.aA.Mem.aD.Own.length,I t.aA.aI.aP,.h k t.aA.aI.bV.length,.h j t.aA.aQ.length,.h i t.aA.iU.length,.h h t.bC.length,.h g t.aH.length,.h a t.aY.length,.h c (t.Log++([(⟨3,f,e.aG,e.Code,[],[]⟩:wH)])).length,I t.aG]]) Q (dE aC [14,22,23] Q<|λb=>nd b λz b=>(by refine dS Q2 ?_ ?_<;>exact nw oV Q<|nw eD Q<|HN aRB [24,25] ((⟨3,f,e.aG,e.Code,[],[]⟩:wH)) (⟨none,0⟩,⟨none,0⟩) fK HO λD=>have s:=rn z;apN 11 26 fK Q Q Q9 s λs v=>wi b<|iO (p:=()) v [27,0,1,2,3,4,5,6,7,8,10,15,16,17,18,19,20,21,12,13,14] Q2)) λ_ c=>λb=>eH 1 B C Q5<|sF Q<|fR Q2<|lP oV<|lP Seen<|lP aW<|lP eD<|lP Int<|lP Int<|lP Int<|fR Q2<|gR bK 18 [21,22,23,24,25,26,27] [38] zL0 (⟨none,0⟩,⟨none,0⟩,⟨none,0⟩,⟨none,0⟩,⟨none,0⟩,⟨none,0⟩,⟨none,0⟩) Q8<|fR Q2<|iS g bI.symm [] [(1,9)] Q3<|fR Q2<|iM c [1,2,3,4,5,6,7,8,9,28,10,0] b Q2 Q4
theorem aJK{o:Int}{h f a:AC}{Y:Nat×Nat}:VS prog κ 39 (G5 t o) [.p 0 0,I o] [Y] ([.box 0 (QQ t i h g f d c q p l k a)]++(oTb t i h g f d c q p l k a [])) (λr (y:A7C)=>.t []) (λr y=>([.box 0 (QQ r y.1 y.2.1 y.2.2.1 y.2.2.2.1 y.2.2.2.2.1 y.2.2.2.2.2.1 q p l k y.2.2.2.2.2.2)]++(oTb r y.1 y.2.1 y.2.2.1 y.2.2.2.1 y.2.2.2.2.1 y.2.2.2.2.2.1 q p l k y.2.2.2.2.2.2 []))):=
 bZ call39 func39 Q Q2<|fU bK 9 Q3 λJ n j X=>λb=>eH 1 X n Q5<|wi b<|aV [18,23] Q2 (λb=>EX bK 12 [15,16,17,18,19,20,21] n j Q9<|wi b<|cR 0 0 0 13 [1,2,3,4,5,6,7,8,22,10,11] Q5 (λ_=>aG3) λx2 G=>CS (i,h,g,f,d,c,G) [0,23,24,25,26,27,28,29,30,31,32,33] Q Q)<|cH 0 2 (kU t o J) [0,1,4,5] (λ(H:Bool) (_:Unit)=>[(27,.b H)]) [1,2,3,4,5,6,7,8,10,11,0,14] (λH _=>[ow l (t.aH:bq)]) Q (eV [29,30] Q2 (λb=>sF Q<|fR Q2<|eJ bK 12 [15,16,17,18,19,20,21] n j Q7<|fR Q2<|fO () [22,1,2,3,4,5,6,7,8,10,11,0,14] b Q)<|eV [32,33,34] Q2 (λb=>sF Q<|fR Q2<|eJ bK 12 [15,16,17,18,19,20,21] n j Q7<|fR Q2<|fO () [22,1,2,3,4,5,6,7,8,10,11,0,14] b Q)<|λb=>sF Q<|fR Q2<|eJ bK 12 [15,16,17,18,19,20,21] n j Q7<|fR Q2<|fO () [22,1,2,3,4,5,6,7,8,10,11,0,14] b Q) λH _=>aV [27] Q2 (cR 11 0 0 13 [1,2,3,4,5,6,7,8,0,9,10] Q5 (λ_=>aDM) λx4 F=>CS (t6U F (a)) [11,13,14,15,16,17,18,19,20,21,22,23] Q Q)<|aV [41,43] Q2 (λb=>ro bK 0 12 1 Q Q Q Q b λx5 h3 b e=>wi b<|cR 14 1 0 32 [16,17,18,19,20,21,22] Q5 (λ_=>aLD) λW m=>λb=>sF Q<|fR Q2<|gR bK 13 [23,24,25,26,27,28,29] [] W (e.1,e.2.1,m.1,m.2,e.2.2.2.2.1,e.2.2.2.2.2.1,e.2.2.2.2.2.2) Q8<|fR Q2<|iS l bI.symm [] [(11,9)] Q3<|fR Q2<|iM (i,h,g,f,d,c,a) [11,1,2,3,4,5,6,7,8,30,9,10] b Q2 Q4)<|c0 Q (λ_=>cC) λx7=>aV [46,48] Q2 (cR 11 0 0 13 [1,2,3,4,5,6,7,8,0,9,10] Q5 (λ_=>aJE) λx8 _=>CS (i,h,g,f,d,c,a) [11,13,14,15,16,17,18,19,20,21,22,23] Q Q)<|aV [52,54] Q2 (cR 11 0 0 13 [1,2,3,4,5,6,7,8,0,9,10] Q5 (λ_=>aG4) λZ E=>CS (t6U E (a)) [11,13,14,15,16,17,18,19,20,21,22,23] Q Q)<|aV [58,60] Q2 (cR 11 0 0 13 [1,2,3,4,5,6,7,8,0,9,10] Q5 (λ_=>aJH) λV D=>CS (i,h,g,f,d,c,D) [11,13,14,15,16,17,18,19,20,21,22,23] Q Q)<|aV [64,66] Q2 (cR 11 0 0 13 [1,2,3,4,5,6,7,8,0,9,10] Q5 (λ_=>aCK) λU _=>CS (i,h,g,f,d,c,a) [11,13,14,15,16,17,18,19,20,21,22,23] Q Q)<|c0 Q (λ_=>cC) λT=>aV [70,72] Q2 (cR 11 0 0 13 [1,2,3,4,5,6,7,8,0,9,10] Q5 (λ_=>aG5) λS C=>CS (t4U C (d,c,a)) [11,13,14,15,16,17,18,19,20,21,22,23] Q Q)<|dJ 0 2 (mL t o J) [0,1,4,5] 76 [1,2,3,4,5,6,7,8,0,9,10,11,12] Q (eV [78,79] Q2 (bQ [1,2,3,4,5,6,7,8,0,9,10,11,12] Q2)<|bQ [1,2,3,4,5,6,7,8,0,9,10,11,12] Q2) λR=>aV [76] Q2 (cR 11 0 0 13 [0,1,2,3,4,5,6,7,8,9,10] Q5 (λ_=>aE9) λP _=>CS (i,h,g,f,d,c,a) [11,13,14,15,16,17,18,19,20,21,22,23] Q Q)<|aV [86,88] Q2 (cR 11 0 0 13 [0,1,2,3,4,5,6,7,8,9,10] Q5 (λ_=>aFA) λO B=>CS (t6U B (a)) [11,13,14,15,16,17,18,19,20,21,22,23] Q Q)<|aV [92,94] Q2 (cR 11 0 0 13 [0,1,2,3,4,5,6,7,8,9,10] Q5 (λ_=>aJJ) λN A=>CS (t4U A (d,c,a)) [11,13,14,15,16,17,18,19,20,21,22,23] Q Q)<|aV [98,100] Q2 (cR 11 0 0 8 [0,1,2,3,4,5,6] Q5 (λ_=>L6) λM z=>λb=>ro bK 8 12 1 Q Q Q Q b λu h5 b x=>sF Q<|fR Q2<|gR bK 20 [23,24,25,26,27,28,29] [] ({u with Pc:=19}:aK) x Q8<|fR Q2<|iS l bI.symm [] [(11,9)] Q3<|fR Q2<|iM (i,h,g,f,z,c,a) [11,13,14,15,16,17,18,19,7,30,9,10] b Q2 Q4)<|aV [109,111] Q2 (cR 11 0 0 13 [0,1,2,3,4,5,6,7,8,9,10] Q5 (λ_=>aDR) λL w=>CS (i,h,g,f,d,c,w) [11,13,14,15,16,17,18,19,20,21,22,23] Q Q)<|λb=>ro bK 8 12 1 Q Q Q Q b λK h7 b v=>wi b<|cR 14 1 0 32 [16,17,18,19,20,21,22] Q5 (λ_=>fI) λs _=>λb=>sF Q<|fR Q2<|gR bK 13 [23,24,25,26,27,28,29] [] s v Q8<|fR Q2<|iS l bI.symm [] [(11,9)] Q3<|fR Q2<|iM (i,h,g,f,d,c,a) [11,0,1,2,3,4,5,6,7,30,9,10] b Q2 Q4
theorem aLF{x:CT}(M:bJ κ B x.aY)(L:bJ κ A x.bG):V0 prog κ 27 (K9 x) [.g [.h B x.aY.length,.h A x.bG.length]] I:=
 bZ call27 func27 Q Q2<|c1 Q (λh=>aOH (h.a M)) λO a=>aV [13] Q2 (cQ Q2)<|λz=>a8X Q Q Q Q<|bCQ Q Q Q Q Q L Q Q z λz P K=>wi z<|D9 (a.1,a.2.1,a.2.2.1,a.2.2.2.1,a.2.2.2.2.1,a.2.2.2.2.2.1,a.2.2.2.2.2.2.2.2.2.2) [3,21,22] (λ(p:Int×Int×Table) (u:A7C)=>[(4,I p.1),(23,I p.2.1)]) [1,2,3,4,5,6,7,8,9,10,11,12] [] (λp u=>(oTb p.2.2 u.1 u.2.1 u.2.2.1 u.2.2.2.1 u.2.2.2.2.1 u.2.2.2.2.2.1 a.2.2.2.2.2.2.1 a.2.2.2.2.2.2.2.1 a.2.2.2.2.2.2.2.2.1 a.2.2.2.2.2.2.2.2.2.1 u.2.2.2.2.2.2 [.box 1 (QQ p.2.2 u.1 u.2.1 u.2.2.1 u.2.2.2.1 u.2.2.2.2.1 u.2.2.2.2.2.1 a.2.2.2.2.2.2.1 a.2.2.2.2.2.2.2.1 a.2.2.2.2.2.2.2.2.1 a.2.2.2.2.2.2.2.2.2.1 u.2.2.2.2.2.2)])) id [] (λ(w:Int) (_:Unit)=>[(4,I w)]) [] (λw _=>[]) Q Q (λG ⟨y,J,H⟩ ⟨t,s,r,q,o,n,m⟩ F=>aV [24] Q2 (cH 2 2 (λ(p:Int×Table)=>sO J p.1 p.2) [3,21,22,23] (λ(p:Int×Table) (u:A7C)=>[(4,I p.1)]) [] (λp u=>(oTb p.2 u.1 u.2.1 u.2.2.1 u.2.2.2.1 u.2.2.2.2.1 u.2.2.2.2.2.1 a.2.2.2.2.2.2.1 a.2.2.2.2.2.2.2.1 a.2.2.2.2.2.2.2.2.1 a.2.2.2.2.2.2.2.2.2.1 u.2.2.2.2.2.2 [.box 1 (QQ p.2 u.1 u.2.1 u.2.2.1 u.2.2.2.1 u.2.2.2.2.1 u.2.2.2.2.2.1 a.2.2.2.2.2.2.1 a.2.2.2.2.2.2.2.1 a.2.2.2.2.2.2.2.2.1 a.2.2.2.2.2.2.2.2.2.1 u.2.2.2.2.2.2)])) Q (ZD Q K Q λD=>c0 Q (λ_=>hJ) λC=>aV [28] Q2 (cR 11 1 0 13 [0,1,2,3,4,5,6,7,8,9,10] Q5 (λ_=>aJK) λc d=>c0 Q (λh=>NH (h.o 18 Q)) λb=>λv=>aXS Q Q Q Q<|wi v<|iO (p:=(if y<b then b else y,c)) d [13,14,15,16,17,18,19,20,21,22,23,11] Q2)<|iO (p:=(y,H)) (t,s,r,q,o,n,m) [0,1,2,3,4,5,6,7,8,9,10,11] Q2) λ⟨N,E⟩ ⟨l,k,j,i,g,f,e⟩=>nxW (l,k,j,i,g,f,e) [0,1,2,3,4,5,6,7,8,9,10,11] Q)<|xY [] Q) λw _=>cQ Q2
theorem aYV{c:oV}:V0 prog κ 311 (ZT c) [.g [I c.Kind,I c.Key,I c.cT]] .b:=
 bZ call311 func311 Q Q2<|dJ 0 1 (OK c) [1] 12 [0] Q (c0 Q (λ_=>bN) λb=>eV [6,7] Q2 (bQ [0] Q2)<|c0 Q (λ_=>bN) λa=>bQ [0] Q2) λf=>aV [12] Q2 (cQ Q2)<|dJ 0 1 (OJ c) [1] 20 [0] Q (eV [15,16] Q2 (bQ [0] Q2)<|bQ [0] Q2) λe=>aV [20] Q2 (c0 Q (λ_=>bN) λd=>cQ Q2)<|cQ Q2
theorem aR7{b:Batch}(e:bJ κ d b.b8):V0 prog κ 170 (R5 b) [.g [.b b.Collect,.h d b.b8.length]] .b:=
 bZ call170 func170 Q Q2<|aV [5] Q2 (cQ Q2)<|SW 3 [1] [0] Out.brk [1] [0] Q Q (λc i a=>aV [14] Q2 (AF bEA Q e Q λg _ _=>c0 Q (λ_=>aYV) λf=>aV [23] Q2 (M0 a c<|cQ Q2)<|F9 [0] Q)<|xY [0] Q)<|c0 Q (λ_=>bN) λh=>cQ Q2
theorem aR8{todo:au}{f:AC}(e:bJ κ f todo):V0 prog κ 72 (R6 todo) [.h f todo.length] .b:=
 bZ call72 func72 Q Q2<|SW 3 [0] [] Out.brk [0] [] Q Q (λb p a=>aV [8] Q2 (AF OT Q e Q λo t v=>aV [17] Q2 (M0 a b<|cQ Q2)<|SW 4 [0,3] [] Out.brk [0,3] [] Q Q (λd n c=>AF OT Q e Q λm s u=>aV [25] Q2 (AF OT Q e Q λl r i=>AF aGU Q i Q λk q g=>c0 Q (λh=>aR7 (h.a g)) λj=>aV [37] Q2 (M0 c d<|M0 a b<|cQ Q2)<|F9 [] Q)<|xY [] Q)<|F9 [] Q)<|xY [] Q)<|cQ Q2
theorem CI{l:bp}{b:AC}(d:bJ κ b l):VS prog κ 293 (DP l) [.h b l.length] [] [] (λr (y:AC)=>.h y r.length) (λr y=>[ow y r]):=
 bZ call293 func293 Q Q2<|λa=>W9 (O:=oV) nG Q4 λe=>ap 0 nG Q Q Q Q Q Q Q (λh=>(h.a d)) Q Q a λa c=>wi a<|dD c [0] Q2
theorem HH{b:Batch}{a:AC}(d:bJ κ a b.b8):VS prog κ 175 (zY b) [.g [.b b.Collect,.h a b.b8.length]] [] [] (λr (y:AC)=>.g [.b r.Collect,.h y r.b8.length]) (λr y=>[ow y r.b8]):=
 bZ call175 func175 Q Q2<|dE aC [0] Q<|c1 Q (λh=>CI (h.a d)) λe c=>dD c [2] Q2
theorem aLG{l:au}(C:bJ κ A l):VS prog κ 74 (LD l) [.h A l.length] [] [] (λr (y:AC)=>.h y r.length) (λr y=>[ow y r]):=
 bZ call74 func74 Q Q2<|λU=>W9 (O:=aR) sY Q4 λT=>wi U<|D9 T [0] (λ(p:au×Int) (q:AC)=>[(3,.h q p.1.length),(4,I p.2)]) [0] [] (λp q=>[ow q (p.1:au)]) id [] (λ(s:au) (o:AC)=>[(3,.h o s.length)]) [] (λs o=>[ow o (s:au)]) Q Q (λR ⟨X,W⟩ q N=>aV [11] Q2 (λd=>nw Batch Q<|wi d<|D9 ⟨none,0⟩ [0,3,4,5] (λ(p:Int×bf) (n:AC)=>[(6,I p.1)]) [2,1,0] [0] (λp n=>[ow n (p.2:bf),.box 0 [.h n p.2.length]]) id [0,3,4,5] (λ(b:bf) (m:AC)=>[]) [0] (λb m=>[ow m (b:bf),.box 0 [.h m b.length]]) Q Q (λP ⟨S,z⟩ n M=>AF OT Q C Q λF L Z=>aV [22] Q2 (cH 0 2 (LA S) [0,3,4,5,6] (λ(f:bf) (c:AC)=>[]) [2] (λf c=>[ow c (f:bf),.box 0 [.h c f.length]]) Q (dE aC [3] Q<|AF OT Q C Q λE K V=>AF aGU Q V Q λD J B=>λa=>bd a λe k a=>nd a λj a=>dS Q2 (I5 k Q (λh=>HH (h.a B)) λw=>HN NG [6] (e) w gC HO λH=>have i:=rn j;apN 0 7 gC Q Q Q9 i λi v=>wi a<|iO (p:=(z++([e]))) v [8,1,2] Q2) (I5 k Q (λh=>HH (h.a B)) λu=>(by refine dS Q2 ?_ ?_<;>exact HN NG [6] (e) u gC HO λG=>have g:=rn j;apN 0 7 gC Q Q Q9 g λg t=>wi a<|iO (p:=(z++([e]))) t [8,1,2] Q2))) λf c=>nxW c [0,1,2] Q)<|bkW n [0,1,2] Q) λb m=>λd=>HN lC [0] ((⟨b⟩:aR)) m sY HO λY=>apN 2 3 sY Q Q Q9 d λd x=>wi d<|nxW x [4] Q)<|bkW q [0] Q) λs o=>dD o [0] Q2
theorem aOK{todo:au}{t:AC}(v:bJ κ t todo):VS prog κ 36 (OL todo) [.h t todo.length] [] [] (λr (y:QA)=>.g (yTb r y)) (λr y=>(zTb r y [])):=
 bZ call36 func36 Q Q2<|c0 Q (λh=>aR8 (h.a v)) λF=>aV [5] Q2 (λe=>sR Q<|lP Int<|lP Int<|lP bD<|lP bD<|lP xZ<|lP bP<|lP Int<|lP dR<|lP aK<|lP aR<|lP wH<|iM (⟨none,0⟩,⟨none,0⟩,⟨none,0⟩,⟨none,0⟩,⟨none,0⟩,⟨none,0⟩,⟨none,0⟩,⟨none,0⟩,⟨none,0⟩,⟨none,0⟩,⟨none,0⟩) [1,2,3,4,5,6,7,8,9,10,11] e Q2 Q4)<|cH 0 1 X9 [2] (λ(f:Table) (u:bIB)=>[]) [] (λf u=>(IC f.aA u.1 u.2.1 u.2.2.1 u.2.2.2.1 u.2.2.2.2.1 u.2.2.2.2.2.1 u.2.2.2.2.2.2.1 [ow u.2.2.2.2.2.2.2.1 (f.bC:ba),ow u.2.2.2.2.2.2.2.2.1 (f.aH:bq),ow u.2.2.2.2.2.2.2.2.2 (f.aY:au),.box 0 [.h u.1 f.aA.Mem.Heap.Bytes.length,.h u.2.1 f.aA.Mem.Heap.Class.length,.h u.2.2.1 f.aA.Mem.aD.Global.length,.h u.2.2.2.1 f.aA.Mem.aD.Own.length,I f.aA.aI.aP,.h u.2.2.2.2.1 f.aA.aI.bV.length,.h u.2.2.2.2.2.1 f.aA.aQ.length,.h u.2.2.2.2.2.2.1 f.aA.iU.length,.h u.2.2.2.2.2.2.2.1 f.bC.length,.h u.2.2.2.2.2.2.2.2.1 f.aH.length,.h u.2.2.2.2.2.2.2.2.2 f.aY.length,.h ⟨none,0⟩ 0,I f.aG]])) Q (dE aC [] Q<|λe=>bd e λi s e=>nd e λq e=>nd e λo e=>bd e λg n e=>(by repeat' first|refine dS Q2 ?_ ?_|refine aE1 Q Q ?_ ?_ ?_|refine I5 s Q (λ_=>aDC) λd=>?_|refine have k:=rn q;mks zL2 aMA (λw=>aCE (bD1 zL2) w) Q7 k λk c=>?_|refine have j:=rn o;mks zL0 aMB (λ_=>(F6 (aYD zL0) (AD (AD (AD (AD (AD (AD (AD aMS))))))))) Q7 j λj b=>?_|refine I5 n Q (λh=>aLG (h.a v)) λa=>?_|exact wi e<|iO (p:=((⟨i,zR9,zR7,g,[],0⟩:Table))) (zA d (c,b,a)) [1,2,3,4,5,6,7,8,9,10,0] Q2|exact wi e<|iO (p:=((⟨i,zR9,zR7,g,[],0⟩:Table))) (zA d (c,b,a)) [1,2,3,4,5,6,7,8,10,9,0] Q2|exact wi e<|iO (p:=((⟨i,zR9,zR7,g,[],0⟩:Table))) (zA d (c,b,a)) [1,2,3,4,5,6,7,9,8,10,0] Q2|exact wi e<|iO (p:=((⟨i,zR9,zR7,g,[],0⟩:Table))) (zA d (c,b,a)) [1,2,3,4,5,6,7,10,8,9,0] Q2|exact wi e<|iO (p:=((⟨i,zR9,zR7,g,[],0⟩:Table))) (zA d (c,b,a)) [1,2,3,4,5,6,7,9,10,8,0] Q2|exact wi e<|iO (p:=((⟨i,zR9,zR7,g,[],0⟩:Table))) (zA d (c,b,a)) [1,2,3,4,5,6,7,10,9,8,0] Q2|exact wi e<|iO (p:=((⟨i,zR9,zR7,g,[],0⟩:Table))) (zA d (c,b,a)) [2,3,4,5,6,7,8,1,9,10,0] Q2|exact wi e<|iO (p:=((⟨i,zR9,zR7,g,[],0⟩:Table))) (zA d (c,b,a)) [2,3,4,5,6,7,8,1,10,9,0] Q2|exact wi e<|iO (p:=((⟨i,zR9,zR7,g,[],0⟩:Table))) (zA d (c,b,a)) [3,4,5,6,7,8,9,1,2,10,0] Q2|exact wi e<|iO (p:=((⟨i,zR9,zR7,g,[],0⟩:Table))) (zA d (c,b,a)) [2,3,4,5,6,7,8,9,1,10,0] Q2|exact wi e<|iO (p:=((⟨i,zR9,zR7,g,[],0⟩:Table))) (zA d (c,b,a)) [2,3,4,5,6,7,8,10,1,9,0] Q2|exact wi e<|iO (p:=((⟨i,zR9,zR7,g,[],0⟩:Table))) (zA d (c,b,a)) [3,4,5,6,7,8,9,2,1,10,0] Q2)) λf ⟨s2,E,D,C,B,A,z,x,m,l⟩=>λe=>sR Q<|lP wH<|iM (s2,E,D,C,B,A,z,x,m,l,⟨none,0⟩) [0,1,2,3,4,5,6,7,8,9,11] e Q2 Q4
theorem aOL{e:Int}{v f:AC}:VS prog κ 154 (OM t e) [.g (QQ t B A z x w v u s i f m),I e] [] (oTb t B A z x w v u s i f m []) (λr (y:QA)=>.g (yTb r y)) (λr y=>(zTb r y [])):=
 bZ call154 func154 Q Q2<|dJ 0 2 (vQ t e) [1,2,4] 19 [0,1,2,3,4,5,6,7,8,9,10,11,12] Q (fU lC 9 Q3 λx12 h8 E h9=>λb=>eH 2 h9 h8 Q5<|wi b<|eV [14,15] Q2 (λb=>sF Q<|eJ lC 13 [16] h8 E Q7<|fR Q2<|fO () [0,1,2,3,4,5,6,7,8,17,10,11,12] b Q)<|λb=>sF Q<|eJ lC 13 [16] h8 E Q7<|fR Q2<|fO () [0,1,2,3,4,5,6,7,8,17,10,11,12] b Q) λx1=>aV [19] Q2 (dD (B,A,z,x,w,v,u,s,i,f,m) [0,1,2,3,4,5,6,7,8,9,10] Q2)<|fU lC 9 Q3 λg h1 G h2=>λb=>eH 2 h2 h1 Q5<|wi b<|fU NG 16 Q3 λx3 h3 s13 h4=>λb=>eH 3 h4 h3 Q5<|wi b<|dE aC [11,12,15,19,21] Q<|λb=>eH 2 h2 h1 Q5<|hoT 17 Q Q Q Q λZ=>aE3 Z Q6 b λb h5=>eH 2 h2 h1 Q5<|wi b<|cH 0 6 (ND t e g x3) [1,2,4,5] (λ(c:aK) (d:AC)=>[(6,.p 5 0)]) [0,1,2,3,4,5,6,7,8,10,12,20,21] (λc d=>[ow f (t.aY.set e.toNat (⟨(g.List.take g.List.length).drop (1:Int).toNat⟩:aR):au),.box 0 [.h B t.aA.Mem.Heap.Bytes.length,.h A t.aA.Mem.Heap.Class.length,.h z t.aA.Mem.aD.Global.length,.h x t.aA.Mem.aD.Own.length,I t.aA.aI.aP,.h w t.aA.aI.bV.length,.h v t.aA.aQ.length,.h u t.aA.iU.length,.h s t.bC.length,.h i t.aH.length,.h f (t.aY.set e.toNat (⟨(g.List.take g.List.length).drop (1:Int).toNat⟩:aR)).length,.h m t.Log.length,I (bB (t.aG+1))],ow d (c.Batch.b8:bp),.box 5 [.b c.gW,.b c.Batch.Collect,.h d c.Batch.b8.length,I c.aG,I c.Pc,I c.At,I c.K,I c.dR,I c.iF,I c.H,I c.jH,I c.Node.Key,I c.Node.cT,I c.Node.Next,.b c.Found,I c.Code,I c.Sub.Kind,I c.Sub.A,I c.Sub.Pc,I c.Sub.E,I c.Sub.Row,I c.Sub.B,I c.Sub.H,I c.Sub.Out,I c.Sub.Code,.b c.Sub.eG,.h ⟨none,0⟩ 0,.h ⟨none,0⟩ 0,.h ⟨none,0⟩ 0,.h ⟨none,0⟩ 0,.h ⟨none,0⟩ 0,.h ⟨none,0⟩ 0]]) Q (dE aC [11,12,15,21] Q<|λb=>bd b λD M b=>bd b λC L b=>dS Q2 (I5 M Q (λh=>HH (h.o 20 Q)) λP=>(by refine dS Q2 ?_ ?_<;>exact ES L Q (λ_=>i5)<|sF Q<|gR lC 13 [17] [22,30,33] (⟨(g.List.take g.List.length).drop (1:Int).toNat⟩:aR) (AC.sub G 2 (1:Int).toNat) Q8<|fR Q2<|iS f bI.symm [] [(11,10)] Q3<|fR Q2<|fO (p:=((⟨true,D,bB (t.aG+1),0,0,0,0,0,0,0,(⟨0,0,0⟩:fS),false,0,C,[],[],[],[],[],[]⟩:aK))) P [24,11,22,23,0,1,2,3,4,5,6,7,8,10,12,20,21] b Q)) (I5 M Q (λh=>HH (h.o 20 Q)) λO=>ES L Q (λ_=>i5)<|sF Q<|gR lC 13 [17] [22,30,33] (⟨(g.List.take g.List.length).drop (1:Int).toNat⟩:aR) (AC.sub G 2 (1:Int).toNat) Q8<|fR Q2<|iS f bI.symm [] [(11,10)] Q3<|fR Q2<|fO (p:=((⟨true,D,bB (t.aG+1),0,0,0,0,0,0,0,(⟨0,0,0⟩:fS),false,0,C,[],[],[],[],[],[]⟩:aK))) O [24,11,23,22,0,1,2,3,4,5,6,7,8,10,12,20,21] b Q)) λc d=>cH 0 6 (vP t e g x3) [1,2,4,5,6] (λ(a:aK) (_:Unit)=>[]) [4,5,6,7,8,9,10,11,12,0,13,1,14,15,16] (λa _=>[ow d (a.Batch.b8:bp),.box 5 [.b a.gW,.b a.Batch.Collect,.h d a.Batch.b8.length,I a.aG,I a.Pc,I a.At,I a.K,I a.dR,I a.iF,I a.H,I a.jH,I a.Node.Key,I a.Node.cT,I a.Node.Next,.b a.Found,I a.Code,I a.Sub.Kind,I a.Sub.A,I a.Sub.Pc,I a.Sub.E,I a.Sub.Row,I a.Sub.B,I a.Sub.H,I a.Sub.Out,I a.Sub.Code,.b a.Sub.eG,.h ⟨none,0⟩ 0,.h ⟨none,0⟩ 0,.h ⟨none,0⟩ 0,.h ⟨none,0⟩ 0,.h ⟨none,0⟩ 0,.h ⟨none,0⟩ 0]]) Q (aV [52] Q2 (c0 Q (λ_=>i5) λx9=>bQ [2,3,4,5,6,7,8,9,10,11,12,0,13,1,14,15,16] Q2)<|bQ [2,3,4,5,6,7,8,9,10,11,12,0,13,1,14,15,16] Q2) λa _=>fU bK 10 Q3 λx6 h6 s15 h7=>λb=>eH 6 h7 h6 Q5<|wi b<|cH 0 7 (NC t e g a) [2,4] (λ(N:bs) (j:AC)=>[]) [2,3,4,5,6,7,8,9,11,14] (λN j=>[ow i (t.aH.set e.toNat ({a with Reads:=[],aL:=[],eD:=[],eC:=[],bM:=[],bW:=[]}:aK):bq),ow j (N:bs),.box 0 [.h B t.aA.Mem.Heap.Bytes.length,.h A t.aA.Mem.Heap.Class.length,.h z t.aA.Mem.aD.Global.length,.h x t.aA.Mem.aD.Own.length,I t.aA.aI.aP,.h w t.aA.aI.bV.length,.h v t.aA.aQ.length,.h u t.aA.iU.length,.h s t.bC.length,.h i (t.aH.set e.toNat ({a with Reads:=[],aL:=[],eD:=[],eC:=[],bM:=[],bW:=[]}:aK)).length,.h f (t.aY.set e.toNat (⟨(g.List.take g.List.length).drop (1:Int).toNat⟩:aR)).length,.h j N.length,I (bB (t.aG+1))]]) Q (dE aC [1,14,16,19] Q<|λb=>bd b λl n b=>nd b λk b=>aE1 Q Q ((by refine dS Q2 ?_ ?_<;>exact I5 n Q (λh=>CI (h.o 15 Q)) λY=>nw eD Q<|HN aRB [27,28] ((⟨1,e,bB (t.aG+1),0,l,[]⟩:wH)) (Y,⟨none,0⟩) fK HO λs21=>have K:=rn k;apN 12 29 fK Q Q Q9 K λK X=>sF Q<|fR Q2<|lP Seen<|lP aW<|lP eD<|lP Int<|lP Int<|lP Int<|fR Q2<|gR bK 17 [0,31,32,33,34,35,36] [57] ({a with Reads:=[],aL:=[],eD:=[],eC:=[],bM:=[],bW:=[]}:aK) (d,⟨none,0⟩,⟨none,0⟩,⟨none,0⟩,⟨none,0⟩,⟨none,0⟩,⟨none,0⟩) Q8<|fR Q2<|iS i bI.symm [] [(13,9)] Q3<|fR Q2<|fO (p:=(t.Log++([(⟨1,e,bB (t.aG+1),0,l,[]⟩:wH)]))) X [37,30,13,2,3,4,5,6,7,8,9,11,14] b Q)) (dS Q2 (I5 n Q (λh=>CI (h.o 15 Q)) λW=>nw eD Q<|HN aRB [27,28] ((⟨1,e,bB (t.aG+1),0,l,[]⟩:wH)) (W,⟨none,0⟩) fK HO λs27=>have J:=rn k;apN 12 29 fK Q Q Q9 J λJ V=>sF Q<|fR Q2<|lP Seen<|lP aW<|lP eD<|lP Int<|lP Int<|lP Int<|fR Q2<|gR bK 17 [0,31,32,33,34,35,36] [57] ({a with Reads:=[],aL:=[],eD:=[],eC:=[],bM:=[],bW:=[]}:aK) (d,⟨none,0⟩,⟨none,0⟩,⟨none,0⟩,⟨none,0⟩,⟨none,0⟩,⟨none,0⟩) Q8<|fR Q2<|iS i bI.symm [] [(13,9)] Q3<|fR Q2<|fO (p:=(t.Log++([(⟨1,e,bB (t.aG+1),0,l,[]⟩:wH)]))) V [37,30,13,2,3,4,5,6,7,8,9,11,14] b Q) (I5 n Q (λh=>CI (h.o 15 Q)) λU=>(by refine dS Q2 ?_ ?_<;>exact nw eD Q<|HN aRB [27,28] ((⟨1,e,bB (t.aG+1),0,l,[]⟩:wH)) (U,⟨none,0⟩) fK HO λs30=>have H:=rn k;apN 12 29 fK Q Q Q9 H λH T=>sF Q<|fR Q2<|lP Seen<|lP aW<|lP eD<|lP Int<|lP Int<|lP Int<|fR Q2<|gR bK 17 [0,31,32,33,34,35,36] [57] ({a with Reads:=[],aL:=[],eD:=[],eC:=[],bM:=[],bW:=[]}:aK) (d,⟨none,0⟩,⟨none,0⟩,⟨none,0⟩,⟨none,0⟩,⟨none,0⟩,⟨none,0⟩) Q8<|fR Q2<|iS i bI.symm [] [(13,9)] Q3<|fR Q2<|fO (p:=(t.Log++([(⟨1,e,bB (t.aG+1),0,l,[]⟩:wH)]))) T [37,30,13,2,3,4,5,6,7,8,9,11,14] b Q))) (I5 n Q (λh=>CI (h.o 15 Q)) λF=>dS Q2 (nw eD Q<|HN aRB [27,28] ((⟨1,e,bB (t.aG+1),0,l,[]⟩:wH)) (F,⟨none,0⟩) fK HO λs35=>have q:=rn k;apN 12 29 fK Q Q Q9 q λq S=>sF Q<|fR Q2<|lP Seen<|lP aW<|lP eD<|lP Int<|lP Int<|lP Int<|fR Q2<|gR bK 17 [0,31,32,33,34,35,36] [57] ({a with Reads:=[],aL:=[],eD:=[],eC:=[],bM:=[],bW:=[]}:aK) (d,⟨none,0⟩,⟨none,0⟩,⟨none,0⟩,⟨none,0⟩,⟨none,0⟩,⟨none,0⟩) Q8<|fR Q2<|iS i bI.symm [] [(13,9)] Q3<|fR Q2<|fO (p:=(t.Log++([(⟨1,e,bB (t.aG+1),0,l,[]⟩:wH)]))) S [37,30,13,2,3,4,5,6,7,8,9,11,14] b Q) ((by refine dS Q2 ?_ ?_<;>exact nw eD Q<|HN aRB [27,28] ((⟨1,e,bB (t.aG+1),0,l,[]⟩:wH)) (F,⟨none,0⟩) fK HO λs37=>have o:=rn k;apN 12 29 fK Q Q Q9 o λo R=>sF Q<|fR Q2<|lP Seen<|lP aW<|lP eD<|lP Int<|lP Int<|lP Int<|fR Q2<|gR bK 17 [0,31,32,33,34,35,36] [57] ({a with Reads:=[],aL:=[],eD:=[],eC:=[],bM:=[],bW:=[]}:aK) (d,⟨none,0⟩,⟨none,0⟩,⟨none,0⟩,⟨none,0⟩,⟨none,0⟩,⟨none,0⟩) Q8<|fR Q2<|iS i bI.symm [] [(13,9)] Q3<|fR Q2<|fO (p:=(t.Log++([(⟨1,e,bB (t.aG+1),0,l,[]⟩:wH)]))) R [37,30,13,2,3,4,5,6,7,8,9,11,14] b Q)))) λN j=>dD (B,A,z,x,w,v,u,s,i,f,j) [3,4,5,6,7,8,9,10,0,11,1] Q2
theorem WX{m:Int}{v o h:AC}{f b a:AC}:VS prog κ 294 (IU t m j) [.g (QQ t w v u s q p o l n i h),I m,.g (YB j g f e d c b a)] [] ((IC t.aA w v u s q p o [ow l (t.bC:ba),ow h (t.Log:bs)])++(YC j g f e d c b a [])) (λr (y:AC×AC×AC×AC×AC×AC×AC×AC×AC×AC×AC×AC×AC×AC×AC×AC)=>.t [.g [.h y.1 r.1.aA.Mem.Heap.Bytes.length,.h y.2.1 r.1.aA.Mem.Heap.Class.length,.h y.2.2.1 r.1.aA.Mem.aD.Global.length,.h y.2.2.2.1 r.1.aA.Mem.aD.Own.length,I r.1.aA.aI.aP,.h y.2.2.2.2.1 r.1.aA.aI.bV.length,.h y.2.2.2.2.2.1 r.1.aA.aQ.length,.h y.2.2.2.2.2.2.1 r.1.aA.iU.length,.h y.2.2.2.2.2.2.2.1 r.1.bC.length,.h n t.aH.length,.h i t.aY.length,.h y.2.2.2.2.2.2.2.2.1 r.1.Log.length,I r.1.aG],.g (yTj r.2.1 y.2.2.2.2.2.2.2.2.2),.b r.2.2]) (λr y=>((IC r.1.aA y.1 y.2.1 y.2.2.1 y.2.2.2.1 y.2.2.2.2.1 y.2.2.2.2.2.1 y.2.2.2.2.2.2.1 [ow y.2.2.2.2.2.2.2.1 r.1.bC,ow y.2.2.2.2.2.2.2.2.1 r.1.Log])++(zTj r.2.1 y.2.2.2.2.2.2.2.2.2 []))):=
 bZ call294 func294 Q Q2<|gP [0,1,2,3,4,5,6] Q4 (λ_=>LU) λx k=>dE aC [16,17] Q<|dD (zA k (l,h,g,f,e,d,c,b,a)) [20,21,22,23,24,25,26,7,8,9,10,11,12,13,14,15] Q2
theorem aOM{n:Int}{v o:AC}{h f:AC}:VS prog κ 155 (ON t n j) [.g (QQ t z x w v u s q o m c l),I n,.g (YB j k i h g f e d)] [] ((IC t.aA z x w v u s q [ow o (t.bC:ba),ow l (t.Log:bs)])++(YC j k i h g f e d [])) (λr (y:AC×AC×AC×AC×AC×AC×AC×AC×AC×AC×AC×AC×AC×AC×AC×AC)=>.t [.g [.h y.1 r.1.aA.Mem.Heap.Bytes.length,.h y.2.1 r.1.aA.Mem.Heap.Class.length,.h y.2.2.1 r.1.aA.Mem.aD.Global.length,.h y.2.2.2.1 r.1.aA.Mem.aD.Own.length,I r.1.aA.aI.aP,.h y.2.2.2.2.1 r.1.aA.aI.bV.length,.h y.2.2.2.2.2.1 r.1.aA.aQ.length,.h y.2.2.2.2.2.2.1 r.1.aA.iU.length,.h y.2.2.2.2.2.2.2.1 r.1.bC.length,.h m t.aH.length,.h c t.aY.length,.h y.2.2.2.2.2.2.2.2.1 r.1.Log.length,I r.1.aG],.g (yTj r.2 y.2.2.2.2.2.2.2.2.2)]) (λr y=>((IC r.1.aA y.1 y.2.1 y.2.2.1 y.2.2.2.1 y.2.2.2.2.1 y.2.2.2.2.2.1 y.2.2.2.2.2.2.1 [ow y.2.2.2.2.2.2.2.1 r.1.bC,ow y.2.2.2.2.2.2.2.2.1 r.1.Log])++(zTj r.2 y.2.2.2.2.2.2.2.2.2 []))):=
 bZ call155 func155 Q Q2<|aAS [0,1,2,3,4,5,6,7,8,9,10,11,12,13,14,15] Q Q Q Q (λ_=>WX) λa b=>aV [18] Q2 (dE aC [16,17] Q<|dD b [20,21,22,23,24,25,26,27,28,29,30,31,32,33,34,35] Q2)<|cH 1 4 (λ(p:Table×aK)=>DQ t p.1 p.2) [3,5,6,7] (λ(p:Table×aK) (_:Unit)=>[]) [18,19] (λp _=>((IC p.1.aA b.1 b.2.1 b.2.2.1 b.2.2.2.1 b.2.2.2.2.1 b.2.2.2.2.2.1 b.2.2.2.2.2.2.1 [ow b.2.2.2.2.2.2.2.1 (p.1.bC:ba),ow b.2.2.2.2.2.2.2.2.1 (p.1.Log:bs),.box 0 [.h b.1 p.1.aA.Mem.Heap.Bytes.length,.h b.2.1 p.1.aA.Mem.Heap.Class.length,.h b.2.2.1 p.1.aA.Mem.aD.Global.length,.h b.2.2.2.1 p.1.aA.Mem.aD.Own.length,I p.1.aA.aI.aP,.h b.2.2.2.2.1 p.1.aA.aI.bV.length,.h b.2.2.2.2.2.1 p.1.aA.aQ.length,.h b.2.2.2.2.2.2.1 p.1.aA.iU.length,.h b.2.2.2.2.2.2.2.1 p.1.bC.length,.h m t.aH.length,.h c t.aY.length,.h b.2.2.2.2.2.2.2.2.1 p.1.Log.length,I p.1.aG]])++(zTj p.2 b.2.2.2.2.2.2.2.2.2 [.box 1 (yTj p.2 b.2.2.2.2.2.2.2.2.2)]))) Q (aV [24,25] Q2 (bQ (p:=((⟨a.1.aA,a.1.bC,t.aH,t.aY,a.1.Log,a.1.aG⟩:Table),(⟨a.2.1.gW,a.2.1.Batch,a.2.1.aG,1,a.2.1.At,a.2.1.K,a.2.1.dR,a.2.1.iF,a.2.1.H,a.2.1.jH,a.2.1.Node,a.2.1.Found,a.2.1.Code,a.2.1.Sub,a.2.1.Reads,a.2.1.aL,a.2.1.eD,a.2.1.eC,a.2.1.bM,a.2.1.bW⟩:aK))) [20,21,22,23,24,25,26,27,28,16,29,30,31,32,33,34,35,17,18,19] Q2)<|aV [27,28] Q2 (c0 Q (λ_=>i5) λA=>bQ (p:=((⟨a.1.aA,a.1.bC,t.aH,t.aY,a.1.Log,a.1.aG⟩:Table),(⟨a.2.1.gW,a.2.1.Batch,a.2.1.aG,21,a.2.1.At,a.2.1.K,a.2.1.dR,a.2.1.iF,a.2.1.H,a.2.1.jH,a.2.1.Node,a.2.1.Found,a.2.1.Code,A,a.2.1.Reads,a.2.1.aL,a.2.1.eD,a.2.1.eC,a.2.1.bM,a.2.1.bW⟩:aK))) [20,21,22,23,24,25,26,27,28,16,29,30,31,32,33,34,35,17,18,19] Q2)<|bQ (p:=((⟨a.1.aA,a.1.bC,t.aH,t.aY,a.1.Log,a.1.aG⟩:Table),(⟨a.2.1.gW,a.2.1.Batch,a.2.1.aG,19,a.2.1.At,a.2.1.K,a.2.1.dR,a.2.1.iF,a.2.1.H,a.2.1.jH,a.2.1.Node,a.2.1.Found,a.2.1.Code,a.2.1.Sub,a.2.1.Reads,a.2.1.aL,a.2.1.eD,a.2.1.eC,a.2.1.bM,a.2.1.bW⟩:aK))) [20,21,22,23,24,25,26,27,28,16,29,30,31,32,33,34,35,17,18,19] Q2) λ⟨C,B⟩ _=>dE aC [9,17] Q<|dD b [0,1,2,3,4,5,6,7,8,10,11,12,13,14,15,16] Q2
theorem iC{code:Int}{f b a:AC}:VS prog κ 165 (iA j code) [.g (YB j g f e d c b a),I code] [] (YC j g f e d c b a []) (λr (y:A7C)=>.g (yTj r y)) (λr y=>(zTj r y [])):=
 bZ call165 func165 Q Q2<|dD (g,f,e,d,c,b,a) [0,1,2,3,4,5,6] Q2
theorem aON{l:aw}{c:aW}(v:bJ κ w l):VS prog κ 410 (OO l c) [.h w l.length,.g [I c.Key,.b c.NP,I c.cT]] [] [] (λr (y:AC)=>.h y r.length) (λr y=>[ow y r]):=
 bZ call410 func410 Q Q2<|λj=>W9 (O:=aW) j6 Q4 λJ=>wi j<|D9 J [0,3] (λ(p:aw×Bool×Int) (d:AC)=>[(5,.h d p.1.length),(6,.b p.2.1),(7,I p.2.2)]) [1,0] [0] (λp d=>[ow d (p.1:aw)]) id [3] (λ(p:aw×Bool) (i:AC)=>[(5,.h i p.1.length),(6,.b p.2)]) [0] (λp i=>[ow i (p.1:aw)]) Q Q (λG ⟨m,u,t⟩ d F=>aV [12] Q2 (cH 3 1 (λ(p:aw×Bool)=>DR t p.1 p.2) [0,3,7] (λ(p:aw×Bool) (f:AC)=>[(5,.h f p.1.length),(6,.b p.2)]) [1] (λp f=>[ow f (p.1:aw)]) Q (dE aC [1] Q<|AF IE Q v Q λA _ _=>aV [22] Q2 (iO (p:=(m,u)) d [0,1] Q2)<|cH 1 2 (λ(p:aw×Bool)=>DS l t p.1 p.2) [0,3,7] (λ(p:aw×Bool) (b:AC)=>[(5,.h b p.1.length),(6,.b p.2)]) [1] (λp b=>[ow b (p.1:aw)]) Q (dJ 0 2 (DT l c m u t) [0,3,5,6,7] 34 [0,1] Q (dE aC [1,2] Q<|eV [24,25] Q2 (AF IE Q v Q λx _ _=>bQ [0,1] Q2)<|bQ [0,1] Q2) λz=>aV [34] Q2 (λa=>HN kV [] (c) () j6 HO λD=>ap 0 j6 Q Q Q Q Q Q Q (λh=>(h.o 2 Q)) Q Q a λa q=>wi a<|iO (p:=(m++([c]),true)) q [0,1] Q2)<|iO (p:=(m,u)) d [0,1] Q2) λ⟨o,n⟩ b=>AF IE Q v Q λe _ _=>λa=>HN kV [] (e) () j6 HO λE=>ap 0 j6 Q Q Q Q Q Q Q (λh=>(h.o 3 Q)) Q Q a λa s=>wi a<|iO (p:=(o++([e]),n)) s [0,1] Q2) λ⟨C,B⟩ f=>nxW f [0,1] Q)<|bkW d [0,1] Q) λ⟨L,K⟩ i=>cH 0 1 vR [] (λ(k:aw) (g:AC)=>[(5,.h g k.length)]) [] (λk g=>[ow g (k:aw)]) Q (aV [47] Q2 (λj=>HN kV [] (c) () j6 HO λM=>ap 0 j6 Q Q Q Q Q Q Q (λh=>(h.o 2 Q)) Q Q j λj H=>wi j<|iO H [0] Q2)<|iO i [0] Q2) λk g=>dD g [0] Q2
theorem aB1{x:aW}{f b a:AC}:VS prog κ 295 (FN j x) [.g (YB j f e g d c b a),.g [I x.Key,.b x.NP,I x.cT]] [] (YC j f e g d c b a []) (λr (y:A7C)=>.g (yTj r y)) (λr y=>(zTj r y [])):=
 bZ call295 func295 Q Q2<|c1 Q (λh=>aON (h.o 2 Q)) λm k=>aV [12] Q2 (gP [0,1,2,3,4,5,6] Q4 (λ_=>iC) λl i=>dD i [11,12,13,14,15,16,17] Q2)<|dD (f,e,k,d,c,b,a) [0,1,10,3,4,5,6] Q2
theorem aR9{l:aw}{a:Int}(e:bJ κ d l):V0 prog κ 296 (R7 l a) [.h d l.length,I a] (λr=>.t [.g [I r.1.Key,.b r.1.NP,I r.1.cT],.b r.2]):=
 bZ call296 func296 Q Q2<|SW 6 [0,1,4] [0] Out.brk [4] [0] Q Q (λc h b=>aV [10] Q2 (AF IE Q e Q λg _ _=>aV [19] Q2 (AF IE Q e Q λf _ _=>M0 b c<|cQ Q2)<|F9 [0] Q)<|xY [0] Q)<|cQ Q2
theorem aVN{a b:Int}:V0 prog κ 363 (VW a b) [I a,I b] I:=
 bZ call363 func363 Q Q2<|cQ Q2
theorem YO{is:Bool}{v:Int}{o:AC}:VS prog κ 297 (B7 j is v) [.g (YB j d s q o n m l),.b is,I v] [] (YC j d s q o n m l []) (λr (y:A7C)=>.g (yTj r y)) (λr y=>(zTj r y [])):=
 bZ call297 func297 Q Q2<|fU WN 0 Q3 λD t _ G=>λa=>eH 2 G t Q5<|wi a<|cH 0 5 (sS j is D) [3,6,7,8] (λ(c:Int) (_:Unit)=>[]) [1,2,3,4,5,6,7,8,12] (λc _=>[ow d (j.Batch.b8:bp),.box 4 [.b is,I c]]) Q (aV [20] Q2 (λa=>sF Q<|eJ WN 9 [] t () Q7<|fR Q2<|fO () [14,13,1,2,3,4,5,6,7,8,12] a Q)<|λa=>sF Q<|eJ WN 9 [] t () Q7<|fR Q2<|fO () [14,13,1,2,3,4,5,6,7,8,12] a Q) λc _=>cH 0 5 (λ(p:aK×Bool×Int)=>sQ p.1 p.2.1 p.2.2) [3,6,8] (λ(p:aK×Bool×Int) (u:A7C)=>[]) [9] (λp u=>(zTj p.1 u [.box 0 (yTj p.1 u),.box 4 [.b p.2.1,I p.2.2]])) Q (aV [24] Q2 (c0 Q (λ_=>aVN) λA=>gP [0,2,3,4,5,6,7] Q4 (λ_=>aB1) λz b=>aV [40] Q2 (dD b [11,12,13,14,15,16,17] Q2)<|iO (p:=(z,true,A)) b [11,12,13,14,15,16,17,8,1,9] Q2)<|iO (p:=(j,is,c)) (d,s,q,o,n,m,l) [0,2,3,4,5,6,7,8,1,9] Q2) λ⟨H,C,B⟩ ⟨F,E,k,x,i,g,f⟩=>λa=>HN bIC [] ((⟨C,B⟩:eD)) () pI HO λw=>ap 3 pI Q Q Q Q Q Q Q (λh=>(h.o 10 Q)) Q Q a λa e=>wi a<|dD (F,E,k,e,i,g,f) [0,1,2,3,4,5,6] Q2
theorem SN{a:Int}:V0 prog κ 298 (IA a) [I a] I:=
 bZ call298 func298 Q Q2<|c0 Q (λ_=>bN) λb=>aV [5] Q2 (cQ Q2)<|cQ Q2
theorem aJL{f:AC}:VS prog κ 156 (G6 j) [.g (YB j c k i g f e d)] [] (YC j c k i g f e d []) (λr (y:A7C)=>.g (yTj r y)) (λr y=>(zTj r y [])):=
 bZ call156 func156 Q Q2<|aV [12] Q2 (c0 Q (λ_=>i5) λw=>dD (c,k,i,g,f,e,d) [0,1,2,3,4,5,6] Q2)<|fU WN 0 Q3 λp o _ q=>λa=>eH 2 q o Q5<|wi a<|cH 0 4 (mM j p) [1,2,3] (λ(n:Bool) (_:Unit)=>[(32,.b n)]) [1,2,3,4,5,6,7,8,12] (λn _=>[ow c (j.Batch.b8:bp)]) Q (eV [27,28] Q2 (λa=>sF Q<|eJ WN 9 [] o () Q7<|fR Q2<|fO () [13,1,2,3,4,5,6,7,8,12] a Q)<|λa=>sF Q<|eJ WN 9 [] o () Q7<|fR Q2<|fO () [13,1,2,3,4,5,6,7,8,12] a Q) λn _=>aV [32] Q2 (gP [0,1,2,3,4,5,6] Q4 (λ_=>aB1) λv b=>aV [45] Q2 (dD b [10,11,12,13,14,15,16] Q2)<|λa=>HN bIC [] ((⟨false,0⟩:eD)) () pI HO λx=>ap 13 pI Q Q Q Q Q Q Q (λh=>(h.o 17 Q)) Q Q a λa m=>wi a<|dD (b.1,b.2.1,b.2.2.1,m,b.2.2.2.2.1,b.2.2.2.2.2.1,b.2.2.2.2.2.2) [10,11,12,13,14,15,16] Q2)<|c0 Q (λh=>aR9 (h.o 2 Q)) λu=>aV [5,65,66] Q2 (gP [0,1,2,3,4,5,6] Q4 (λ_=>YO) λt l=>dD l [11,12,13,14,15,16,17] Q2)<|c0 Q (λ_=>SN) λs=>dD (c,k,i,g,f,e,d) [0,1,2,3,4,5,6] Q2
theorem T1{m:Mem}{b a:AC}(f:bJ κ d m.Heap.Bytes)(e:bJ κ c m.Heap.Class)(t:bJ κ b m.aD.Global)(s:bJ κ a m.aD.Own):V0 prog κ 242 (DV m h) [.g (gM m d c b a),I h] (λr=>.t [I r.1,I r.2]):=
 bZ call242 func242 Q Q2<|dJ 0 1 (G7 m h) [1,2] 17 [0] Q (dE aC [0] Q<|c0 Q (λ_=>g9) λj=>eV [9,10] Q2 (bQ [0] Q2)<|c0 Q (λ_=>eY) λi=>c0 Q (λh=>nJ (h.a f) (h.a e)) λg=>bQ [0] Q2) λq=>aV [17] Q2 (cQ Q2)<|dE aC [0] Q<|c0 Q (λ_=>eY) λp=>c0 Q (λh=>nJ (h.a f) (h.a e)) λo=>c0 Q (λ_=>tM) λn=>aV [25] Q2 (cQ Q2)<|c0 Q (λ_=>eY) λl=>c0 Q (λ_=>TP) λk=>cQ Q2
theorem aSA{m:Mem}{at_:Int}{b:AC}(a:bJ κ e m.Heap.Bytes)(l:bJ κ d m.Heap.Class)(k:bJ κ c m.aD.Global)(j:bJ κ b m.aD.Own):V0 prog κ 244 (ZU m at_) [.g (gM m e d c b),I at_] (λr=>.g [I r.Key,I r.cT,I r.Next]):=
 bZ call244 func244 Q Q2<|dE aC [0] Q<|c0 Q (λh=>z5 (h.a a)) λi=>c0 Q (λh=>z5 (h.a a)) λg=>c0 Q (λh=>z5 (h.a a)) λf=>cQ Q2
theorem aF6{m:Mem}{b a:AC}(i:bJ κ d m.Heap.Bytes)(g:bJ κ c m.Heap.Class)(f:bJ κ b m.aD.Global)(e:bJ κ a m.aD.Own):V0 prog κ 113 (PF m h) [.g (gM m d c b a),I h] (λr=>.g [I r.Key,I r.cT,I r.Next]):=
 bZ call113 func113 Q Q2<|c0 Q (λh=>T1 (h.a i) (h.a g) (h.a f) (h.a e)) λk=>aV [14] Q2 (cQ Q2)<|c0 Q (λh=>aSA (h.a i) (h.a g) (h.a f) (h.a e)) λj=>cQ Q2
theorem CJ{n:fS}:V0 prog κ 299 (sU n) [.g [I n.Key,I n.cT,I n.Next]] I:=
 bZ call299 func299 Q Q2<|c0 Q (λ_=>g9) λa=>aV [5] Q2 (cQ Q2)<|cQ Q2
theorem aSB{l:bo}{b v:Int}{f:AC}(e:bJ κ f l):VS prog κ 300 (R8 l b v) [.h f l.length,I b,I v] [] [] (λr (y:AC)=>.t [.h y r.1.length,.b r.2]) (λr y=>[ow y r.1]):=
 bZ call300 func300 Q Q2<|λa=>W9 (O:=Seen) wR Q4 λo=>ap 0 wR Q Q Q Q Q Q Q (λh=>(h.a e)) Q Q a λa i=>wi a<|SW 9 [0,1,2,8] [0] Out.brk [1,2,8] [0] Q Q (λd m c=>aV [16] Q2 (AF aQ9 Q e Q λk _ _=>aV [25] Q2 (dE aC [1] Q<|AF aQ9 Q e Q λj _ _=>M0 c d<|dD i [0] Q2)<|F9 [0] Q)<|xY [0] Q)<|λa=>HN LR [] ((⟨b,v⟩:Seen)) () wR HO λn=>ap 0 wR Q Q Q Q Q Q Q (λh=>(h.o 1 Q)) Q Q a λa g=>wi a<|dD g [0] Q2
theorem aSC{R:Int}{Z Y W S s9:AC}{f b a:AC}(h1:bJ κ Z t.aA.Mem.Heap.Bytes)(h2:bJ κ Y t.aA.Mem.Heap.Class)(h3:bJ κ X t.aA.Mem.aD.Global)(h4:bJ κ W t.aA.Mem.aD.Own)(h5:bJ κ V t.aA.aI.bV)(h6:bJ κ U t.aA.aQ)(h7:bJ κ T t.aA.iU)(h8:bJ κ S t.bC)(h9:bJ κ u t.Log):VS prog κ 157 (R9 t R j) [.g (QQ t Z Y X W V U T S s9 L u),I R,.g (YB j g f e d c b a)] [] (YC j g f e d c b a []) (λr (y:A7C)=>.g (yTj r y)) (λr y=>(zTj r y [])):=
 bZ call157 func157 Q Q2<|AF bL4 Q h8 Q λx1 _ _=>AF aUU Q h5 Q λx2 _ _=>cH 1 7 oE [5,6] (λ(B:aK) (_:Unit)=>[]) [9] (λB _=>(YC B g f e d c b a [.box 1 (YB B g f e d c b a)])) Q (aV [70,71] Q2 (aV [74] Q2 (gP [0,1,2,3,4,5,6] Q4 (λ_=>iC) λx4 K=>dD K [14,15,16,17,18,19,20] Q2)<|aV [89] Q2 (bQ [0,1,2,3,4,5,6,8,9] Q2)<|bQ [0,1,2,3,4,5,6,8,9] Q2)<|aV [91,92] Q2 (c0 Q (λh=>aF6 (h.a h1) (h.a h2) (h.a h3) (h.a h4)) λx5=>bQ [0,1,2,3,4,5,6,8,9] Q2)<|aV [101,102] Q2 (dJ 0 7 (rO j) [5,6] 109 [0,1,2,3,4,5,6,8,9] Q (eV [105,106] Q2 (bQ [0,1,2,3,4,5,6,8,9] Q2)<|bQ [0,1,2,3,4,5,6,8,9] Q2) λx6=>aV [109] Q2 (gP [0,1,2,3,4,5,6] Q4 (λ_=>iC) λx7 J=>dD J [9,10,11,12,13,14,15] Q2)<|aV [118] Q2 (gP [0,1,2,3,4,5,6] Q4 (λ_=>iC) λx8 H=>dD H [9,10,11,12,13,14,15] Q2)<|cH 0 7 (P5 j) [5,6] (λ(A:Bool) (_:Unit)=>[]) [0,1,2,3,4,5,6,8] (λA _=>[.box 1 [.b j.gW,.b j.Batch.Collect,.h g j.Batch.b8.length,I j.aG,I j.Pc,I j.At,I j.K,I j.dR,I j.iF,I j.H,I j.jH,I j.Node.Key,I j.Node.cT,I j.Node.Next,.b A,I j.Code,I j.Sub.Kind,I j.Sub.A,I j.Sub.Pc,I j.Sub.E,I j.Sub.Row,I j.Sub.B,I j.Sub.H,I j.Sub.Out,I j.Sub.Code,.b j.Sub.eG,.h f j.Reads.length,.h e j.aL.length,.h d j.eD.length,.h c j.eC.length,.h b j.bM.length,.h a j.bW.length]]) Q (dE aC [8] Q<|λs=>bd s λi k s=>(by repeat' first|refine dS Q2 ?_ ?_|refine aE1 Q Q ?_ ?_ ?_|(refine have n:=rb k;wi n<|fU WN 0 Q3 λu4 w _ N=>λn=>eH 7 N w Q5<|match u4,n with|_,rfl=>?_)|(exact have q:=rb k;wi q<|fU WN 0 Q3 λu1 z _ P=>λq=>eH 7 P z Q5<|match u1,q with|_,rfl=>sF Q<|eJ WN 9 [] z () Q7<|fR Q2<|fO (p:=(j.Node.Key == i.Key)) () [7,12,1,2,3,4,5,6,8] s Q)|(exact have o:=rb k;wi o<|fU WN 0 Q3 λu3 x _ O=>λo=>eH 7 O x Q5<|match u3,o with|_,rfl=>sF Q<|eJ WN 9 [] x () Q7<|fR Q2<|fO (p:=(j.Node.Key == i.Key)) () [7,12,1,2,3,4,5,6,8] s Q)|exact sF Q<|eJ WN 9 [] w () Q7<|fR Q2<|fO (p:=(j.Node.Key == i.Key)) () [7,12,1,2,3,4,5,6,8] s Q|(exact have m:=rb k;wi m<|fU WN 0 Q3 λu5 v _ M=>λm=>eH 7 M v Q5<|match u5,m with|_,rfl=>sF Q<|eJ WN 9 [] v () Q7<|fR Q2<|fO (p:=(j.Node.Key == i.Key)) () [7,12,1,2,3,4,5,6,8] s Q))) λA _=>c0 Q (λ_=>CJ) λC=>dJ 0 7 (G8 j A C) [5,6] 145 [1,2,3,4,5,6,7,0,8] Q (eV [140,141] Q2 (bQ [1,2,3,4,5,6,7,0,8] Q2)<|bQ [1,2,3,4,5,6,7,0,8] Q2) λx11=>aV [145] Q2 (bQ [0,1,2,3,4,5,6,7,8] Q2)<|bQ [0,1,2,3,4,5,6,7,8] Q2)<|dJ 0 7 (y5 j) [5,6] 35 [0,1,2,3,4,5,6,8,9] Q (eV [28,29] Q2 (bQ [0,1,2,3,4,5,6,8,9] Q2)<|bQ [0,1,2,3,4,5,6,8,9] Q2) λx13=>aV [35] Q2 (gP [0,1,2,3,4,5,6] Q4 (λ_=>iC) λx14 G=>dD G [9,10,11,12,13,14,15] Q2)<|c1 Q (λh=>aSB (h.o 1 Q)) λl s23=>aV [51] Q2 (gP [0,9,2,3,4,5,6] Q4 (λ_=>iC (j:=({j with Reads:=l.1}:aK))) λx16 F=>dD F [10,11,12,13,14,15,16] Q2)<|aV [60] Q2 (gP [0,9,2,3,4,5,6] Q4 (λ_=>iC (j:=({j with Reads:=l.1}:aK))) λx17 E=>dD E [10,11,12,13,14,15,16] Q2)<|gP [0,9,2,3,4,5,6] Q4 (λ_=>YO (j:=({j with Reads:=l.1}:aK))) λx18 D=>dD D [10,11,12,13,14,15,16] Q2) λB _=>dD (g,f,e,d,c,b,a) [0,1,2,3,4,5,6] Q2
theorem aMG{l:aw}{n:Int}(h:bJ κ d l):V0 prog κ 301 (YA l n) [.h d l.length,I n] I:=
 bZ call301 func301 Q Q2<|D9 () [0,1] (λ(p:Int×Int) (_:Unit)=>[(5,I p.1),(6,I p.2)]) [] [] (λp _=>[]) id [] (λ(b:Int) (_:Unit)=>[(5,I b)]) [] (λb _=>[]) Q Q (λf ⟨g,c⟩ _ e=>dJ 0 0 (LF l g c) [0,1,5,6] 15 [] Q (eV [10,11] Q2 (bQ [] Q2)<|bQ [] Q2) λj=>aV [15] Q2 (cH 2 0 (SA c) [0,1,6] (λ(a:Int) (_:Unit)=>[(5,I a)]) [] (λa _=>[]) Q (AF IE Q h Q λi _ _=>aV [23] Q2 (bQ [] Q2)<|bQ [] Q2) λa _=>F9 [] Q)<|xY [] Q) λb _=>cQ Q2
theorem aOO{D:Int}{v:AC}{f:AC}:VS prog κ 158 (OQ t D j) [.g (QQ t B A z x w v u s q n m),I D,.g (YB j l k i g f e d)] [] ((IC t.aA B A z x w v u [ow s (t.bC:ba),ow m (t.Log:bs)])++(YC j l k i g f e d [])) (λr (y:AC×AC×AC×AC×AC×AC×AC×AC×AC×AC×AC×AC×AC×AC×AC×AC)=>.t [.g [.h y.1 r.1.aA.Mem.Heap.Bytes.length,.h y.2.1 r.1.aA.Mem.Heap.Class.length,.h y.2.2.1 r.1.aA.Mem.aD.Global.length,.h y.2.2.2.1 r.1.aA.Mem.aD.Own.length,I r.1.aA.aI.aP,.h y.2.2.2.2.1 r.1.aA.aI.bV.length,.h y.2.2.2.2.2.1 r.1.aA.aQ.length,.h y.2.2.2.2.2.2.1 r.1.aA.iU.length,.h y.2.2.2.2.2.2.2.1 r.1.bC.length,.h q t.aH.length,.h n t.aY.length,.h y.2.2.2.2.2.2.2.2.1 r.1.Log.length,I r.1.aG],.g (yTj r.2 y.2.2.2.2.2.2.2.2.2)]) (λr y=>((IC r.1.aA y.1 y.2.1 y.2.2.1 y.2.2.2.1 y.2.2.2.2.1 y.2.2.2.2.2.1 y.2.2.2.2.2.2.1 [ow y.2.2.2.2.2.2.2.1 r.1.bC,ow y.2.2.2.2.2.2.2.2.1 r.1.Log])++(zTj r.2 y.2.2.2.2.2.2.2.2.2 []))):=
 bZ call158 func158 Q Q2<|dE aC [16,17,18,19] Q<|c0 Q (λh=>aMG (h.o 11 Q)) λM=>aV [17] Q2 (dE aC [16,17] Q<|dD (B,A,z,x,w,v,u,s,m,l,k,i,g,f,e,d) [0,1,2,3,4,5,6,7,8,9,10,11,12,13,14,15] Q2)<|aAS [0,1,2,3,4,5,6,7,8,9,10,11,12,13,14,15] Q Q Q Q (λ_=>WX) λb a=>aV [31] Q2 (dE aC [16,17] Q<|dD a [20,21,22,23,24,25,26,27,28,29,30,31,32,33,34,35] Q2)<|cH 0 4 (λ(p:Bool×Table×aK)=>pN t p.1 p.2.1 p.2.2) [3,5,6,7] (λ(p:Bool×Table×aK) (_:Unit)=>[(50,.b p.1)]) [18,19] (λp _=>((IC p.2.1.aA a.1 a.2.1 a.2.2.1 a.2.2.2.1 a.2.2.2.2.1 a.2.2.2.2.2.1 a.2.2.2.2.2.2.1 [ow a.2.2.2.2.2.2.2.1 (p.2.1.bC:ba),ow a.2.2.2.2.2.2.2.2.1 (p.2.1.Log:bs),.box 0 [.h a.1 p.2.1.aA.Mem.Heap.Bytes.length,.h a.2.1 p.2.1.aA.Mem.Heap.Class.length,.h a.2.2.1 p.2.1.aA.Mem.aD.Global.length,.h a.2.2.2.1 p.2.1.aA.Mem.aD.Own.length,I p.2.1.aA.aI.aP,.h a.2.2.2.2.1 p.2.1.aA.aI.bV.length,.h a.2.2.2.2.2.1 p.2.1.aA.aQ.length,.h a.2.2.2.2.2.2.1 p.2.1.aA.iU.length,.h a.2.2.2.2.2.2.2.1 p.2.1.bC.length,.h q t.aH.length,.h n t.aY.length,.h a.2.2.2.2.2.2.2.2.1 p.2.1.Log.length,I p.2.1.aG]])++(zTj p.2.2 a.2.2.2.2.2.2.2.2.2 [.box 1 (yTj p.2.2 a.2.2.2.2.2.2.2.2.2)]))) Q (eV [37,38] Q2 (bQ (p:=(true,(⟨b.1.aA,b.1.bC,t.aH,t.aY,b.1.Log,b.1.aG⟩:Table),b.2.1)) [20,21,22,23,24,25,26,27,28,16,29,30,31,32,33,34,35,17,18,19] Q2)<|c0 Q (λ_=>g9) λF=>eV [43,44,45] Q2 (bQ (p:=(true,(⟨b.1.aA,b.1.bC,t.aH,t.aY,b.1.Log,b.1.aG⟩:Table),b.2.1)) [20,21,22,23,24,25,26,27,28,16,29,30,31,32,33,34,35,17,18,19] Q2)<|bQ (p:=(decide (6<=(b.2.1.eC.length:Int)),(⟨b.1.aA,b.1.bC,t.aH,t.aY,b.1.Log,b.1.aG⟩:Table),b.2.1)) [20,21,22,23,24,25,26,27,28,16,29,30,31,32,33,34,35,17,18,19] Q2) λ⟨L,K,J⟩ _=>aV [50] Q2 (dE aC [9,17] Q<|gP [10,11,12,13,14,15,16] Q4 (λ_=>iC) λH c=>dD (a.1,a.2.1,a.2.2.1,a.2.2.2.1,a.2.2.2.2.1,a.2.2.2.2.2.1,a.2.2.2.2.2.2.1,a.2.2.2.2.2.2.2.1,a.2.2.2.2.2.2.2.2.1,c.1,c.2.1,c.2.2.1,c.2.2.2.1,c.2.2.2.2.1,c.2.2.2.2.2.1,c.2.2.2.2.2.2) [0,1,2,3,4,5,6,7,8,20,21,22,23,24,25,26] Q2)<|λC=>lt1 Q aX Q4 λE=>ap 14 aX Q Q Q Q Q Q Q (λh=>(h.o 20 Q)) Q Q C λC o=>wi C<|c0 Q (λ_=>i5) λG=>dE aC [9,17] Q<|dD (a.1,a.2.1,a.2.2.1,a.2.2.2.1,a.2.2.2.2.1,a.2.2.2.2.2.1,a.2.2.2.2.2.2.1,a.2.2.2.2.2.2.2.1,a.2.2.2.2.2.2.2.2.1,a.2.2.2.2.2.2.2.2.2.1,a.2.2.2.2.2.2.2.2.2.2.1,a.2.2.2.2.2.2.2.2.2.2.2.1,a.2.2.2.2.2.2.2.2.2.2.2.2.1,o,a.2.2.2.2.2.2.2.2.2.2.2.2.2.2.1,a.2.2.2.2.2.2.2.2.2.2.2.2.2.2.2) [0,1,2,3,4,5,6,7,8,10,11,12,13,14,15,16] Q2
theorem aVO{l:al}{x:Int}{f:AC}:VS prog κ 411 (VX l x) [.h f l.length,I x] [] [ow f (l:al)] (λr (y:AC)=>.h y r.length) (λr y=>[ow y r]):=
 bZ call411 func411 Q Q2<|λg=>W9 (O:=Int) aX Q4 λG=>wi g<|D9 G [0,1] (λ(p:al×Bool×Int) (c:AC)=>[(5,.h c p.1.length),(6,.b p.2.1),(7,I p.2.2)]) [1,0] [0] (λp c=>[ow c (p.1:al)]) Out.brk [1] (λ(p:al×Bool) (e:AC)=>[(5,.h e p.1.length),(6,.b p.2)]) [] (λp e=>[ow e (p.1:al)]) Q Q (λq ⟨s,u,t⟩ c o=>aV [12] Q2 (fU oI 1 Q3 λC i _ w=>λa=>eH 0 w i Q5<|wi a<|aV [20] Q2 (λa=>sR Q<|eJ oI 2 [] i () Q7<|iM f [5] (re a Q o q) Q2 Q4)<|cH 1 1 (λ(p:al×Bool)=>vS l t p.1 p.2) [0,1,7] (λ(p:al×Bool) (k:AC)=>[(5,.h k p.1.length),(6,.b p.2)]) [] (λp k=>[ow f (l:al),ow k (p.1:al)]) Q (cH 0 1 (vT l x s u t) [0,1,5,6,7] (λ(b:Bool) (_:Unit)=>[(31,.b b)]) [0] (λb _=>[ow f (l:al)]) Q (eV [23,24] Q2 (λa=>eH 0 w i Q5<|sF Q<|eJ oI 2 [] i () Q7<|fO () [5,0] a Q)<|λa=>sF Q<|eJ oI 2 [] i () Q7<|fO () [5,0] a Q) λb _=>aV [31] Q2 (λa=>lt1 Q aX Q4 λD=>ap 1 aX Q Q Q Q Q Q Q (λh=>(h.o 2 Q)) Q Q a λa m=>wi a<|iO (p:=(s++([x]),true)) m [0,1] Q2)<|iO (p:=(s,u)) c [0,1] Q2) λ⟨B,A⟩ k=>fU oI 0 Q3 λz v _ H=>λa=>eH 1 H v Q5<|lt1 Q aX Q4 λE=>ap 1 aX Q Q Q Q Q Q Q (λh=>(h.o 5 Q)) Q Q a λa n=>sF Q<|eJ oI 2 [] v () Q7<|nxR n [1,6] a Q)<|bkW c [0] Q) λ⟨K,J⟩ e=>cH 0 0 B8 [] (λ(j:al) (d:AC)=>[(5,.h d j.length)]) [] (λj d=>[ow d (j:al)]) Q (aV [44] Q2 (λg=>lt1 Q aX Q4 λL=>ap 0 aX Q Q Q Q Q Q Q (λh=>(h.o 1 Q)) Q Q g λg F=>wi g<|iO F [0] Q2)<|iO e [0] Q2) λj d=>dD d [0] Q2
theorem aSD{l:aw}{f:AC}(g:bJ κ f l):VS prog κ 302 (SB l) [.h f l.length] [] [] (λr (y:AC)=>.h y r.length) (λr y=>[ow y r]):=
 bZ call302 func302 Q Q2<|λq=>W9 (O:=Int) aX Q4 λo=>wi q<|D9 o [0] (λ(p:al×Int) (a:AC)=>[(3,.h a p.1.length),(4,I p.2)]) [0] [] (λp a=>[ow a (p.1:al)]) id [] (λ(e:al) (c:AC)=>[(3,.h c e.length)]) [] (λe c=>[ow c (e:al)]) Q Q (λk ⟨v,m⟩ a j=>aV [9] Q2 (cH 2 0 (G9 m) [0,4] (λ(d:al) (b:AC)=>[(3,.h b d.length)]) [] (λd b=>[ow b (d:al)]) Q (AF IE Q g Q λu _ _=>c0 Q (λ_=>SN) λt=>aV [18] Q2 (AF IE Q g Q λs _ _=>c0 Q (λ_=>SN) λi=>gP [0] Q4 (λ_=>aVO) λh n=>iO n [3] Q2)<|iO a [0] Q2) λd b=>nxW b [0] Q)<|bkW a [0] Q) λe c=>dD c [0] Q2
theorem aB2{l:Int}{v o h:AC}{f b a:AC}:VS prog κ 303 (FO t l j) [.g (QQ t v u s q p o n m x i h),I l,.g (YB j g f e d c b a)] [] ((IC t.aA v u s q p o n [ow m (t.bC:ba),ow h (t.Log:bs)])++(YC j g f e d c b a [])) (λr (y:AC×AC×AC×AC×AC×AC×AC×AC×AC×AC×AC×AC×AC×AC×AC×AC)=>.t [.g [.h y.1 r.1.aA.Mem.Heap.Bytes.length,.h y.2.1 r.1.aA.Mem.Heap.Class.length,.h y.2.2.1 r.1.aA.Mem.aD.Global.length,.h y.2.2.2.1 r.1.aA.Mem.aD.Own.length,I r.1.aA.aI.aP,.h y.2.2.2.2.1 r.1.aA.aI.bV.length,.h y.2.2.2.2.2.1 r.1.aA.aQ.length,.h y.2.2.2.2.2.2.1 r.1.aA.iU.length,.h y.2.2.2.2.2.2.2.1 r.1.bC.length,.h x t.aH.length,.h i t.aY.length,.h y.2.2.2.2.2.2.2.2.1 r.1.Log.length,I r.1.aG],.g (yTj r.2 y.2.2.2.2.2.2.2.2.2)]) (λr y=>((IC r.1.aA y.1 y.2.1 y.2.2.1 y.2.2.2.1 y.2.2.2.2.1 y.2.2.2.2.2.1 y.2.2.2.2.2.2.1 [ow y.2.2.2.2.2.2.2.1 r.1.bC,ow y.2.2.2.2.2.2.2.2.1 r.1.Log])++(zTj r.2 y.2.2.2.2.2.2.2.2.2 []))):=
 bZ call303 func303 Q Q2<|λw=>nw oV Q<|nw eD Q<|HN aRB [20,21] ((⟨2,l,j.aG,0,[],[]⟩:wH)) (⟨none,0⟩,⟨none,0⟩) fK HO λz=>apN 8 22 fK Q Q Q9 w λw k=>wi w<|dE aC [16,17] Q<|dD (v,u,s,q,p,o,n,m,k,g,f,e,d,c,b,a) [0,1,2,3,4,5,6,7,23,9,10,11,12,13,14,15] Q2
theorem aSE{u:Int}{o v:AC}:VS prog κ 159 (SC t u j) [.g (QQ t E D C B A z x k T w e),I u,.g (YB j s q o n m v l)] [] ((IC t.aA E D C B A z x [ow k (t.bC:ba),ow e (t.Log:bs)])++(YC j s q o n m v l [])) (λr (y:AC×AC×AC×AC×AC×AC×AC×AC×AC×AC×AC×AC×AC×AC×AC×AC)=>.t [.g [.h y.1 r.1.aA.Mem.Heap.Bytes.length,.h y.2.1 r.1.aA.Mem.Heap.Class.length,.h y.2.2.1 r.1.aA.Mem.aD.Global.length,.h y.2.2.2.1 r.1.aA.Mem.aD.Own.length,I r.1.aA.aI.aP,.h y.2.2.2.2.1 r.1.aA.aI.bV.length,.h y.2.2.2.2.2.1 r.1.aA.aQ.length,.h y.2.2.2.2.2.2.1 r.1.aA.iU.length,.h y.2.2.2.2.2.2.2.1 r.1.bC.length,.h T t.aH.length,.h w t.aY.length,.h y.2.2.2.2.2.2.2.2.1 r.1.Log.length,I r.1.aG],.g (yTj r.2 y.2.2.2.2.2.2.2.2.2)]) (λr y=>((IC r.1.aA y.1 y.2.1 y.2.2.1 y.2.2.2.1 y.2.2.2.2.1 y.2.2.2.2.2.1 y.2.2.2.2.2.2.1 [ow y.2.2.2.2.2.2.2.1 r.1.bC,ow y.2.2.2.2.2.2.2.2.1 r.1.Log])++(zTj r.2 y.2.2.2.2.2.2.2.2.2 []))):=
 bZ call159 func159 Q Q2<|c1 Q (λh=>aSD (h.o 11 Q)) λx1 s19=>aV [18] Q2 (aAS [0,1,2,3,4,5,6,7,8,9,10,11,12,13,14,15] Q Q Q Q (λ_=>aB2) λx2 O=>dD O [21,22,23,24,25,26,27,28,29,30,31,32,33,34,35,36] Q2)<|fU oI 20 Q3 λG W _ h2=>λa=>eH 4 h2 W Q5<|wi a<|fU kG 7 Q3 λx4 V _ h4=>λa=>eH 5 h4 V Q5<|wi a<|aV [36] Q2 (dE aC [16,17,23,26] Q<|gP [9,10,11,12,13,14,15] Q4 (λ_=>iC) λx5 d=>λa=>sR Q<|eJ kG 24 [] V () Q7<|fR Q2<|eJ oI 21 [] W () Q7<|fR Q2<|iM (E,D,C,B,A,z,x,k,e,d.1,d.2.1,d.2.2.1,d.2.2.2.1,d.2.2.2.2.1,d.2.2.2.2.2.1,d.2.2.2.2.2.2) [0,1,2,3,4,5,6,34,8,27,28,29,30,31,32,33] a Q2 Q4)<|λa=>EX kG 24 [] V () Q9<|EX oI 21 [] W () Q9<|wi a<|SW 10 [1,3,5,6,7,8,9] [28,0,1,2,3,4,5,6,27,8,16,9,10,11,12,13,14,15,17,18,19] Out.brk [1,3,5,6,7,8,9] [28,0,1,2,3,4,5,6,27,8,16,9,10,11,12,13,14,15,17,18,19] Q Q (λR x7 P=>aV [44] Q2 (dJ 0 6 (y8 t j x7) [1,3,5,6,7,8,9,10] 69 [0,1,2,3,4,5,6,7,8,9,10,11,12,13,14,15,16,17,18,19,20] Q (dE aC [10,18,19,20] Q<|fU LR 12 Q3 λL H _ Y=>λf=>eH 6 Y H Q5<|wi f<|eV [54,55] Q2 (λf=>eH 6 Y H Q5<|wi f<|fU kG 8 Q3 λJ X _ S=>λf=>eH 7 S X Q5<|(by refine dS Q2 ?_ ?_<;>exact sF Q<|eJ kG 24 [] X () Q7<|fR Q2<|eJ LR 21 [] H () Q7<|fR Q2<|fO (p:=(L.iF != J.iF)) () [0,1,2,3,4,5,6,7,27,9,10,11,28,13,14,15,16,17,18,19,20] f Q))<|λf=>sF Q<|eJ LR 21 [] H () Q7<|fR Q2<|fO (p:=(false)) () [0,1,2,3,4,5,6,7,8,9,10,11,24,13,14,15,16,17,18,19,20] f Q) λx13=>aV [69] Q2 (dE aC [10,18] Q<|gP [11,12,13,14,15,16,17] Q4 (λ_=>iC) λx14 b=>M0 P R<|dD (E,D,C,B,A,z,x,k,e,b.1,b.2.1,b.2.2.1,b.2.2.2.1,b.2.2.2.2.1,b.2.2.2.2.2.1,b.2.2.2.2.2.2) [1,2,3,4,5,6,7,8,9,21,22,23,24,25,26,27] Q2)<|F9 [0,1,2,3,4,5,6,7,8,9,10,11,12,13,14,15,16,17,18,19,20] Q)<|xY [0,1,2,3,4,5,6,7,8,9,10,11,12,13,14,15,16,17,18,19,20] Q)<|fU kG 8 Q3 λF U _ Z=>λa=>eH 6 Z U Q5<|wi a<|aV [79] Q2 (dE aC [10,18,23] Q<|gP [11,12,13,14,15,16,17] Q4 (λ_=>iC) λx9 c=>λa=>sR Q<|eJ kG 21 [] U () Q7<|iM (E,D,C,B,A,z,x,k,e,c.1,c.2.1,c.2.2.1,c.2.2.2.1,c.2.2.2.2.1,c.2.2.2.2.2.1,c.2.2.2.2.2.2) [1,2,3,4,5,6,7,31,9,24,25,26,27,28,29,30] a Q2 Q4)<|λa=>eH 6 Z U Q5<|wi a<|cH 1 7 (y7 t u j x1 G F) [1,3,5,6,7,8] (λ(g:al) (i:AC)=>[]) [0,1,2,3,4,5,6,7,9,11,12,13,14,15,17,19,20] (λg i=>[ow k (t.bC.set G.toNat ({F with jC:=bB (u+1)}:dR):ba),.box 0 [.h E t.aA.Mem.Heap.Bytes.length,.h D t.aA.Mem.Heap.Class.length,.h C t.aA.Mem.aD.Global.length,.h B t.aA.Mem.aD.Own.length,I t.aA.aI.aP,.h A t.aA.aI.bV.length,.h z t.aA.aQ.length,.h x t.aA.iU.length,.h k (t.bC.set G.toNat ({F with jC:=bB (u+1)}:dR)).length,.h T t.aH.length,.h w t.aY.length,.h e t.Log.length,I t.aG],ow i (g:al),.box 1 [.b j.gW,.b j.Batch.Collect,.h s j.Batch.b8.length,I j.aG,I j.Pc,I j.At,I j.K,I j.dR,I j.iF,I j.H,I j.jH,I j.Node.Key,I j.Node.cT,I j.Node.Next,.b j.Found,I j.Code,I j.Sub.Kind,I j.Sub.A,I j.Sub.Pc,I j.Sub.E,I j.Sub.Row,I j.Sub.B,I j.Sub.H,I j.Sub.Out,I j.Sub.Code,.b j.Sub.eG,.h q j.Reads.length,.h o j.aL.length,.h n j.eD.length,.h m j.eC.length,.h i g.length,.h l j.bW.length]]) Q (c0 Q (λh=>SI (h.o 16 Q)) λx12=>aV [94] Q2 (λa=>lt1 Q aX Q4 λs25=>ap 16 aX Q Q Q Q Q Q Q (λh=>(h.o 24 Q)) Q Q a λa M=>sF Q<|gR kG 21 [] [74,84] ({F with jC:=bB (u+1)}:dR) () Q8<|fR Q2<|iS k bI.symm [] [(10,8)] Q3<|fR Q2<|fO M [25,10,16,18,0,1,2,3,4,5,6,7,9,11,12,13,14,15,17,19,20] a Q)<|λa=>sF Q<|gR kG 21 [] [74,84] ({F with jC:=bB (u+1)}:dR) () Q8<|fR Q2<|iS k bI.symm [] [(10,8)] Q3<|fR Q2<|fO v [24,10,16,18,0,1,2,3,4,5,6,7,9,11,12,13,14,15,17,19,20] a Q) λg i=>aV [109] Q2 (aAS [5,6,7,8,9,10,11,0,12,13,14,15,16,17,2,18] Q Q Q Q (λ_=>aB2 (t:=({t with bC:=t.bC.set G.toNat ({F with jC:=bB (u+1)}:dR)}:Table)) (j:=({j with K:=bB (j.K+1),bM:=g}:aK))) λx11 N=>dD N [21,22,23,24,25,26,27,28,29,30,31,32,33,34,35,36] Q2)<|dE aC [1,3] Q<|dD (E,D,C,B,A,z,x,k,e,s,q,o,n,m,i,l) [5,6,7,8,9,10,11,0,12,13,14,15,16,17,2,18] Q2
theorem aOP{p:Int}{v:AC}{a f b:AC}(O:bJ κ A t.aA.Mem.Heap.Bytes)(N:bJ κ z t.aA.Mem.Heap.Class)(M:bJ κ x t.aA.Mem.aD.Global)(L:bJ κ w t.aA.Mem.aD.Own)(K:bJ κ v t.aA.aI.bV)(J:bJ κ u t.aA.aQ)(H:bJ κ s t.aA.iU)(C:bJ κ q t.bC)(G:bJ κ k t.Log):VS prog κ 160 (OR t p j) [.g (QQ t A z x w v u s q B m k),I p,.g (YB j g a f e d c b)] [] (YC j g a f e d c b []) (λr (y:A7C)=>.g (yTj r y)) (λr y=>(zTj r y [])):=
 bZ call160 func160 Q Q2<|aV [14] Q2 (dD (g,a,f,e,d,c,b) [0,1,2,3,4,5,6] Q2)<|fU LR 1 Q3 λF h _ n=>λi=>eH 3 n h Q5<|wi i<|AF bL4 Q C Q λE _ _=>cH 0 7 (mN j) [5,6] (λ(o:Bool) (_:Unit)=>[(46,.b o)]) [0,2,3,4,5,6,8,9] (λo _=>[ow a (j.Reads:bo)]) Q (eV [32,33] Q2 (eV [38,39,40] Q2 (λi=>sF Q<|eJ LR 10 [] h () Q7<|fR Q2<|fO () [16,0,2,3,4,5,6,8,9] i Q)<|λi=>sF Q<|eJ LR 10 [] h () Q7<|fR Q2<|fO () [16,0,2,3,4,5,6,8,9] i Q)<|λi=>sF Q<|eJ LR 10 [] h () Q7<|fR Q2<|fO () [16,0,2,3,4,5,6,8,9] i Q) λo _=>aV [46] Q2 (gP [1,0,2,3,4,5,6] Q4 (λ_=>iC) λD l=>dD l [9,10,11,12,13,14,15] Q2)<|dD (g,a,f,e,d,c,b) [1,0,2,3,4,5,6] Q2
theorem QF{h f b:AC}:VS prog κ 304 (tK j) [.g (YB j h g f e d c b)] [] (YC j h g f e d c b []) (λr (y:A7C)=>.g (yTj r y)) (λr y=>(zTj r y [])):=
 bZ call304 func304 Q Q2<|fU kV 2 Q3 λl i _ k=>λa=>eH 2 k i Q5<|wi a<|aV [9] Q2 (λa=>sR Q<|eJ kV 9 [] i () Q7<|iM (h,g,f,e,d,c,b) [0,1,12,3,4,5,6] a Q2 Q4)<|λa=>sR Q<|eJ kV 9 [] i () Q7<|iM (h,g,f,e,d,c,b) [0,1,12,3,4,5,6] a Q2 Q4
theorem aDS:V0 prog κ 237 (LH h) [I h] .b:=
 bZ call237 func237 Q Q2<|dJ 0 0 HA [] 2 [] Q (eV [4,5] Q2 (bQ [] Q2)<|c0 Q (λ_=>g9) λa=>bQ [] Q2) λb=>cQ Q2
theorem aVP{m:Mem}{a:Int}{j:AC}(f:bJ κ l m.Heap.Bytes)(e:bJ κ k m.Heap.Class)(d:bJ κ j m.aD.Global)(c:bJ κ i m.aD.Own):VS prog κ 305 (VY m h a) [.g (gM m l k j i),I h,I a] [] [] (λr (y:A4C)=>.t [.g (yM r.1 y),I r.2]) (λr y=>(zM r.1 y [])):=
 bZ call305 func305 Q Q2<|c1 Q (λh=>FR (h.a f) (h.a e) (h.a d) (h.a c)) λg b=>cH 0 3 (λ(p:Bool×Mem)=>LI m h a p.1 p.2) [1,2,3,6,8] (λ(p:Bool×Mem) (_:Unit)=>[(20,.b p.1)]) [0,1] (λp _=>(zM p.2 b [.box 2 (yM p.2 b)])) Q (c0 Q (λh=>LV (h.a f) (h.a e) (h.a d) (h.a c)) λq=>eV [15,16] Q2 (bQ (p:=(true,g)) [2,3,4,5,6,0,1] Q2)<|c0 Q (λ_=>aDS) λn=>bQ (p:=(!n,g)) [2,3,4,5,6,0,1] Q2) λ⟨w,v⟩ _=>aV [20] Q2 (dD b [0,1,2,3] Q2)<|c0 Q (λh=>vY (h.a f) (h.a e) (h.a d) (h.a c)) λu=>aV [25] Q2 (dD b [0,1,2,3] Q2)<|c0 Q (λh=>T1 (h.a f) (h.a e) (h.a d) (h.a c)) λt=>aV [34] Q2 (dD b [0,1,2,3] Q2)<|gP [0] Q4 (λ_=>nI) λs o=>dD (o,b.2.1,b.2.2.1,b.2.2.2) [7,1,2,3] Q2
theorem aVQ{n:fS}:V0 prog κ 243 (VZ n) [.g [I n.Key,I n.cT,I n.Next]] .b:=
 bZ call243 func243 Q Q2<|dJ 0 1 CA [] 2 [] Q (c0 Q (λ_=>bN) λc=>eV [5,6] Q2 (c0 Q (λ_=>bN) λb=>eV [9,10,11] Q2 (c0 Q (λ_=>aDS) λa=>bQ [] Q2)<|bQ [] Q2)<|bQ [] Q2) λd=>cQ Q2
theorem aVR{m:Mem}{at_:Int}{n:fS}{b a:AC}:VS prog κ 412 (aC8 m at_ n) [.g (gM m d c b a),I at_,.g [I n.Key,I n.cT,I n.Next]] [] (oM m d c b a []) (λr (y:A4C)=>.g (yM r y)) (λr y=>(zM r y [])):=
 bZ call412 func412 Q Q2<|gP [0] Q4 (λ_=>nI) λh j=>gP [7] Q4 (λ_=>nI) λg i=>gP [8] Q4 (λ_=>nI) λf e=>dD (e,c,b,a) [9,1,2,3] Q2
theorem qG{m:Mem}{n:fS}{j:AC}(e:bJ κ k m.Heap.Bytes)(d:bJ κ j m.Heap.Class)(c:bJ κ i m.aD.Global)(b:bJ κ g m.aD.Own):VS prog κ 306 (SD m h n) [.g (gM m k j i g),I h,.g [I n.Key,I n.cT,I n.Next]] [] [] (λr (y:A4C)=>.t [.g (yM r.1 y),I r.2]) (λr y=>(zM r.1 y [])):=
 bZ call306 func306 Q Q2<|c1 Q (λh=>FR (h.a e) (h.a d) (h.a c) (h.a b)) λf a=>cH 0 4 (λ(p:Bool×Mem)=>HB m h n p.1 p.2) [1,3,5,6,8] (λ(p:Bool×Mem) (_:Unit)=>[(20,.b p.1)]) [0,1,2] (λp _=>(zM p.2 a [.box 3 (yM p.2 a)])) Q (c0 Q (λh=>LV (h.a e) (h.a d) (h.a c) (h.a b)) λq=>eV [15,16] Q2 (bQ (p:=(true,f)) [3,4,5,6,7,0,1,2] Q2)<|c0 Q (λ_=>aVQ) λl=>bQ (p:=(!l,f)) [3,4,5,6,7,0,1,2] Q2) λ⟨w,v⟩ _=>aV [20] Q2 (dD a [0,1,2,3] Q2)<|c0 Q (λh=>vY (h.a e) (h.a d) (h.a c) (h.a b)) λu=>aV [25] Q2 (dD a [0,1,2,3] Q2)<|c0 Q (λh=>T1 (h.a e) (h.a d) (h.a c) (h.a b)) λt=>aV [34] Q2 (dD a [0,1,2,3] Q2)<|gP [0,1,2,3] Q4 (λ_=>aVR) λs o=>dD o [8,9,10,11] Q2
theorem aJM{S f b:AC}{v o:AC}:VS prog κ 161 (HC t j) [.g (QQ t V U T S l k i f X w b),.g (YB j v s g q o n m)] [] ((IC t.aA V U T S l k i [ow f (t.bC:ba),ow b (t.Log:bs)])++(YC j v s g q o n m [])) (λr (y:AC×AC×AC×AC×AC×AC×AC×AC×AC×AC×AC×AC×AC×AC×AC×AC)=>.t [.g [.h y.1 r.1.aA.Mem.Heap.Bytes.length,.h y.2.1 r.1.aA.Mem.Heap.Class.length,.h y.2.2.1 r.1.aA.Mem.aD.Global.length,.h y.2.2.2.1 r.1.aA.Mem.aD.Own.length,I r.1.aA.aI.aP,.h y.2.2.2.2.1 r.1.aA.aI.bV.length,.h y.2.2.2.2.2.1 r.1.aA.aQ.length,.h y.2.2.2.2.2.2.1 r.1.aA.iU.length,.h y.2.2.2.2.2.2.2.1 r.1.bC.length,.h X t.aH.length,.h w t.aY.length,.h y.2.2.2.2.2.2.2.2.1 r.1.Log.length,I r.1.aG],.g (yTj r.2 y.2.2.2.2.2.2.2.2.2)]) (λr y=>((IC r.1.aA y.1 y.2.1 y.2.2.1 y.2.2.2.1 y.2.2.2.2.1 y.2.2.2.2.2.1 y.2.2.2.2.2.2.1 [ow y.2.2.2.2.2.2.2.1 r.1.bC,ow y.2.2.2.2.2.2.2.2.1 r.1.Log])++(zTj r.2 y.2.2.2.2.2.2.2.2.2 []))):=
 bZ call161 func161 Q Q2<|aV [14] Q2 (dE aC [16,17] Q<|dD (V,U,T,S,l,k,i,f,b,v,s,g,q,o,n,m) [0,1,2,3,4,5,6,7,8,9,10,11,12,13,14,15] Q2)<|fU kV 11 Q3 λx1 W _ h2=>λa=>eH 4 h2 W Q5<|wi a<|c0 Q (λ_=>SN) λx2=>cH 1 6 (λ(p:ba×aK)=>qA t p.1 p.2) [2,3,4,5] (λ(p:ba×aK) (_:Unit)=>[]) [0,1,2,3,4,5,6,8,18,19] (λp _=>([ow f (p.1:ba),.box 0 [.h V t.aA.Mem.Heap.Bytes.length,.h U t.aA.Mem.Heap.Class.length,.h T t.aA.Mem.aD.Global.length,.h S t.aA.Mem.aD.Own.length,I t.aA.aI.aP,.h l t.aA.aI.bV.length,.h k t.aA.aQ.length,.h i t.aA.iU.length,.h f p.1.length,.h X t.aH.length,.h w t.aY.length,.h b t.Log.length,I t.aG]]++(YC p.2 v s g q o n m [.box 1 (YB p.2 v s g q o n m)]))) Q (aV [88,89] Q2 (fU kG 7 Q3 λx5 h3 _ h4=>λa=>eH 6 h4 h3 Q5<|wi a<|aV [100] Q2 (dE aC [16,17,22,23,26] Q<|λa=>EX kG 24 [] h3 () Q9<|EX kV 20 [] W () Q9<|wi a<|gP [9,10,28,12,13,14,15] Q4 (λ_=>QF (j:=({j with H:=x5.Head,jH:=0}:aK))) λx6 C=>dD (V,U,T,S,l,k,i,f,b,C.1,C.2.1,C.2.2.1,C.2.2.2.1,C.2.2.2.2.1,C.2.2.2.2.2.1,C.2.2.2.2.2.2) [0,1,2,3,4,5,6,27,8,29,30,31,32,33,34,35] Q2)<|λa=>sF Q<|eJ kG 24 [] h3 () Q7<|fR Q2<|eJ kV 20 [] W () Q7<|fR Q2<|fO (p:=(t.bC,({j with Pc:=10,H:=x5.Head,jH:=0}:aK))) () [27,16,9,10,28,12,13,14,15,17,0,1,2,3,4,5,6,8,18,19] a Q)<|aV [105,106] Q2 (c0 Q (λh=>aF6 (h.o 0 Q) (h.o 1 Q) (h.o 2 Q) (h.o 3 Q)) λx7=>aV [121,127] Q2 (λa=>sF Q<|eJ kV 20 [] W () Q7<|fR Q2<|fO (p:=(t.bC,({j with Pc:=11,Node:=x7}:aK))) () [7,16,9,10,24,12,13,14,15,17,0,1,2,3,4,5,6,8,18,19] a Q)<|c0 Q (λ_=>CJ) λx8=>aV [129,133] Q2 (dE aC [16,17,22,23] Q<|λa=>EX kV 20 [] W () Q9<|wi a<|gP [9,10,24,12,13,14,15] Q4 (λ_=>QF (j:=({j with Node:=x7}:aK))) λx9 B=>dD (V,U,T,S,l,k,i,f,b,B.1,B.2.1,B.2.2.1,B.2.2.2.1,B.2.2.2.2.1,B.2.2.2.2.2.1,B.2.2.2.2.2.2) [0,1,2,3,4,5,6,7,8,25,26,27,28,29,30,31] Q2)<|c0 Q (λ_=>CJ) λx10=>λa=>sF Q<|eJ kV 20 [] W () Q7<|fR Q2<|fO (p:=(t.bC,({j with H:=x10,jH:=j.H,Node:=x7}:aK))) () [7,16,9,10,24,12,13,14,15,17,0,1,2,3,4,5,6,8,18,19] a Q)<|aV [137,138] Q2 (cH 0 6 (qC t j) [2,3,4,5] (λ(c:Table) (u:A4C)=>[]) [9,10,12,13,14,15,17,18,19] (λc u=>(IC c.aA u.1 u.2.1 u.2.2.1 u.2.2.2 l k i [ow f (c.bC:ba),ow b (c.Log:bs),.box 0 [.h u.1 c.aA.Mem.Heap.Bytes.length,.h u.2.1 c.aA.Mem.Heap.Class.length,.h u.2.2.1 c.aA.Mem.aD.Global.length,.h u.2.2.2 c.aA.Mem.aD.Own.length,I c.aA.aI.aP,.h l c.aA.aI.bV.length,.h k c.aA.aQ.length,.h i c.aA.iU.length,.h f c.bC.length,.h X t.aH.length,.h w t.aY.length,.h b c.Log.length,I c.aG],ow g (j.aL:aw)])) Q (aV [141] Q2 (λa=>EX kV 20 [] W () Q9<|wi a<|dE aC [16,17,18,19,22,23] Q<|c0 Q (λ_=>CJ) λx18=>fU kG 7 Q3 λx19 h5 _ h6=>λa=>eH 6 h6 h5 Q5<|sF Q<|gR kG 25 [] [143] ({x19 with Head:=x18}:dR) () Q8<|fR Q2<|iS f bI.symm [(0,8)] [(16,8)] Q3<|fR Q2<|fO (V,U,T,S) [0,1,2,3,4,5,6,28,8,16,24,9,10,12,13,14,15,17,18,19] a Q)<|cH 0 6 (IB t j) [2,3,4,5] (λ(d:Table) (u:A4C)=>[]) [9,10,12,13,14,15,17,18,19] (λd u=>(IC d.aA u.1 u.2.1 u.2.2.1 u.2.2.2 l k i [ow f (d.bC:ba),ow b (d.Log:bs),.box 0 [.h u.1 d.aA.Mem.Heap.Bytes.length,.h u.2.1 d.aA.Mem.Heap.Class.length,.h u.2.2.1 d.aA.Mem.aD.Global.length,.h u.2.2.2 d.aA.Mem.aD.Own.length,I d.aA.aI.aP,.h l d.aA.aI.bV.length,.h k d.aA.aQ.length,.h i d.aA.iU.length,.h f d.bC.length,.h X t.aH.length,.h w t.aY.length,.h b d.Log.length,I d.aG],ow g (j.aL:aw)])) Q (dE aC [17,18,19,22,23] Q<|λa=>bd a λx21 hA1 a=>bd a λx22 hA2 a=>(by refine dS Q2 ?_ ?_<;>exact ES hA1 Q (λ_=>CJ)<|I5 hA2 Q (λh=>aVP (h.o 0 Q) (h.o 1 Q) (h.o 2 Q) (h.o 3 Q)) λs34=>sF Q<|eJ kV 20 [] W () Q7<|fR Q2<|fO (p:=(({t with aA:=(⟨x22.1,t.aA.aI,t.aA.aQ,t.aA.iU⟩:aA)}:Table))) s34 [24,25,26,27,4,5,6,7,8,16,28,9,10,12,13,14,15,17,18,19] a Q)) λd ⟨s29,s30,s31,s32⟩=>iO (p:=(({d with aH:=t.aH,aY:=t.aY}:Table))) (s29,s30,s31,s32) [0,1,2,3,4,5,6,7,8,9,10,11,12,13,14,15,16,17,18,19] Q2) λc ⟨N,M,L,J⟩=>cH 1 6 (λ(p:Table×al)=>qB t j p.1 p.2) [2,3,4,5] (λ(p:Table×al) (P:AC)=>[]) [11,12,10,13,14,15,18,19] (λp P=>(IC p.1.aA N M L J l k i [ow f (p.1.bC:ba),ow b (p.1.Log:bs),.box 0 [.h N p.1.aA.Mem.Heap.Bytes.length,.h M p.1.aA.Mem.Heap.Class.length,.h L p.1.aA.Mem.aD.Global.length,.h J p.1.aA.Mem.aD.Own.length,I p.1.aA.aI.aP,.h l p.1.aA.aI.bV.length,.h k p.1.aA.aQ.length,.h i p.1.aA.iU.length,.h f p.1.bC.length,.h X t.aH.length,.h w t.aY.length,.h b p.1.Log.length,I p.1.aG],ow P (p.2:al),.box 1 [.b j.gW,.b j.Batch.Collect,.h v j.Batch.b8.length,I j.aG,I j.Pc,I j.At,I j.K,I j.dR,I j.iF,I j.H,I j.jH,I j.Node.Key,I j.Node.cT,I j.Node.Next,.b j.Found,I j.Code,I j.Sub.Kind,I j.Sub.A,I j.Sub.Pc,I j.Sub.E,I j.Sub.Row,I j.Sub.B,I j.Sub.H,I j.Sub.Out,I j.Sub.Code,.b j.Sub.eG,.h s j.Reads.length,.h g j.aL.length,.h q j.eD.length,.h o j.eC.length,.h n j.bM.length,.h P p.2.length]])) Q (cH 0 6 (λ(p:Bool×Table)=>xS t j p.1 p.2) [2,3,4,5] (λ(p:Bool×Table) (_:Unit)=>[(172,.b p.1)]) [11,12,10,13,14,15,16,17,18,19] (λp _=>(IC p.2.aA N M L J l k i [ow f (p.2.bC:ba),ow b (p.2.Log:bs),.box 0 [.h N p.2.aA.Mem.Heap.Bytes.length,.h M p.2.aA.Mem.Heap.Class.length,.h L p.2.aA.Mem.aD.Global.length,.h J p.2.aA.Mem.aD.Own.length,I p.2.aA.aI.aP,.h l p.2.aA.aI.bV.length,.h k p.2.aA.aQ.length,.h i p.2.aA.iU.length,.h f p.2.bC.length,.h X t.aH.length,.h w t.aY.length,.h b p.2.Log.length,I p.2.aG]])) Q (eV [167,168] Q2 (c0 Q (λ_=>g9) λx17=>bQ (p:=(x17,({c with aH:=t.aH,aY:=t.aY}:Table))) [0,1,2,3,4,5,6,7,8,9,11,12,10,13,14,15,16,17,18,19] Q2)<|bQ (p:=(false,({c with aH:=t.aH,aY:=t.aY}:Table))) [0,1,2,3,4,5,6,7,8,9,11,12,10,13,14,15,16,17,18,19] Q2) λ⟨x15,x16⟩ _=>aV [172] Q2 (λa=>lt1 Q aX Q4 λs27=>ap 16 aX Q Q Q Q Q Q Q (λh=>(h.o 20 Q)) Q Q a λa s28=>wi a<|iO (p:=(({x16 with aH:=t.aH,aY:=t.aY}:Table),j.bW++([j.H]))) s28 [0,1,2,3,4,5,6,7,8,9,16,17,10,11,12,13,14,15,18,19] Q2)<|iO (p:=(({x16 with aH:=t.aH,aY:=t.aY}:Table),j.bW)) m [0,1,2,3,4,5,6,7,8,9,16,17,10,11,12,13,14,15,18,19] Q2) λ⟨x12,x13⟩ P=>dE aC [9,11] Q<|gP [12,13,14,15,16,17,10] Q4 (λ_=>QF (j:=({j with bW:=x13}:aK))) λx14 A=>dD (N,M,L,J,l,k,i,f,b,A.1,A.2.1,A.2.2.1,A.2.2.2.1,A.2.2.2.2.1,A.2.2.2.2.2.1,A.2.2.2.2.2.2) [0,1,2,3,4,5,6,7,8,20,21,22,23,24,25,26] Q2)<|λa=>EX kV 20 [] W () Q9<|wi a<|c0 Q (λh=>aMG (h.o 24 Q)) λx23=>aV [38] Q2 (dE aC [16,17,22,23] Q<|gP [9,10,24,12,13,14,15] Q4 (λ_=>iC) λx24 z=>dD (V,U,T,S,l,k,i,f,b,z.1,z.2.1,z.2.2.1,z.2.2.2.1,z.2.2.2.2.1,z.2.2.2.2.2.1,z.2.2.2.2.2.2) [0,1,2,3,4,5,6,7,8,25,26,27,28,29,30,31] Q2)<|aV [44] Q2 (cH 0 6 (TM t j) [2,3,4,5] (λ(e:Table) (u:A4C)=>[]) [9,10,24,12,13,14,15,17,18,19] (λe u=>(IC e.aA u.1 u.2.1 u.2.2.1 u.2.2.2 l k i [ow f (e.bC:ba),ow b (e.Log:bs),.box 0 [.h u.1 e.aA.Mem.Heap.Bytes.length,.h u.2.1 e.aA.Mem.Heap.Class.length,.h u.2.2.1 e.aA.Mem.aD.Global.length,.h u.2.2.2 e.aA.Mem.aD.Own.length,I e.aA.aI.aP,.h l e.aA.aI.bV.length,.h k e.aA.aQ.length,.h i e.aA.iU.length,.h f e.bC.length,.h X t.aH.length,.h w t.aY.length,.h b e.Log.length,I e.aG]])) Q (dE aC [17,18,19,22,23] Q<|fU oI 13 Q3 λx26 Y _ h8=>λa=>eH 6 h8 Y Q5<|bd a λx27 O a=>bd a λx D a=>aE1 Q Q (dS Q2 (have hq5:=rb O;wi hq5<|fU kG 7 Q3 λu5 h11 _ h12=>λhq5=>eH 7 h12 h11 Q5<|match u5,hq5 with|_,rfl=>I5 D Q (λh=>qG (h.o 0 Q) (h.o 1 Q) (h.o 2 Q) (h.o 3 Q)) λs42=>sF Q<|eJ kG 28 [] h11 () Q7<|fR Q2<|eJ oI 25 [] Y () Q7<|fR Q2<|fO (p:=(({t with aA:=(⟨x.1,t.aA.aI,t.aA.aQ,t.aA.iU⟩:aA)}:Table))) s42 [31,32,33,34,4,5,6,35,8,16,9,10,24,12,36,14,15,17,18,19] a Q) (have Z:=rb O;wi Z<|fU kG 7 Q3 λu7 h13 _ h14=>λZ=>eH 7 h14 h13 Q5<|match u7,Z with|_,rfl=>(by refine dS Q2 ?_ ?_<;>exact I5 D Q (λh=>qG (h.o 0 Q) (h.o 1 Q) (h.o 2 Q) (h.o 3 Q)) λs43=>sF Q<|eJ kG 28 [] h13 () Q7<|fR Q2<|eJ oI 25 [] Y () Q7<|fR Q2<|fO (p:=(({t with aA:=(⟨x.1,t.aA.aI,t.aA.aQ,t.aA.iU⟩:aA)}:Table))) s43 [31,32,33,34,4,5,6,35,8,16,9,10,24,12,36,14,15,17,18,19] a Q))) (dS Q2 (have G:=rb O;wi G<|fU kG 7 Q3 λu10 h15 _ h16=>λG=>eH 7 h16 h15 Q5<|match u10,G with|_,rfl=>I5 D Q (λh=>qG (h.o 0 Q) (h.o 1 Q) (h.o 2 Q) (h.o 3 Q)) λs45=>sF Q<|eJ kG 28 [] h15 () Q7<|fR Q2<|eJ oI 25 [] Y () Q7<|fR Q2<|fO (p:=(({t with aA:=(⟨x.1,t.aA.aI,t.aA.aQ,t.aA.iU⟩:aA)}:Table))) s45 [31,32,33,34,4,5,6,35,8,16,9,10,24,12,36,14,15,17,18,19] a Q) (have F:=rb O;wi F<|fU kG 7 Q3 λu12 h17 _ h18=>λF=>eH 7 h18 h17 Q5<|match u12,F with|_,rfl=>(by refine dS Q2 ?_ ?_<;>exact I5 D Q (λh=>qG (h.o 0 Q) (h.o 1 Q) (h.o 2 Q) (h.o 3 Q)) λs46=>sF Q<|eJ kG 28 [] h17 () Q7<|fR Q2<|eJ oI 25 [] Y () Q7<|fR Q2<|fO (p:=(({t with aA:=(⟨x.1,t.aA.aI,t.aA.aQ,t.aA.iU⟩:aA)}:Table))) s46 [31,32,33,34,4,5,6,35,8,16,9,10,24,12,36,14,15,17,18,19] a Q))) (have E:=rb O;wi E<|fU kG 7 Q3 λu15 R _ h20=>λE=>eH 7 h20 R Q5<|match u15,E with|_,rfl=>aE1 Q Q ((by refine dS Q2 ?_ ?_<;>exact I5 D Q (λh=>qG (h.o 0 Q) (h.o 1 Q) (h.o 2 Q) (h.o 3 Q)) λs48=>sF Q<|eJ kG 28 [] R () Q7<|fR Q2<|eJ oI 25 [] Y () Q7<|fR Q2<|fO (p:=(({t with aA:=(⟨x.1,t.aA.aI,t.aA.aQ,t.aA.iU⟩:aA)}:Table))) s48 [31,32,33,34,4,5,6,35,8,16,9,10,24,12,36,14,15,17,18,19] a Q)) ((by refine dS Q2 ?_ ?_<;>exact I5 D Q (λh=>qG (h.o 0 Q) (h.o 1 Q) (h.o 2 Q) (h.o 3 Q)) λs50=>sF Q<|eJ kG 28 [] R () Q7<|fR Q2<|eJ oI 25 [] Y () Q7<|fR Q2<|fO (p:=(({t with aA:=(⟨x.1,t.aA.aI,t.aA.aQ,t.aA.iU⟩:aA)}:Table))) s50 [31,32,33,34,4,5,6,35,8,16,9,10,24,12,36,14,15,17,18,19] a Q)) ((by refine dS Q2 ?_ ?_<;>exact I5 D Q (λh=>qG (h.o 0 Q) (h.o 1 Q) (h.o 2 Q) (h.o 3 Q)) λs52=>sF Q<|eJ kG 28 [] R () Q7<|fR Q2<|eJ oI 25 [] Y () Q7<|fR Q2<|fO (p:=(({t with aA:=(⟨x.1,t.aA.aI,t.aA.aQ,t.aA.iU⟩:aA)}:Table))) s52 [31,32,33,34,4,5,6,35,8,16,9,10,24,12,36,14,15,17,18,19] a Q)))) λe ⟨s37,s38,s39,s40⟩=>dE aC [9,17] Q<|dD (s37,s38,s39,s40,l,k,i,f,b,v,s,g,q,o,n,m) [0,1,2,3,4,5,6,7,8,10,11,12,13,14,15,16] Q2)<|dE aC [16,17,18,19,22,23] Q<|fU oI 13 Q3 λx29 h21 _ h22=>λa=>eH 6 h22 h21 Q5<|wi a<|fU kG 7 Q3 λx30 h23 _ h24=>λa=>eH 7 h24 h23 Q5<|sF Q<|gR kG 28 [] [74] ({x30 with Head:=x29}:dR) () Q8<|fR Q2<|iS f bI.symm [(0,8)] [(16,8)] Q3<|fR Q2<|eJ oI 25 [] h21 () Q7<|fR Q2<|fO (p:=(t.bC.set x2.toNat ({x30 with Head:=x29}:dR),({j with Pc:=9,K:=bB (j.K+1)}:aK))) () [31,16,9,10,24,12,32,14,15,17,0,1,2,3,4,5,6,8,18,19] a Q) λ⟨x3,x4⟩ _=>dE aC [1,9] Q<|dD (V,U,T,S,l,k,i,f,b,v,s,g,q,o,n,m) [10,11,12,13,14,15,16,0,17,2,3,4,5,6,7,8] Q2
theorem aLH{v o:AC}{f b a:AC}:VS prog κ 162 (LK t j) [.g (QQ t v u s q p o n l C m k),.g (YB j f e d c b i a)] [] ((IC t.aA v u s q p o n [ow l (t.bC:ba),ow k (t.Log:bs)])++(YC j f e d c b i a [])) (λr (y:AC×AC×AC×AC×AC×AC×AC×AC×AC×AC×AC×AC×AC×AC×AC×AC)=>.t [.g [.h y.1 r.1.aA.Mem.Heap.Bytes.length,.h y.2.1 r.1.aA.Mem.Heap.Class.length,.h y.2.2.1 r.1.aA.Mem.aD.Global.length,.h y.2.2.2.1 r.1.aA.Mem.aD.Own.length,I r.1.aA.aI.aP,.h y.2.2.2.2.1 r.1.aA.aI.bV.length,.h y.2.2.2.2.2.1 r.1.aA.aQ.length,.h y.2.2.2.2.2.2.1 r.1.aA.iU.length,.h y.2.2.2.2.2.2.2.1 r.1.bC.length,.h C t.aH.length,.h m t.aY.length,.h y.2.2.2.2.2.2.2.2.1 r.1.Log.length,I r.1.aG],.g (yTj r.2 y.2.2.2.2.2.2.2.2.2)]) (λr y=>((IC r.1.aA y.1 y.2.1 y.2.2.1 y.2.2.2.1 y.2.2.2.2.1 y.2.2.2.2.2.1 y.2.2.2.2.2.2.1 [ow y.2.2.2.2.2.2.2.1 r.1.bC,ow y.2.2.2.2.2.2.2.2.1 r.1.Log])++(zTj r.2 y.2.2.2.2.2.2.2.2.2 []))):=
 bZ call162 func162 Q Q2<|aV [10] Q2 (aV [13] Q2 (dE aC [16,17] Q<|dD (v,u,s,q,p,o,n,l,k,f,e,d,c,b,i,a) [0,1,2,3,4,5,6,7,8,9,10,11,12,13,14,15] Q2)<|cH 0 4 (LJ t) [2,3,4,5] (λ(x:aK) (_:Unit)=>[]) [0,1,2,3,4,5,6,7,8,16,18,19] (λx _=>(YC x f e d c b i a [.box 1 (YB x f e d c b i a)])) Q (aV [22] Q2 (fU oI 15 Q3 λR G _ N=>λg=>eH 4 N G Q5<|wi g<|c0 Q (λ_=>i5) λP=>λg=>sF Q<|eJ oI 20 [] G () Q7<|fR Q2<|fO () [9,10,11,12,13,14,23,17,0,1,2,3,4,5,6,7,8,16,18,19] g Q)<|bQ [9,10,11,12,13,14,15,17,0,1,2,3,4,5,6,7,8,16,18,19] Q2) λx _=>dE aC [7,17] Q<|dD (v,u,s,q,p,o,n,l,k,f,e,d,c,b,i,a) [8,9,10,11,12,13,14,15,16,0,1,2,3,4,5,6] Q2)<|fU oI 14 Q3 λO M _ L=>λg=>eH 4 L M Q5<|hoT 20 Q Q Q Q λA=>aE3 A Q6 g λg S=>wi g<|c1 Q (λh=>mW (h.o 20 Q)) λH z=>fU kG 7 Q3 λD K _ J=>λg=>eH 5 J K Q5<|wi g<|cH 0 6 (AP t j H) [2,3,4,5] (λ(w:ba) (_:Unit)=>[]) [0,1,2,3,4,5,6,8,9,10,11,12,13,23,15,17,18,19] (λw _=>[ow l (w:ba),.box 0 [.h v t.aA.Mem.Heap.Bytes.length,.h u t.aA.Mem.Heap.Class.length,.h s t.aA.Mem.aD.Global.length,.h q t.aA.Mem.aD.Own.length,I t.aA.aI.aP,.h p t.aA.aI.bV.length,.h o t.aA.aQ.length,.h n t.aA.iU.length,.h l w.length,.h C t.aH.length,.h m t.aY.length,.h k t.Log.length,I t.aG]]) Q (aV [47] Q2 (λg=>ceS kG 24 [] [41] ({D with jC:=0}:dR) () Q10<|rh l bI.symm [(0,8)] [(16,8)] Q Q Q<|wi g<|dE aC [16,17,18,19,26] Q<|fU kG 27 Q3 λB F _ E=>λg=>eH 6 E F Q5<|a8X Q Q Q Q<|eH 6 E F Q5<|sF Q<|gR kG 28 [] [41,49,52] ({B with iF:=if 1000000<(bB (B.iF+1)) then 1000000 else(bB (B.iF+1))}:dR) () Q8<|iS l bI.symm [(0,8)] [(16,8)] Q3<|fR Q2<|fO () [31,16,0,1,2,3,4,5,6,8,9,10,11,12,13,23,15,17,18,19] g Q)<|λg=>sF Q<|gR kG 24 [] [41] ({D with jC:=0}:dR) () Q8<|fR Q2<|iS l bI.symm [(0,8)] [(16,8)] Q3<|fR Q2<|fO () [27,16,0,1,2,3,4,5,6,8,9,10,11,12,13,23,15,17,18,19] g Q) λw _=>dE aC [1,17] Q<|dD (v,u,s,q,p,o,n,l,k,f,e,d,c,b,z,a) [2,3,4,5,6,7,8,0,9,10,11,12,13,14,15,16] Q2
theorem aLI{A:Int}{v o:AC}{h f:AC}:VS prog κ 163 (LL t A j) [.g (QQ t x w v u s q o n m l k),I A,.g (YB j i h g f e d c)] [] ((IC t.aA x w v u s q o [ow n (t.bC:ba),ow k (t.Log:bs)])++(YC j i h g f e d c [])) (λr (y:AC×AC×AC×AC×AC×AC×AC×AC×AC×AC×AC×AC×AC×AC×AC×AC)=>.t [.g [.h y.1 r.1.aA.Mem.Heap.Bytes.length,.h y.2.1 r.1.aA.Mem.Heap.Class.length,.h y.2.2.1 r.1.aA.Mem.aD.Global.length,.h y.2.2.2.1 r.1.aA.Mem.aD.Own.length,I r.1.aA.aI.aP,.h y.2.2.2.2.1 r.1.aA.aI.bV.length,.h y.2.2.2.2.2.1 r.1.aA.aQ.length,.h y.2.2.2.2.2.2.1 r.1.aA.iU.length,.h y.2.2.2.2.2.2.2.1 r.1.bC.length,.h m t.aH.length,.h l t.aY.length,.h y.2.2.2.2.2.2.2.2.1 r.1.Log.length,I r.1.aG],.g (yTj r.2 y.2.2.2.2.2.2.2.2.2)]) (λr y=>((IC r.1.aA y.1 y.2.1 y.2.2.1 y.2.2.2.1 y.2.2.2.2.1 y.2.2.2.2.2.1 y.2.2.2.2.2.2.1 [ow y.2.2.2.2.2.2.2.1 r.1.bC,ow y.2.2.2.2.2.2.2.2.1 r.1.Log])++(zTj r.2 y.2.2.2.2.2.2.2.2.2 []))):=
 bZ call163 func163 Q Q2<|aV [14] Q2 (dE aC [16,17] Q<|dD (x,w,v,u,s,q,o,n,k,i,h,g,f,e,d,c) [0,1,2,3,4,5,6,7,8,9,10,11,12,13,14,15] Q2)<|aAS [0,1,2,3,4,5,6,7,8,9,10,11,12,13,14,15] Q Q Q Q (λ_=>WX) λa b=>cH 0 4 (λ(p:Table×aK)=>AQ t p.1 p.2) [3,5,6,7] (λ(p:Table×aK) (_:Unit)=>[]) [18,19] (λp _=>((IC p.1.aA b.1 b.2.1 b.2.2.1 b.2.2.2.1 b.2.2.2.2.1 b.2.2.2.2.2.1 b.2.2.2.2.2.2.1 [ow b.2.2.2.2.2.2.2.1 (p.1.bC:ba),ow b.2.2.2.2.2.2.2.2.1 (p.1.Log:bs),.box 0 [.h b.1 p.1.aA.Mem.Heap.Bytes.length,.h b.2.1 p.1.aA.Mem.Heap.Class.length,.h b.2.2.1 p.1.aA.Mem.aD.Global.length,.h b.2.2.2.1 p.1.aA.Mem.aD.Own.length,I p.1.aA.aI.aP,.h b.2.2.2.2.1 p.1.aA.aI.bV.length,.h b.2.2.2.2.2.1 p.1.aA.aQ.length,.h b.2.2.2.2.2.2.1 p.1.aA.iU.length,.h b.2.2.2.2.2.2.2.1 p.1.bC.length,.h m t.aH.length,.h l t.aY.length,.h b.2.2.2.2.2.2.2.2.1 p.1.Log.length,I p.1.aG]])++(zTj p.2 b.2.2.2.2.2.2.2.2.2 [.box 1 (yTj p.2 b.2.2.2.2.2.2.2.2.2)]))) Q (aV [8,25,26] Q2 (aV [36] Q2 (fU oI 35 Q3 λE B _ D=>λz=>eH 4 D B Q5<|wi z<|c0 Q (λ_=>i5) λC=>λz=>sF Q<|eJ oI 36 [] B () Q7<|fR Q2<|fO (p:=((⟨a.1.aA,a.1.bC,t.aH,t.aY,a.1.Log,a.1.aG⟩:Table),(⟨a.2.1.gW,a.2.1.Batch,a.2.1.aG,a.2.1.Pc,a.2.1.At,bB (a.2.1.K+1),a.2.1.dR,a.2.1.iF,a.2.1.H,a.2.1.jH,a.2.1.Node,a.2.1.Found,a.2.1.Code,C,a.2.1.Reads,a.2.1.aL,a.2.1.eD,a.2.1.eC,a.2.1.bM,a.2.1.bW⟩:aK))) () [20,21,22,23,24,25,26,27,28,16,29,30,31,32,33,34,39,17,18,19] z Q)<|bQ (p:=((⟨a.1.aA,a.1.bC,t.aH,t.aY,a.1.Log,a.1.aG⟩:Table),(⟨a.2.1.gW,a.2.1.Batch,a.2.1.aG,a.2.1.Pc,a.2.1.At,bB (a.2.1.K+1),a.2.1.dR,a.2.1.iF,a.2.1.H,a.2.1.jH,a.2.1.Node,a.2.1.Found,a.2.1.Code,a.2.1.Sub,a.2.1.Reads,a.2.1.aL,a.2.1.eD,a.2.1.eC,a.2.1.bM,a.2.1.bW⟩:aK))) [20,21,22,23,24,25,26,27,28,16,29,30,31,32,33,34,35,17,18,19] Q2)<|bQ (p:=((⟨a.1.aA,a.1.bC,t.aH,t.aY,a.1.Log,a.1.aG⟩:Table),a.2.1)) [20,21,22,23,24,25,26,27,28,16,29,30,31,32,33,34,35,17,18,19] Q2) λ⟨G,F⟩ _=>dE aC [9,17] Q<|dD b [0,1,2,3,4,5,6,7,8,10,11,12,13,14,15,16] Q2
theorem aSF{m:Mem}{b:Int}{j:AC}(f:bJ κ l m.Heap.Bytes)(e:bJ κ k m.Heap.Class)(d:bJ κ j m.aD.Global)(c:bJ κ i m.aD.Own):VS prog κ 413 (SF m b h) [.g (gM m l k j i),I b,I h] [] [] (λr (y:A4C)=>.t [.g (yM r.1 y),I r.2]) (λr y=>(zM r.1 y [])):=
 bZ call413 func413 Q Q2<|c1 Q (λh=>FR (h.a f) (h.a e) (h.a d) (h.a c)) λg a=>cH 0 3 (λ(p:Bool×Mem)=>HD m b h p.1 p.2) [1,2,3,6,8] (λ(p:Bool×Mem) (_:Unit)=>[(18,.b p.1)]) [0,1] (λp _=>(zM p.2 a [.box 2 (yM p.2 a)])) Q (c0 Q (λh=>LV (h.a f) (h.a e) (h.a d) (h.a c)) λq=>eV [13,14] Q2 (bQ (p:=(true,g)) [2,3,4,5,6,0,1] Q2)<|c0 Q (λ_=>bN) λn=>bQ (p:=(!n,g)) [2,3,4,5,6,0,1] Q2) λ⟨w,v⟩ _=>aV [18] Q2 (dD a [0,1,2,3] Q2)<|c0 Q (λh=>vY (h.a f) (h.a e) (h.a d) (h.a c)) λu=>aV [23] Q2 (dD a [0,1,2,3] Q2)<|dE aC [4,5] Q<|c0 Q (λ_=>eY) λt=>gP [0,1,2,3] Q4 (λ_=>aFX) λs o=>dD o [7,8,9,10] Q2
theorem aSG{b:aA}{f:Int}{a j:AC}(q:bJ κ j b.aI.bV)(l:bJ κ i b.aQ)(p:bJ κ g b.iU):VS prog κ 308 (ZV b f h) [.g (gB b e d c a j i g),I f,I h] [] (oM b.Mem e d c a []) (λr (y:A4C)=>.t [.g (yM r.1 y),I r.2]) (λr y=>(zM r.1 y [])):=
 bZ call308 func308 Q Q2<|dE aC [4,5] Q<|c0 Q (λ_=>eY) λo=>c0 Q (λh=>TO (h.a l)) λn=>aV [12] Q2 (dD (e,d,c,a) [0,1,2,3] Q2)<|c1 Q (λh=>aSF (h.o 0 Q) (h.o 1 Q) (h.o 2 Q) (h.o 3 Q)) λm k=>dD k [6,7,8,9] Q2
theorem aVS{l:List eD}{b:AC}(d:bJ κ b l):VS prog κ 309 (aC9 l) [.h b l.length] [] [] (λr (y:AC)=>.h y r.length) (λr y=>[ow y r]):=
 bZ call309 func309 Q Q2<|λa=>W9 (O:=eD) pI Q4 λe=>ap 0 pI Q Q Q Q Q Q Q (λh=>(h.a d)) Q Q a λa c=>wi a<|dD c [0] Q2
theorem aVT{z:Int}{o a:AC}{f:AC}:VS prog κ 164 (wP t z j) [.g (QQ t D C B A w s q o E n a),I z,.g (YB j l k i g m f e)] [] ((IC t.aA D C B A w s q [ow o (t.bC:ba),ow a (t.Log:bs)])++(YC j l k i g m f e [])) (λr (y:AC×AC×AC×AC×AC×AC×AC×AC×AC×AC×AC×AC×AC×AC×AC×AC)=>.t [.g [.h y.1 r.1.aA.Mem.Heap.Bytes.length,.h y.2.1 r.1.aA.Mem.Heap.Class.length,.h y.2.2.1 r.1.aA.Mem.aD.Global.length,.h y.2.2.2.1 r.1.aA.Mem.aD.Own.length,I r.1.aA.aI.aP,.h y.2.2.2.2.1 r.1.aA.aI.bV.length,.h y.2.2.2.2.2.1 r.1.aA.aQ.length,.h y.2.2.2.2.2.2.1 r.1.aA.iU.length,.h y.2.2.2.2.2.2.2.1 r.1.bC.length,.h E t.aH.length,.h n t.aY.length,.h y.2.2.2.2.2.2.2.2.1 r.1.Log.length,I r.1.aG],.g (yTj r.2 y.2.2.2.2.2.2.2.2.2)]) (λr y=>((IC r.1.aA y.1 y.2.1 y.2.2.1 y.2.2.2.1 y.2.2.2.2.1 y.2.2.2.2.2.1 y.2.2.2.2.2.2.1 [ow y.2.2.2.2.2.2.2.1 r.1.bC,ow y.2.2.2.2.2.2.2.2.1 r.1.Log])++(zTj r.2 y.2.2.2.2.2.2.2.2.2 []))):=
 bZ call164 func164 Q Q2<|cH 1 4 (λ(p:Table×Int×al)=>LM t j p.1 p.2.1 p.2.2) [3,5,6,7] (λ(p:Table×Int×al) (u:A6C)=>[]) [9,10,11,12,14,15,18,19] (λp u=>(IC p.1.aA u.1 u.2.1 u.2.2.1 u.2.2.2.1 u.2.2.2.2.1 s q [ow o (p.1.bC:ba),ow a (p.1.Log:bs),.box 0 [.h u.1 p.1.aA.Mem.Heap.Bytes.length,.h u.2.1 p.1.aA.Mem.Heap.Class.length,.h u.2.2.1 p.1.aA.Mem.aD.Global.length,.h u.2.2.2.1 p.1.aA.Mem.aD.Own.length,I p.1.aA.aI.aP,.h u.2.2.2.2.1 p.1.aA.aI.bV.length,.h s p.1.aA.aQ.length,.h q p.1.aA.iU.length,.h o p.1.bC.length,.h E t.aH.length,.h n t.aY.length,.h a p.1.Log.length,I p.1.aG],ow u.2.2.2.2.2 (p.2.2:al),.box 1 [.b j.gW,.b j.Batch.Collect,.h l j.Batch.b8.length,I j.aG,I p.2.1,I j.At,I j.K,I j.dR,I j.iF,I j.H,I j.jH,I j.Node.Key,I j.Node.cT,I j.Node.Next,.b j.Found,I j.Code,I j.Sub.Kind,I j.Sub.A,I j.Sub.Pc,I j.Sub.E,I j.Sub.Row,I j.Sub.B,I j.Sub.H,I j.Sub.Out,I j.Sub.Code,.b j.Sub.eG,.h k j.Reads.length,.h i j.aL.length,.h g j.eD.length,.h u.2.2.2.2.2 p.2.2.length,.h f j.bM.length,.h e j.bW.length]])) Q (aV [32,33] Q2 (aV [37] Q2 (dE aC [16,17] Q<|dD (D,C,B,A,w,s,q,o,a,l,k,i,g,m,f,e) [0,1,2,3,4,5,6,7,8,9,10,11,12,13,14,15] Q2)<|cH 0 4 (LN t j) [3,5,6,7] (λ(b:Table) (u:A4C)=>[]) [9,10,11,12,13,14,15,17,18,19] (λb u=>(IC b.aA u.1 u.2.1 u.2.2.1 u.2.2.2 w s q [ow o (b.bC:ba),ow a (b.Log:bs),.box 0 [.h u.1 b.aA.Mem.Heap.Bytes.length,.h u.2.1 b.aA.Mem.Heap.Class.length,.h u.2.2.1 b.aA.Mem.aD.Global.length,.h u.2.2.2 b.aA.Mem.aD.Own.length,I b.aA.aI.aP,.h w b.aA.aI.bV.length,.h s b.aA.aQ.length,.h q b.aA.iU.length,.h o b.bC.length,.h E t.aH.length,.h n t.aY.length,.h a b.Log.length,I b.aG]])) Q (dE aC [17,18,19] Q<|fU oI 13 Q3 λx6 Z _ h3=>λc=>eH 4 h3 Z Q5<|bd c λx7 X c=>(by refine dS Q2 ?_ ?_<;>exact have v:=rb X;wi v<|gP [0,1,2,3] Q4 (λh=>aSG (h.o 4 Q Q) (h.o 5 Q Q) (h.o 6 Q Q)) λu1 J=>λv=>match u1,v with|_,rfl=>sF Q<|eJ oI 20 [] Z () Q7<|fR Q2<|fO (p:=(({t with aA:=(⟨x7.1,t.aA.aI,t.aA.aQ,t.aA.iU⟩:aA)}:Table))) J [23,24,25,26,4,5,6,7,8,16,9,10,11,12,27,14,15,17,18,19] c Q)) λb ⟨O,N,M,L⟩=>λc=>cpc 14 Q Q λW=>aE3 W Q6 c λc Y=>wi c<|c1 Q (λh=>mW ((h.o 14 Q).sub (QN Y.1 Y.2) Y)) λx5 K=>iO (p:=(({b with aH:=t.aH,aY:=t.aY}:Table),j.Pc,x5)) (O,N,M,L,w,K) [0,1,2,3,4,5,6,7,8,9,20,17,10,11,12,13,15,16,18,19] Q2)<|aV [59,60] Q2 (c1 Q (λh=>Z0 (h.o 4 Q)) λx8 H=>iO (p:=(({t with aA:=(⟨t.aA.Mem,x8.1,t.aA.aQ,t.aA.iU⟩:aA)}:Table),19,j.eC)) (D,C,B,A,H,m) [0,1,2,3,20,5,6,7,8,16,13,17,9,10,11,12,14,15,18,19] Q2)<|cH 0 5 (CB t z j) [3,6,7,8] (λ(x:(List eD)) (d:AC)=>[]) [0,1,2,3,4,5,6,7,8,16,18,19] (λx d=>[ow d (x:List eD),.box 4 [I 3,I z,I j.aG,I j.Code,.h ⟨none,0⟩ 0,.h d x.length]]) Q (aV [19] Q2 (c1 Q (λh=>aVS (h.o 12 Q)) λx10 F=>iO F [21,20,0,1,2,3,4,5,6,7,8,16,18,19] Q2)<|λc=>sF Q<|lP eD<|fO ⟨none,0⟩ [21,20,0,1,2,3,4,5,6,7,8,16,18,19] c Q) λx d=>λc=>nw oV Q<|HN aRB [14,0] ((⟨3,z,j.aG,j.Code,[],x⟩:wH)) (⟨none,0⟩,d) fK HO λs35=>apN 10 15 fK Q Q Q9 c λc G=>sR Q<|lP oV<|lP Seen<|lP aW<|lP eD<|lP Int<|lP Int<|lP Int<|iM (D,C,B,A,w,s,q,o,G,⟨none,0⟩,⟨none,0⟩,⟨none,0⟩,⟨none,0⟩,⟨none,0⟩,⟨none,0⟩,⟨none,0⟩) [2,3,4,5,6,7,8,9,16,17,18,19,20,21,22,23] c Q2 Q4) λ⟨x1,x2,x3⟩ ⟨V,U,T,S,R,P⟩=>dE aC [9,11] Q<|dD (V,U,T,S,R,s,q,o,a,l,k,i,g,P,f,e) [0,1,2,3,4,5,6,7,8,12,13,14,15,10,16,17] Q2
theorem aYW{A:Int}{G F:AC}:VS prog κ 67 (ZW t A) [.g (QQ t J H G F E D C B L z l),I A] [] (oTb t J H G F E D C B L z l []) (λr (y:QA)=>.g (yTb r y)) (λr y=>(zTb r y [])):=
 bZ call67 func67 Q Q2<|fU bK 8 Q3 λa h1 b h2=>λM=>eH 2 h2 h1 Q5<|wi M<|aV [13] Q2 (λM=>EX bK 13 [16,17,18,19,20,21,22] h1 b Q9<|wi M<|gP [0,1,2,3,4,5,6,7,24,9,10] Q4 (λ_=>aOL) λx2 s13=>dD s13 [25,26,27,28,29,30,31,32,33,34,35] Q2)<|cH 2 4 (λ(p:Table×aK)=>iQ t A p.1 p.2) [1,2,4,5] (λ(p:Table×aK) (u:AC×AC×AC×AC×AC×AC×AC×AC×AC×AC×AC×AC×AC×AC×AC×AC)=>[]) [9,12,13,14,15] (λp u=>((IC p.1.aA u.1 u.2.1 u.2.2.1 u.2.2.2.1 u.2.2.2.2.1 u.2.2.2.2.2.1 u.2.2.2.2.2.2.1 [ow u.2.2.2.2.2.2.2.1 (p.1.bC:ba),ow u.2.2.2.2.2.2.2.2.1 (p.1.Log:bs),.box 0 [.h u.1 p.1.aA.Mem.Heap.Bytes.length,.h u.2.1 p.1.aA.Mem.Heap.Class.length,.h u.2.2.1 p.1.aA.Mem.aD.Global.length,.h u.2.2.2.1 p.1.aA.Mem.aD.Own.length,I p.1.aA.aI.aP,.h u.2.2.2.2.1 p.1.aA.aI.bV.length,.h u.2.2.2.2.2.1 p.1.aA.aQ.length,.h u.2.2.2.2.2.2.1 p.1.aA.iU.length,.h u.2.2.2.2.2.2.2.1 p.1.bC.length,.h L t.aH.length,.h z t.aY.length,.h u.2.2.2.2.2.2.2.2.1 p.1.Log.length,I p.1.aG]])++(zTj p.2 u.2.2.2.2.2.2.2.2.2 [.box 3 (yTj p.2 u.2.2.2.2.2.2.2.2.2)]))) Q (cH 0 4 (λ(p:Bool×aK)=>tL t A a p.1 p.2) [1,2,4,5,18] (λ(p:Bool×aK) (_:Unit)=>[(21,.b p.1)]) [0,1,2,3,4,5,6,7,9,10,11,12,16,17,18,19,20,21,22,13,14,15] (λp _=>[.box 3 [.b p.2.gW,.b p.2.Batch.Collect,.h b.1 a.Batch.b8.length,I p.2.aG,I p.2.Pc,I p.2.At,I p.2.K,I p.2.dR,I p.2.iF,I p.2.H,I p.2.jH,I p.2.Node.Key,I p.2.Node.cT,I p.2.Node.Next,.b p.2.Found,I p.2.Code,I p.2.Sub.Kind,I p.2.Sub.A,I p.2.Sub.Pc,I p.2.Sub.E,I p.2.Sub.Row,I p.2.Sub.B,I p.2.Sub.H,I p.2.Sub.Out,I p.2.Sub.Code,.b p.2.Sub.eG,.h b.2.1 a.Reads.length,.h b.2.2.1 a.aL.length,.h b.2.2.2.1 a.eD.length,.h b.2.2.2.2.1 a.eC.length,.h b.2.2.2.2.2.1 a.bM.length,.h b.2.2.2.2.2.2 a.bW.length]]) Q (aV [21,22] Q2 (bQ (p:=(true,a)) [23,0,1,2,3,4,5,6,7,9,10,11,12,16,17,18,19,20,21,22,13,14,15] Q2)<|aV [21,23] Q2 (bQ (p:=(true,a)) [23,0,1,2,3,4,5,6,7,9,10,11,12,16,17,18,19,20,21,22,13,14,15] Q2)<|bQ (p:=(a.Pc == 21,a)) [23,0,1,2,3,4,5,6,7,9,10,11,12,16,17,18,19,20,21,22,13,14,15] Q2) λ⟨x5,m⟩ _=>aV [21] Q2 (aAS [1,2,3,4,5,6,7,8,10,13,14,15,16,17,18,19] Q Q Q Q (λ_=>aOM (j:=({m with Batch:=(⟨m.Batch.Collect,a.Batch.b8⟩:Batch),Reads:=a.Reads,aL:=a.aL,eD:=a.eD,eC:=a.eC,bM:=a.bM,bW:=a.bW}:aK))) λK X=>iO (p:=((⟨K.1.aA,K.1.bC,t.aH,t.aY,K.1.Log,K.1.aG⟩:Table),K.2)) X [23,24,25,26,27,28,29,30,31,11,32,33,34,35,36,37,38,0,9,12,20,21,22] Q2)<|aV [32,33] Q2 (gP [13,14,15,16,17,18,19] Q4 (λ_=>aJL (j:=({m with Batch:=(⟨m.Batch.Collect,a.Batch.b8⟩:Batch),Reads:=a.Reads,aL:=a.aL,eD:=a.eD,eC:=a.eC,bM:=a.bM,bW:=a.bW}:aK))) λx8 i=>iO (p:=(t,x8)) (J,H,G,F,E,D,C,B,l,i.1,i.2.1,i.2.2.1,i.2.2.2.1,i.2.2.2.2.1,i.2.2.2.2.2.1,i.2.2.2.2.2.2) [1,2,3,4,5,6,7,8,10,11,23,24,25,26,27,28,29,0,9,12,20,21,22] Q2)<|cH 0 4 (λ(p:Bool×aK)=>pG t A a p.1 p.2) [1,2,4,5,18] (λ(p:Bool×aK) (_:Unit)=>[(36,.b p.1)]) [1,2,3,4,5,6,7,8,9,10,11,12,13,14,15,16,17,18,19,20,21,22] (λp _=>[.box 3 [.b p.2.gW,.b p.2.Batch.Collect,.h b.1 a.Batch.b8.length,I p.2.aG,I p.2.Pc,I p.2.At,I p.2.K,I p.2.dR,I p.2.iF,I p.2.H,I p.2.jH,I p.2.Node.Key,I p.2.Node.cT,I p.2.Node.Next,.b p.2.Found,I p.2.Code,I p.2.Sub.Kind,I p.2.Sub.A,I p.2.Sub.Pc,I p.2.Sub.E,I p.2.Sub.Row,I p.2.Sub.B,I p.2.Sub.H,I p.2.Sub.Out,I p.2.Sub.Code,.b p.2.Sub.eG,.h b.2.1 a.Reads.length,.h b.2.2.1 a.aL.length,.h b.2.2.2.1 a.eD.length,.h b.2.2.2.2.1 a.eC.length,.h b.2.2.2.2.2.1 a.bM.length,.h b.2.2.2.2.2.2 a.bW.length]]) Q (aV [36,37] Q2 (bQ (p:=(true,({m with Batch:=(⟨m.Batch.Collect,a.Batch.b8⟩:Batch),Reads:=a.Reads,aL:=a.aL,eD:=a.eD,eC:=a.eC,bM:=a.bM,bW:=a.bW}:aK))) [0,1,2,3,4,5,6,7,8,9,10,11,12,13,14,15,16,17,18,19,20,21,22] Q2)<|aV [36,38] Q2 (bQ (p:=(true,({m with Batch:=(⟨m.Batch.Collect,a.Batch.b8⟩:Batch),Reads:=a.Reads,aL:=a.aL,eD:=a.eD,eC:=a.eC,bM:=a.bM,bW:=a.bW}:aK))) [0,1,2,3,4,5,6,7,8,9,10,11,12,13,14,15,16,17,18,19,20,21,22] Q2)<|aV [36,39] Q2 (bQ (p:=(true,({m with Batch:=(⟨m.Batch.Collect,a.Batch.b8⟩:Batch),Reads:=a.Reads,aL:=a.aL,eD:=a.eD,eC:=a.eC,bM:=a.bM,bW:=a.bW}:aK))) [0,1,2,3,4,5,6,7,8,9,10,11,12,13,14,15,16,17,18,19,20,21,22] Q2)<|bQ (p:=(a.Pc == 5,({m with Batch:=(⟨m.Batch.Collect,a.Batch.b8⟩:Batch),Reads:=a.Reads,aL:=a.aL,eD:=a.eD,eC:=a.eC,bM:=a.bM,bW:=a.bW}:aK))) [0,1,2,3,4,5,6,7,8,9,10,11,12,13,14,15,16,17,18,19,20,21,22] Q2) λ⟨x9,c⟩ _=>aV [36] Q2 (gP [13,14,15,16,17,18,19] Q4 (λh=>aSC (j:=({c with Batch:=(⟨c.Batch.Collect,a.Batch.b8⟩:Batch),Reads:=a.Reads,aL:=a.aL,eD:=a.eD,eC:=a.eC,bM:=a.bM,bW:=a.bW}:aK)) (h.o 1 Q Q) (h.o 2 Q Q) (h.o 3 Q Q) (h.o 4 Q Q) (h.o 5 Q Q) (h.o 6 Q Q) (h.o 7 Q Q) (h.o 8 Q Q) (h.o 10 Q Q)) λP g=>iO (p:=(t,P)) (J,H,G,F,E,D,C,B,l,g.1,g.2.1,g.2.2.1,g.2.2.2.1,g.2.2.2.2.1,g.2.2.2.2.2.1,g.2.2.2.2.2.2) [1,2,3,4,5,6,7,8,10,11,23,24,25,26,27,28,29,0,9,12,20,21,22] Q2)<|aV [45,46] Q2 (aAS [1,2,3,4,5,6,7,8,10,13,14,15,16,17,18,19] Q Q Q Q (λ_=>aOO (j:=({c with Batch:=(⟨c.Batch.Collect,a.Batch.b8⟩:Batch),Reads:=a.Reads,aL:=a.aL,eD:=a.eD,eC:=a.eC,bM:=a.bM,bW:=a.bW}:aK))) λw W=>iO (p:=((⟨w.1.aA,w.1.bC,t.aH,t.aY,w.1.Log,w.1.aG⟩:Table),w.2)) W [23,24,25,26,27,28,29,30,31,11,32,33,34,35,36,37,38,0,9,12,20,21,22] Q2)<|aV [54,55] Q2 (aAS [1,2,3,4,5,6,7,8,10,13,14,15,16,17,18,19] Q Q Q Q (λ_=>aSE (j:=({c with Batch:=(⟨c.Batch.Collect,a.Batch.b8⟩:Batch),Reads:=a.Reads,aL:=a.aL,eD:=a.eD,eC:=a.eC,bM:=a.bM,bW:=a.bW}:aK))) λv V=>iO (p:=((⟨v.1.aA,v.1.bC,t.aH,t.aY,v.1.Log,v.1.aG⟩:Table),v.2)) V [23,24,25,26,27,28,29,30,31,11,32,33,34,35,36,37,38,0,9,12,20,21,22] Q2)<|aV [63,64] Q2 (gP [13,14,15,16,17,18,19] Q4 (λh=>aOP (j:=({c with Batch:=(⟨c.Batch.Collect,a.Batch.b8⟩:Batch),Reads:=a.Reads,aL:=a.aL,eD:=a.eD,eC:=a.eC,bM:=a.bM,bW:=a.bW}:aK)) (h.o 1 Q Q) (h.o 2 Q Q) (h.o 3 Q Q) (h.o 4 Q Q) (h.o 5 Q Q) (h.o 6 Q Q) (h.o 7 Q Q) (h.o 8 Q Q) (h.o 10 Q Q)) λO f=>iO (p:=(t,O)) (J,H,G,F,E,D,C,B,l,f.1,f.2.1,f.2.2.1,f.2.2.2.1,f.2.2.2.2.1,f.2.2.2.2.2.1,f.2.2.2.2.2.2) [1,2,3,4,5,6,7,8,10,11,23,24,25,26,27,28,29,0,9,12,20,21,22] Q2)<|cH 0 4 (λ(p:Bool×aK)=>mV t A a p.1 p.2) [1,2,4,5,18] (λ(p:Bool×aK) (_:Unit)=>[(69,.b p.1)]) [1,2,3,4,5,6,7,8,9,10,11,12,13,14,15,16,17,18,19,20,21,22] (λp _=>[.box 3 [.b p.2.gW,.b p.2.Batch.Collect,.h b.1 a.Batch.b8.length,I p.2.aG,I p.2.Pc,I p.2.At,I p.2.K,I p.2.dR,I p.2.iF,I p.2.H,I p.2.jH,I p.2.Node.Key,I p.2.Node.cT,I p.2.Node.Next,.b p.2.Found,I p.2.Code,I p.2.Sub.Kind,I p.2.Sub.A,I p.2.Sub.Pc,I p.2.Sub.E,I p.2.Sub.Row,I p.2.Sub.B,I p.2.Sub.H,I p.2.Sub.Out,I p.2.Sub.Code,.b p.2.Sub.eG,.h b.2.1 a.Reads.length,.h b.2.2.1 a.aL.length,.h b.2.2.2.1 a.eD.length,.h b.2.2.2.2.1 a.eC.length,.h b.2.2.2.2.2.1 a.bM.length,.h b.2.2.2.2.2.2 a.bW.length]]) Q (aV [69,70] Q2 (bQ (p:=(true,({c with Batch:=(⟨c.Batch.Collect,a.Batch.b8⟩:Batch),Reads:=a.Reads,aL:=a.aL,eD:=a.eD,eC:=a.eC,bM:=a.bM,bW:=a.bW}:aK))) [0,1,2,3,4,5,6,7,8,9,10,11,12,13,14,15,16,17,18,19,20,21,22] Q2)<|aV [69,71] Q2 (bQ (p:=(true,({c with Batch:=(⟨c.Batch.Collect,a.Batch.b8⟩:Batch),Reads:=a.Reads,aL:=a.aL,eD:=a.eD,eC:=a.eC,bM:=a.bM,bW:=a.bW}:aK))) [0,1,2,3,4,5,6,7,8,9,10,11,12,13,14,15,16,17,18,19,20,21,22] Q2)<|aV [69,72] Q2 (bQ (p:=(true,({c with Batch:=(⟨c.Batch.Collect,a.Batch.b8⟩:Batch),Reads:=a.Reads,aL:=a.aL,eD:=a.eD,eC:=a.eC,bM:=a.bM,bW:=a.bW}:aK))) [0,1,2,3,4,5,6,7,8,9,10,11,12,13,14,15,16,17,18,19,20,21,22] Q2)<|aV [69,73] Q2 (bQ (p:=(true,({c with Batch:=(⟨c.Batch.Collect,a.Batch.b8⟩:Batch),Reads:=a.Reads,aL:=a.aL,eD:=a.eD,eC:=a.eC,bM:=a.bM,bW:=a.bW}:aK))) [0,1,2,3,4,5,6,7,8,9,10,11,12,13,14,15,16,17,18,19,20,21,22] Q2)<|bQ (p:=(a.Pc == 13,({c with Batch:=(⟨c.Batch.Collect,a.Batch.b8⟩:Batch),Reads:=a.Reads,aL:=a.aL,eD:=a.eD,eC:=a.eC,bM:=a.bM,bW:=a.bW}:aK))) [0,1,2,3,4,5,6,7,8,9,10,11,12,13,14,15,16,17,18,19,20,21,22] Q2) λ⟨x15,k⟩ _=>aV [69] Q2 (aAS [1,2,3,4,5,6,7,8,10,13,14,15,16,17,18,19] Q Q Q Q (λ_=>aJM (j:=({k with Batch:=(⟨k.Batch.Collect,a.Batch.b8⟩:Batch),Reads:=a.Reads,aL:=a.aL,eD:=a.eD,eC:=a.eC,bM:=a.bM,bW:=a.bW}:aK))) λs U=>iO (p:=((⟨s.1.aA,s.1.bC,t.aH,t.aY,s.1.Log,s.1.aG⟩:Table),s.2)) U [23,24,25,26,27,28,29,30,31,11,32,33,34,35,36,37,38,0,9,12,20,21,22] Q2)<|cH 0 4 (λ(p:Bool×aK)=>zZ t A a p.1 p.2) [1,2,4,5,18] (λ(p:Bool×aK) (_:Unit)=>[(81,.b p.1)]) [1,2,3,4,5,6,7,8,9,10,11,12,13,14,15,16,17,18,19,20,21,22] (λp _=>[.box 3 [.b p.2.gW,.b p.2.Batch.Collect,.h b.1 a.Batch.b8.length,I p.2.aG,I p.2.Pc,I p.2.At,I p.2.K,I p.2.dR,I p.2.iF,I p.2.H,I p.2.jH,I p.2.Node.Key,I p.2.Node.cT,I p.2.Node.Next,.b p.2.Found,I p.2.Code,I p.2.Sub.Kind,I p.2.Sub.A,I p.2.Sub.Pc,I p.2.Sub.E,I p.2.Sub.Row,I p.2.Sub.B,I p.2.Sub.H,I p.2.Sub.Out,I p.2.Sub.Code,.b p.2.Sub.eG,.h b.2.1 a.Reads.length,.h b.2.2.1 a.aL.length,.h b.2.2.2.1 a.eD.length,.h b.2.2.2.2.1 a.eC.length,.h b.2.2.2.2.2.1 a.bM.length,.h b.2.2.2.2.2.2 a.bW.length]]) Q (aV [81,82] Q2 (bQ (p:=(true,({k with Batch:=(⟨k.Batch.Collect,a.Batch.b8⟩:Batch),Reads:=a.Reads,aL:=a.aL,eD:=a.eD,eC:=a.eC,bM:=a.bM,bW:=a.bW}:aK))) [0,1,2,3,4,5,6,7,8,9,10,11,12,13,14,15,16,17,18,19,20,21,22] Q2)<|bQ (p:=(a.Pc == 16,({k with Batch:=(⟨k.Batch.Collect,a.Batch.b8⟩:Batch),Reads:=a.Reads,aL:=a.aL,eD:=a.eD,eC:=a.eC,bM:=a.bM,bW:=a.bW}:aK))) [0,1,2,3,4,5,6,7,8,9,10,11,12,13,14,15,16,17,18,19,20,21,22] Q2) λ⟨x18,d⟩ _=>aV [81] Q2 (aAS [1,2,3,4,5,6,7,8,10,13,14,15,16,17,18,19] Q Q Q Q (λ_=>aLH (j:=({d with Batch:=(⟨d.Batch.Collect,a.Batch.b8⟩:Batch),Reads:=a.Reads,aL:=a.aL,eD:=a.eD,eC:=a.eC,bM:=a.bM,bW:=a.bW}:aK))) λq T=>iO (p:=((⟨q.1.aA,q.1.bC,t.aH,t.aY,q.1.Log,q.1.aG⟩:Table),q.2)) T [23,24,25,26,27,28,29,30,31,11,32,33,34,35,36,37,38,0,9,12,20,21,22] Q2)<|aV [90,91] Q2 (aAS [1,2,3,4,5,6,7,8,10,13,14,15,16,17,18,19] Q Q Q Q (λ_=>aLI (j:=({d with Batch:=(⟨d.Batch.Collect,a.Batch.b8⟩:Batch),Reads:=a.Reads,aL:=a.aL,eD:=a.eD,eC:=a.eC,bM:=a.bM,bW:=a.bW}:aK))) λo S=>iO (p:=((⟨o.1.aA,o.1.bC,t.aH,t.aY,o.1.Log,o.1.aG⟩:Table),o.2)) S [23,24,25,26,27,28,29,30,31,11,32,33,34,35,36,37,38,0,9,12,20,21,22] Q2)<|cH 0 4 (λ(p:Bool×aK)=>pE t A a p.1 p.2) [1,2,4,5] (λ(p:Bool×aK) (_:Unit)=>[(99,.b p.1)]) [1,2,3,4,5,6,7,8,9,10,11,12,13,14,15,16,17,18,19,20,21,22] (λp _=>[.box 3 [.b p.2.gW,.b p.2.Batch.Collect,.h b.1 a.Batch.b8.length,I p.2.aG,I p.2.Pc,I p.2.At,I p.2.K,I p.2.dR,I p.2.iF,I p.2.H,I p.2.jH,I p.2.Node.Key,I p.2.Node.cT,I p.2.Node.Next,.b p.2.Found,I p.2.Code,I p.2.Sub.Kind,I p.2.Sub.A,I p.2.Sub.Pc,I p.2.Sub.E,I p.2.Sub.Row,I p.2.Sub.B,I p.2.Sub.H,I p.2.Sub.Out,I p.2.Sub.Code,.b p.2.Sub.eG,.h b.2.1 a.Reads.length,.h b.2.2.1 a.aL.length,.h b.2.2.2.1 a.eD.length,.h b.2.2.2.2.1 a.eC.length,.h b.2.2.2.2.2.1 a.bM.length,.h b.2.2.2.2.2.2 a.bW.length]]) Q (aV [99,100] Q2 (bQ (p:=(true,({d with Batch:=(⟨d.Batch.Collect,a.Batch.b8⟩:Batch),Reads:=a.Reads,aL:=a.aL,eD:=a.eD,eC:=a.eC,bM:=a.bM,bW:=a.bW}:aK))) [0,1,2,3,4,5,6,7,8,9,10,11,12,13,14,15,16,17,18,19,20,21,22] Q2)<|aV [99,101] Q2 (bQ (p:=(true,({d with Batch:=(⟨d.Batch.Collect,a.Batch.b8⟩:Batch),Reads:=a.Reads,aL:=a.aL,eD:=a.eD,eC:=a.eC,bM:=a.bM,bW:=a.bW}:aK))) [0,1,2,3,4,5,6,7,8,9,10,11,12,13,14,15,16,17,18,19,20,21,22] Q2)<|bQ (p:=(a.Pc == 19,({d with Batch:=(⟨d.Batch.Collect,a.Batch.b8⟩:Batch),Reads:=a.Reads,aL:=a.aL,eD:=a.eD,eC:=a.eC,bM:=a.bM,bW:=a.bW}:aK))) [0,1,2,3,4,5,6,7,8,9,10,11,12,13,14,15,16,17,18,19,20,21,22] Q2) λ⟨x22,x⟩ _=>aV [99] Q2 (aAS [1,2,3,4,5,6,7,8,10,13,14,15,16,17,18,19] Q Q Q Q (λ_=>aVT (j:=({x with Batch:=(⟨x.Batch.Collect,a.Batch.b8⟩:Batch),Reads:=a.Reads,aL:=a.aL,eD:=a.eD,eC:=a.eC,bM:=a.bM,bW:=a.bW}:aK))) λn R=>iO (p:=((⟨n.1.aA,n.1.bC,t.aH,t.aY,n.1.Log,n.1.aG⟩:Table),n.2)) R [23,24,25,26,27,28,29,30,31,11,32,33,34,35,36,37,38,0,9,12,20,21,22] Q2)<|gP [13,14,15,16,17,18,19] Q4 (λ_=>iC (j:=({x with Batch:=(⟨x.Batch.Collect,a.Batch.b8⟩:Batch),Reads:=a.Reads,aL:=a.aL,eD:=a.eD,eC:=a.eC,bM:=a.bM,bW:=a.bW}:aK))) λN e=>iO (p:=(t,N)) (J,H,G,F,E,D,C,B,l,e.1,e.2.1,e.2.2.1,e.2.2.2.1,e.2.2.2.2.1,e.2.2.2.2.2.1,e.2.2.2.2.2.2) [1,2,3,4,5,6,7,8,10,11,23,24,25,26,27,28,29,0,9,12,20,21,22] Q2) λ⟨x3,x4⟩ ⟨s14,s15,s16,s17,s18,s19,s20,s21,s22,s23,s24,s25,s26,s27,Z,Y⟩=>λM=>eH 2 h2 h1 Q5<|sR Q<|fR Q2<|gR bK 20 [10,11,12,13,14,15,16] [111] x4 (s23,s24,s25,s26,s27,Z,Y) Q8<|fR Q2<|iS L bI.symm [(115,9)] [(9,9),(19,9)] Q3<|fR Q2<|iM (s14,s15,s16,s17,s18,s19,s20,s21,L,z,s22) [0,1,2,3,4,5,6,7,23,18,8] M Q2 Q4
theorem aLJ{x:CT}{K:AC}(W:bJ κ L x.aY)(M:bJ κ K x.bG):V0 prog κ 28 (LO x) [.g [.h L x.aY.length,.h K x.bG.length]] I:=
 bZ call28 func28 Q Q2<|c1 Q (λh=>aOK (h.a W)) λY V=>aV [12] Q2 (cQ Q2)<|D9 V [1,3] (λ(p:Int×Int×Table) (u:QA)=>[(4,I p.1),(5,I p.2.1)]) [1,2,3,4,5,6,7,8,9,10,11,12,0] [0] (λp u=>(zTb p.2.2 u [.box 1 (yTb p.2.2 u)])) id [] (λ(G:Int) (_:Unit)=>[(4,I G)]) [] (λG _=>[]) Q Q (λU ⟨n,H,J⟩ ⟨l,k,j,i,g,f,e,d,c,b,a⟩ T=>cH 0 2 (λ(p:Bool×Table)=>nV x n H p.1 p.2) [1,3,4,5] (λ(p:Bool×Table) (_:Unit)=>[(21,.b p.1)]) [12] (λp _=>(oTb p.2 l k j i g f e d c b a [.box 1 (QQ p.2 l k j i g f e d c b a)])) Q (eV [17,18] Q2 (bQ (p:=(decide (H<400),J)) [0,1,2,3,4,5,6,7,8,9,10,11,12] Q2)<|bQ (p:=(false,J)) [0,1,2,3,4,5,6,7,8,9,10,11,12] Q2) λ⟨X,q⟩ _=>aV [21] Q2 (cH 2 2 (λ(p:Int×Table)=>sV H p.1 p.2) [1,3,5] (λ(p:Int×Table) (u:QA)=>[(4,I p.1)]) [12] (λp u=>(zTb p.2 u [.box 1 (yTb p.2 u)])) Q (ZD Q M Q λP=>c0 Q (λ_=>bN) λO=>aV [29] Q2 (dE aC [12,13] Q<|ZD Q M Q λN=>gP [0,1,2,3,4,5,6,7,8,9,10] Q4 (λ_=>aYW) λo r=>c0 Q (λh=>NI (h.o 20 Q)) λm=>λF=>aXS Q Q Q Q<|wi F<|iO (p:=(if n<m then m else n,o)) r [15,16,17,18,19,20,21,22,23,24,25,11,12] Q2)<|iO (p:=(n,q)) (l,k,j,i,g,f,e,d,c,b,a) [0,1,2,3,4,5,6,7,8,9,10,11,12] Q2) λ⟨S,R⟩ ⟨E,D,C,B,A,z,y,w,v,t,s⟩=>nxW (E,D,C,B,A,z,y,w,v,t,s) [0,1,2,3,4,5,6,7,8,9,10,11,12] Q)<|xY [] Q) λG _=>cQ Q2
theorem aSH{l:a7}{f:AC}(q:bJ κ f l):VS prog κ 414 (SG l) [.h f l.length] [] [] (λr (y:AC)=>.h y r.length) (λr y=>[ow y r]):=
 bZ call414 func414 Q Q2<|λn=>W9 (O:=bP) wQ Q4 λm=>wi n<|D9 m [0] (λ(p:a7×Int) (c:AC)=>[(3,.h c p.1.length),(4,I p.2)]) [0] [] (λp c=>[ow c (p.1:a7)]) id [] (λ(d:a7) (b:AC)=>[(3,.h b d.length)]) [] (λd b=>[ow b (d:a7)]) Q Q (λi ⟨t,s⟩ c g=>aV [9] Q2 (λa=>W9 (O:=eW) nF Q4 λw=>wi a<|AF WM Q q Q λj v o=>λa=>ap 1 nF Q Q Q Q Q Q Q (λh=>(h.a o)) Q Q a λa k=>HN nH [1] ((⟨([]:bg)++j.Rows⟩:bP)) k wQ HO λu=>apN 0 3 wQ Q Q Q9 a λa e=>wi a<|nxW e [4] Q)<|bkW c [0] Q) λd b=>dD b [0] Q2
theorem aSI{b:aA}{j f:AC}(u:bJ κ k b.Mem.Heap.Bytes)(t:bJ κ j b.Mem.Heap.Class)(s:bJ κ i b.Mem.aD.Global)(q:bJ κ g b.Mem.aD.Own)(p:bJ κ f b.aI.bV)(o:bJ κ e b.aQ)(n:bJ κ d b.iU):VS prog κ 310 (SH b) [.g (gB b k j i g f e d)] [] [] (λr (y:A7C)=>.g (yB r y)) (λr y=>(zB r y [])):=
 bZ call310 func310 Q Q2<|dE aC [0] Q<|c1 Q (λh=>FR (h.a u) (h.a t) (h.a s) (h.a q)) λz m=>c1 Q (λh=>CE (h.a p)) λx l=>c1 Q (λh=>aSH (h.a o)) λw c=>c1 Q (λh=>mW (h.a n)) λv a=>dD (t4U m (l,c,a)) [2,3,4,5,6,7,8] Q2
theorem aDT{s:aJ}{s1 s2 s3 s4 s5 s6 s7 s8 s9 K:AC}(h1:bJ κ s1 s.aA.Mem.Heap.Bytes)(h2:bJ κ s2 s.aA.Mem.Heap.Class)(h3:bJ κ s3 s.aA.Mem.aD.Global)(h4:bJ κ s4 s.aA.Mem.aD.Own)(h5:bJ κ s5 s.aA.aI.bV)(h6:bJ κ s6 s.aA.aQ)(h7:bJ κ s7 s.aA.iU)(h8:bJ κ s8 s.Cells)(P:bJ κ s9 s.aH)(h10:bJ κ K s.aY)(j:bJ κ J s.Log):VS prog κ 166 (LP s) [.g (gS s s1 s2 s3 s4 s5 s6 s7 s8 s9 K J)] [] [] (λr (y:QA)=>.g (yS r y)) (λr y=>(zS r y [])):=
 bZ call166 func166 Q Q2<|cH 0 2 P8 [2] (λ(R:aJ) (u:QA)=>[]) [] (λR u=>(zS R u [.box 1 (yS R u)])) Q (dE aC [0] Q<|λd=>bd d λg hA1 d=>bd d λf hA2 d=>nd d λl d=>bd d λe hA4 d=>nd d λi d=>(by repeat' first|refine dS Q2 ?_ ?_|refine aE1 Q Q ?_ ?_ ?_|refine I5 hA1 Q (λh=>aSI (h.a h1) (h.a h2) (h.a h3) (h.a h4) (h.a h5) (h.a h6) (h.a h7)) λc=>?_|refine I5 hA2 Q (λh=>mW (h.a h8)) λb=>?_|refine W9 (O:=fE) pH Q4 λs32=>?_|refine have N:=rn l;ap 10 pH Q Q Q Q Q Q Q (λh=>(h.a P)) Q Q N λN n=>?_|refine I5 hA4 Q (λh=>YG (h.a h10)) λa=>?_|refine W9 (O:=Ev) iB Q4 λs35=>?_|refine have M:=rn i;ap 12 iB Q Q Q Q Q Q Q (λh=>(h.a j)) Q Q M λM F=>?_|refine have L:=rn i;ap 11 iB Q Q Q Q Q Q Q (λh=>(h.a j)) Q Q L λL E=>?_|refine have A:=rn l;ap 11 pH Q Q Q Q Q Q Q (λh=>(h.a P)) Q Q A λA D=>?_|refine have z:=rn i;ap 10 iB Q Q Q Q Q Q Q (λh=>(h.a j)) Q Q z λz C=>?_|refine have x:=rn l;ap 9 pH Q Q Q Q Q Q Q (λh=>(h.a P)) Q Q x λx B=>?_|refine have w:=rn i;ap 9 iB Q Q Q Q Q Q Q (λh=>(h.a j)) Q Q w λw I=>?_|refine have v:=rn l;ap 2 pH Q Q Q Q Q Q Q (λh=>(h.a P)) Q Q v λv m=>?_|refine have t:=rn i;ap 3 iB Q Q Q Q Q Q Q (λh=>(h.a j)) Q Q t λt H=>?_|refine have q:=rn i;ap 2 iB Q Q Q Q Q Q Q (λh=>(h.a j)) Q Q q λq k=>?_|refine have o:=rn l;ap 3 pH Q Q Q Q Q Q Q (λh=>(h.a P)) Q Q o λo G=>?_|exact wi d<|iO (p:=((⟨g,f,([]:br)++s.aH,e,([]:bw)++s.Log,s.aG⟩:aJ))) (zA c (b,n,a,F)) [2,3,4,5,6,7,8,9,10,11,12,1] Q2|exact wi d<|iO (p:=((⟨g,f,([]:br)++s.aH,e,([]:bw)++s.Log,s.aG⟩:aJ))) (zA c (b,n,a,E)) [2,3,4,5,6,7,8,9,10,12,11,1] Q2|exact wi d<|iO (p:=((⟨g,f,([]:br)++s.aH,e,([]:bw)++s.Log,s.aG⟩:aJ))) (zA c (b,D,a,C)) [2,3,4,5,6,7,8,9,11,12,10,1] Q2|exact wi d<|iO (p:=((⟨g,f,([]:br)++s.aH,e,([]:bw)++s.Log,s.aG⟩:aJ))) (zA c (b,B,a,F)) [2,3,4,5,6,7,8,10,9,11,12,1] Q2|exact wi d<|iO (p:=((⟨g,f,([]:br)++s.aH,e,([]:bw)++s.Log,s.aG⟩:aJ))) (zA c (b,B,a,E)) [2,3,4,5,6,7,8,10,9,12,11,1] Q2|exact wi d<|iO (p:=((⟨g,f,([]:br)++s.aH,e,([]:bw)++s.Log,s.aG⟩:aJ))) (zA c (b,B,a,C)) [2,3,4,5,6,7,8,11,9,12,10,1] Q2|exact wi d<|iO (p:=((⟨g,f,([]:br)++s.aH,e,([]:bw)++s.Log,s.aG⟩:aJ))) (zA c (b,D,a,I)) [2,3,4,5,6,7,8,10,11,12,9,1] Q2|exact wi d<|iO (p:=((⟨g,f,([]:br)++s.aH,e,([]:bw)++s.Log,s.aG⟩:aJ))) (zA c (b,n,a,I)) [2,3,4,5,6,7,8,11,10,12,9,1] Q2|exact wi d<|iO (p:=((⟨g,f,([]:br)++s.aH,e,([]:bw)++s.Log,s.aG⟩:aJ))) (zA c (b,m,a,F)) [3,4,5,6,7,8,9,10,2,11,12,1] Q2|exact wi d<|iO (p:=((⟨g,f,([]:br)++s.aH,e,([]:bw)++s.Log,s.aG⟩:aJ))) (zA c (b,m,a,E)) [3,4,5,6,7,8,9,10,2,12,11,1] Q2|exact wi d<|iO (p:=((⟨g,f,([]:br)++s.aH,e,([]:bw)++s.Log,s.aG⟩:aJ))) (zA c (b,m,a,C)) [3,4,5,6,7,8,9,11,2,12,10,1] Q2|exact wi d<|iO (p:=((⟨g,f,([]:br)++s.aH,e,([]:bw)++s.Log,s.aG⟩:aJ))) (zA c (b,m,a,H)) [4,5,6,7,8,9,10,11,2,12,3,1] Q2|exact wi d<|iO (p:=((⟨g,f,([]:br)++s.aH,e,([]:bw)++s.Log,s.aG⟩:aJ))) (zA c (b,D,a,k)) [3,4,5,6,7,8,9,10,11,12,2,1] Q2|exact wi d<|iO (p:=((⟨g,f,([]:br)++s.aH,e,([]:bw)++s.Log,s.aG⟩:aJ))) (zA c (b,n,a,k)) [3,4,5,6,7,8,9,11,10,12,2,1] Q2|exact wi d<|iO (p:=((⟨g,f,([]:br)++s.aH,e,([]:bw)++s.Log,s.aG⟩:aJ))) (zA c (b,G,a,k)) [4,5,6,7,8,9,10,11,3,12,2,1] Q2)) λR ⟨s12,s13,s14,Z,Y,X,W,V,U,T,S⟩=>dD (s12,s13,s14,Z,Y,X,W,V,U,T,S) [0,1,2,3,4,5,6,7,8,9,10] Q2
theorem aB3{x:iD}{W:AC}(h1:bJ κ W x.aY)(X:bJ κ V x.bG):VS prog κ 68 (FP x) [.g [.h W x.aY.length,.h V x.bG.length]] [] [] (λr (y:AC)=>.h y r.length) (λr y=>[ow y r]):=
 bZ call68 func68 Q Q2<|λv=>W9 (O:=aJ) CC Q4 λs3=>wi v<|c1 Q (λh=>QC (h.a h1)) λx1 c=>aV [13] Q2 (dD s3 [1] Q2)<|c1 Q (λh=>aDT (h.o 2 Q) (h.o 3 Q) (h.o 4 Q) (h.o 5 Q) (h.o 6 Q) (h.o 7 Q) (h.o 8 Q) (h.o 9 Q) (h.o 10 Q) (h.o 11 Q) (h.o 12 Q)) λx2 s5=>λv=>HN QB [14,15,16,17,18,19,20,21,22,23,24] (x2) s5 CC HO λs6=>apN 1 25 CC Q Q Q9 v λv s7=>wi v<|D9 (s7,c.1,c.2.1,c.2.2.1,c.2.2.2.1,c.2.2.2.2.1,c.2.2.2.2.2.1,c.2.2.2.2.2.2.1,c.2.2.2.2.2.2.2.1,c.2.2.2.2.2.2.2.2.1,c.2.2.2.2.2.2.2.2.2.1,c.2.2.2.2.2.2.2.2.2.2) [1,4] (λ(p:bh×Int×aJ) (u:AC×AC×AC×AC×AC×AC×AC×AC×AC×AC×AC×AC)=>[(3,.h u.1 p.1.length),(5,I p.2.1)]) [26,2,3,4,5,6,7,8,9,10,11,12,13,0] [0] (λp u=>([ow u.1 (p.1:bh)]++(zS p.2.2 u.2 [.box 1 (yS p.2.2 u.2)]))) id [] (λ(w:bh) (b:AC)=>[(3,.h b w.length)]) [] (λw b=>[ow b (w:bh)]) Q Q (λhF1 ⟨T,S,U⟩ ⟨t,o,n,m,l,k,j,i,g,f,e,d⟩ hr1=>cH 0 2 (λ(p:Bool×aJ)=>pO x T S p.1 p.2) [1,3,4,5] (λ(p:Bool×aJ) (_:Unit)=>[(28,.b p.1)]) [0,13] (λp _=>(oS p.2 o n m l k j i g f e d [.box 1 (gS p.2 o n m l k j i g f e d)])) Q (eV [24,25] Q2 (bQ (p:=(decide (S<400),U)) [1,2,3,4,5,6,7,8,9,10,11,12,0,13] Q2)<|bQ (p:=(false,U)) [1,2,3,4,5,6,7,8,9,10,11,12,0,13] Q2) λ⟨x10,A⟩ _=>aV [28] Q2 (cH 2 2 (λ(p:bh×aJ)=>vU S p.1 p.2) [1,4,5] (λ(p:bh×aJ) (u:AC×AC×AC×AC×AC×AC×AC×AC×AC×AC×AC×AC)=>[(3,.h u.1 p.1.length)]) [13] (λp u=>([ow u.1 (p.1:bh)]++(zS p.2 u.2 [.box 1 (yS p.2 u.2)]))) Q (ZD Q X Q λx14=>c0 Q (λ_=>bN) λZ=>aV [36] Q2 (dE aC [13,14] Q<|ZD Q X Q λY=>gP [0,1,2,3,4,5,6,7,8,9,10] Q4 (λ_=>aIY) λz a=>c1 Q (λh=>aDT (h.o 16 Q) (h.o 17 Q) (h.o 18 Q) (h.o 19 Q) (h.o 20 Q) (h.o 21 Q) (h.o 22 Q) (h.o 23 Q) (h.o 24 Q) (h.o 25 Q) (h.o 26 Q)) λs C=>λq=>HN QB [27,28,29,30,31,32,33,34,35,36,37] (s) C CC HO λs47=>apN 12 38 CC Q Q Q9 q λq B=>wi q<|iO (p:=(T++([s]),z)) (B,a.1,a.2.1,a.2.2.1,a.2.2.2.1,a.2.2.2.2.1,a.2.2.2.2.2.1,a.2.2.2.2.2.2.1,a.2.2.2.2.2.2.2.1,a.2.2.2.2.2.2.2.2.1,a.2.2.2.2.2.2.2.2.2.1,a.2.2.2.2.2.2.2.2.2.2) [39,16,17,18,19,20,21,22,23,24,25,26,11,13] Q2)<|iO (p:=(T,A)) (t,o,n,m,l,k,j,i,g,f,e,d) [12,0,1,2,3,4,5,6,7,8,9,10,11,13] Q2) λ⟨x12,x13⟩ ⟨R,P,N,M,L,K,J,H,G,F,E,D⟩=>nxW (R,P,N,M,L,K,J,H,G,F,E,D) [0,1,2,3,4,5,6,7,8,9,10,11,12,13] Q)<|bkW t [12] Q) λw b=>dD b [0] Q2
theorem aLK{x:iD}(l:bJ κ d x.aY)(k:bJ κ c x.bG):V0 prog κ 29 (LQ x) [.g [.h d x.aY.length,.h c x.bG.length]] I:=
 bZ call29 func29 Q Q2<|c1 Q (λh=>aB3 (h.a l) (h.a k)) λr s=>D9 () [4] (λ(p:Int×Int) (_:Unit)=>[(3,I p.1),(5,I p.2)]) [1] [1] (λp _=>[]) id [] (λ(b:Int) (_:Unit)=>[(3,I b)]) [] (λb _=>[]) Q Q (λg ⟨q,o⟩ _ f=>aV [11] Q2 (fU QB 0 Q3 λn e i j=>λa=>eH 1 j e Q5<|wi a<|c0 Q (λh=>NI (h.o 9 Q)) λm=>λa=>aXS Q Q Q Q<|sF Q<|fR Q2<|eJ QB 1 [4,5,6,7,8,9,10,11,12,13,14] e i Q7<|nxR () [15] a Q)<|xY [] Q) λb _=>cQ Q2
theorem aOQ{x:iD}(n:bJ κ d x.aY)(m:bJ κ c x.bG):V0 prog κ 30 (OS x) [.g [.h d x.aY.length,.h c x.bG.length]] I:=
 bZ call30 func30 Q Q2<|c1 Q (λh=>aB3 (h.a n) (h.a m)) λu w=>D9 () [4] (λ(p:Int×Int) (_:Unit)=>[(3,I p.1),(5,I p.2)]) [1] [1] (λp _=>[]) id [] (λ(b:Int) (_:Unit)=>[(3,I b)]) [] (λb _=>[]) Q Q (λi ⟨t,s⟩ _ g=>aV [11] Q2 (fU QB 0 Q3 λr f j l=>λa=>eH 1 l f Q5<|wi a<|c1 Q (λh=>aJB (h.o 4 Q) (h.o 5 Q) (h.o 6 Q) (h.o 7 Q) (h.o 8 Q) (h.o 9 Q) (h.o 10 Q)) λq v=>fU oI 15 Q3 λo e _ k=>λa=>eH 2 k e Q5<|aXS Q Q Q Q<|sF Q<|fR Q2<|eJ oI 16 [] e () Q7<|fR Q2<|eJ QB 1 [4,5,6,7,8,9,10,11,12,13,14] f j Q7<|fR Q2<|nxR () [20] a Q)<|xY [] Q) λb _=>cQ Q2
theorem aSJ{code:aF}{t:AC}(j:bJ κ t code):V0 prog κ 4 (ZX code) [.h t code.length] .b:=
 bZ call4 func4 Q Q2<|c0 Q (λh=>a4U (h.a j)) λx1=>aV [13] Q2 (cQ Q2)<|c1 Q (λh=>aDB (h.a j)) λb W=>c0 Q (λh=>aYJ (h.a j)) λd=>paW Q (λh=>aME (x:=b) (n:=d) (h.o 0 Q) (h.o 1 Q)) λs=>c1 Q (λh=>aK2 (x:=(⟨b.aY,(b.bG.take ((if d<(b.bG.length:Int) then d else(b.bG.length:Int)).toNat)).drop 0⟩:iD)) (h.o 0 Q) ((h.o 1 Q).sub (QN (a83 s).1 (a83 s).2) (a83 s))) λx4 c=>c0 Q (λh=>YL (h.o 0 Q) (h.o 1 Q)) λx5=>c0 Q (λh=>aOE (h.o 0 Q) (h.o 1 Q)) λx6=>c0 Q (λh=>aYS (h.o 0 Q) (h.o 1 Q)) λx7=>aV [31] Q2 (dJ 0 2 P9 [] 2 [] Q (eV [33,34] Q2 (bQ [] Q2)<|bQ [] Q2) λZ=>cQ Q2)<|D9 () [0,3,4,5,6,7] (λ(p:Int×Int×aJ) (_:Unit)=>[(8,I p.1),(9,I p.2.1)]) [3,4,5,6,7,8,9,10,11,12,13,14,0,1,2] [0,1,2] (λp _=>(zS p.2.2 c [.box 1 (yS p.2.2 c)])) id [0,3,4,5,6,7] (λ(p:Int×aJ) (_:Unit)=>[(8,I p.1)]) [0,1,2] (λp _=>(zS p.2 c [.box 1 (yS p.2 c)])) Q Q (λV ⟨S,R,P⟩ _ T=>aV [39] Q2 (D9 () [0,3,4,5,6,7,9] (λ(p:Int×Int×aJ) (_:Unit)=>[(8,I p.1),(10,I p.2.1)]) [0,1,2,3,4,5,6,7,8,9,10,11,12,13,14] [12,13,14] (λp _=>(zS p.2.2 c [.box 1 (yS p.2.2 c)])) id [0,3,4,5,6,7,9] (λ(p:Int×aJ) (_:Unit)=>[(8,I p.1)]) [12,13,14] (λp _=>(zS p.2 c [.box 1 (yS p.2 c)])) Q Q (λU ⟨f,k,e⟩ _ l=>fU lN 12 Q3 λz i m u=>λa=>eH 2 u i Q5<|wi a<|aV [50] Q2 (cH 2 3 (λ(p:Int×aJ)=>HE k p.1 p.2) [0,3,4,5,6,7,9,10] (λ(p:Int×aJ) (_:Unit)=>[(8,I p.1)]) [13,14] (λp _=>([ow W.1 (b.aY:av)]++(zS p.2 c [.box 1 (yS p.2 c)]))) Q (λa=>eH 2 u i Q5<|wi a<|fU aRA 18 Q3 λv o _ X=>λa=>eH 3 X o Q5<|wi a<|aV [63] Q2 (λa=>sF Q<|eJ aRA 19 [] o () Q7<|eJ lN 15 [22] i m Q7<|fR Q2<|fO (p:=(bB (f+1),e)) () [23,0,1,2,3,4,5,6,7,8,9,10,11,13,14] a Q)<|λa=>sF Q<|eJ aRA 19 [] o () Q7<|eJ lN 15 [22] i m Q7<|fR Q2<|fO (p:=(f,e)) () [23,0,1,2,3,4,5,6,7,8,9,10,11,13,14] a Q) λ⟨y,w⟩ _=>F9 [1,2,3,4,5,6,7,8,9,10,11,12,0,13,14] Q)<|λa=>sX Q<|eJ lN 15 [18] i m Q7<|bkR () [0,1,2,3,4,5,6,7,8,9,10,11,19,13,14] a l Q) λ⟨B,A⟩ _=>F9 [0,1,2,3,4,5,6,7,8,9,10,11,12,13,14] Q)<|xY [0,1,2,3,4,5,6,7,8,9,10,11,12,13,14] Q) λ⟨O,N⟩ _=>c1 Q (λh=>aDL (h.a j)) λM s4=>dJ 0 3 jO [] 2 [] Q (dE aC [11,14,17] Q<|c0 Q (λh=>NI (h.o 5 Q)) λK=>eV [73,74] Q2 (c1 Q (λh=>aJB (h.o 0 Q) (h.o 1 Q) (h.o 2 Q) (h.o 3 Q) (h.o 4 Q) (h.o 5 Q) (h.o 6 Q)) λJ s5=>fU oI 18 Q3 λH r _ Y=>λg=>eH 3 Y r Q5<|wi g<|eV [81,82,83] Q2 (λg=>EX oI 19 [] r () Q9<|wi g<|paW Q (λh=>aME (x:=b) (n:=d) (h.o 12 Q) (h.o 13 Q)) λq=>c0 Q (λh=>YL (x:=(⟨b.aY,(b.bG.take ((if d<(b.bG.length:Int) then d else(b.bG.length:Int)).toNat)).drop 0⟩:iD)) (h.o 12 Q) ((h.o 13 Q).sub (QN (a83 q).1 (a83 q).2) (a83 q))) λG=>eV [89,90,91] Q2 (eV [94,95,96] Q2 (eV [99,100,101] Q2 (c0 Q (λh=>aLF (h.o 15 Q) (h.o 16 Q)) λF=>c0 Q (λh=>aLJ (h.o 15 Q) (h.o 16 Q)) λE=>eV [106,107,108] Q2 (c0 Q (λh=>aLK (h.o 12 Q) (h.o 13 Q)) λD=>eV [112,113,114] Q2 (c0 Q (λh=>aOQ (h.o 12 Q) (h.o 13 Q)) λC=>bQ [] Q2)<|bQ [] Q2)<|bQ [] Q2)<|bQ [] Q2)<|bQ [] Q2)<|bQ [] Q2)<|λg=>sF Q<|eJ oI 19 [] r () Q7<|fO () [] g Q)<|bQ [] Q2) λL=>cQ Q2
end
end Go.Proofs.YtdooodokcphomaaGreat
end
noncomputable section
namespace Go.Gv
variable{h:Heap}{c s x:Int}{l:al}{m:Mem}{k w:Nat}{O ρ σ:Type}
def kL{f:σ->Option (Step σ ρ)}(n:Nat)(S:Nat->σ)(r:ρ)(c:∀k,k<n->f (S k)=some (.next (S (k+1))))(g:f (S n)=some (.stop r)):loop f (S 0)=some r:=by
  have a:∀d k,k+d=n->loop f (S k)=some r:=by
    intro d;induction d with
    | zero => intro k e; obtain rfl : k = n := by omega
              exact bR g
    |succ d b=>intro k e;rw[bO (c k aa)];exact b (k+1) aa
  exact a n 0 aa
def a9A{f:σ->Option (Step σ ρ)}(n:Nat)(S:Nat->σ)(g:Nat->ρ)
  (h:∀k,k<=n->f (S k)=some (.stop (g k))\/(k<n/\f (S k)=some (.next (S (k+1)))/\g k=g (k+1))):∀k,k<=n->loop f (S k)=some (g k):=by
 have b:∀d k,k+d=n->loop f (S k)=some (g k):=by
  intro d;induction d with
  |zero=>
   intro k c;obtain a|⟨a,_⟩:=h k aa
   .exact bR a
   .omega
  |succ d e=>
   intro k c;obtain a|⟨_,j,i⟩:=h k aa
   .exact bR a
   .rw[bO j,i];exact e (k+1) aa
 intro k c;exact b (n-k) k aa
def CK{f:σ->Option (Step σ ρ)}(n:Nat)(S:Nat->σ)(p:Nat->Prop)[DecidablePred p](yes no:ρ)
  (r:∀k,k<n->p k->f (S k)=some (.next (S (k+1)))) (o:∀k,k<n->¬p k->f (S k)=some (.stop no)) (m:f (S n)=some (.stop yes)) :
  loop f (S 0)=some (if ∀k,k<n->p k then yes else no):=by
 classical
 have g:∀d k,k+d=n->loop f (S k)=some (if ∀j,k<=j->j<n->p j then yes else no):=by
  intro d;induction d with
  |zero=>
   intro k l;obtain rfl:k=n:=aa
   rw[bR m,aM (λj a b=>aa)]
  |succ d i=>
   intro k l;by_cases c:p k
   .rw[bO (r k aa c),i (k+1) aa];by_cases h:∀j,k+1<=j->j<n->p j
    .rw[aM h,aM];intro j a b;by_cases e:j=k
     .subst e;exact c
     .exact h j aa b
    .rw[aO h,aO];exact λq=>h λj a b=>q j aa b
   .rw[bR (o k aa c),aO];exact λq=>c (q k (jR _) aa)
 have:=g n 0 aa;rw[this];by_cases h:∀k,k<n->p k
 .rw[aM h,aM (λj _ b=>h j b)]
 .rw[aO h,aO (λq=>h λk a=>q k (lR _) a)]
def lA{f:σ->Option (Step σ ρ)}(l:List O)(S:Nat->σ)(p:O->Prop)[DecidablePred p](yes no:ρ)
  (g:∀k (h:k<l.length),p l[k]->f (S k)=some (.next (S (k+1)))) (e:∀k (h:k<l.length),¬p l[k]->f (S k)=some (.stop no)) (d:f (S l.length)=some (.stop yes)) :
  loop f (S 0)=some (if ∀x∈l,p x then yes else no):=by
 classical
 have:=CK (f:=f) l.length S (λk=>∀h:k<l.length,p l[k]) yes no (λk h b=>g k h (b h)) (λk h b=>e k h (λq=>b λ_=>q)) d;rw[this];by_cases h:∀x∈l,p x
 .rw[aM h,aM (λk a _=>h _ (dO a))]
 .rw[aO h,aO];intro q;refine h λx c=>?_;obtain⟨k,a,rfl⟩:=aFI.1 c;exact q k a a
theorem cK(b:-9223372036854775808<=x)(a:x<=9223372036854775807):bB x=x:=V4 ⟨b,a⟩
theorem eQ{l:List O}{i:Int}(b:0<=i)(a:i<l.length):idx l i=some (l[i.toNat]' aa):=idx_eq b a
theorem wrap_i64(b:-9223372036854775808<=x)(a:x<=9223372036854775807):IntKind.i64.wrap x=x:=V4 ⟨b,a⟩
def aJN{y:Int}(a:0<=x):x.tdiv y=x/y:=Int.tdiv_eq_ediv_of_nonneg a
theorem zC{y:Int}(a:0<=x):x.tmod y=x % y:=Int.tmod_eq_emod_of_nonneg a
def a7U(b:0<=x)(a:k<=63):rS .i64 x k=x/2 ^ k:=by
 unfold rS;have:min ((k:Int).toNat) IntKind.i64.bits=k:=by simp[IntKind.bits];omega
 rw[this,Int.fdiv_eq_ediv_of_nonneg _ (by exact Int.le_of_lt (Int.pow_pos aa))]
def cX{c:Prop}[Decidable c]{a b:O}(h:c:=by simp;omega):ite c a b=a:=aM h
def fF{c:Prop}[Decidable c]{a b:O}(h:¬c:=by simp):ite c a b=b:=aO h
def qU{c:Prop}[Decidable c]{a b:O}(h:¬c:=by omega):ite c a b=b:=aO h
def qH{c:Prop}[Decidable c]{a b:O}(h:¬c:=by simp;omega):ite c a b=b:=aO h
def EP{p:Prop}[Decidable p]{k:Option O}(h:p:=by simp;omega):need p k=k:=b7 h k
def PH{p:Prop}[Decidable p]{k:Option O}(h:p:=by omega):need p k=k:=b7 h k
def UO{l:List O}(h:k<l.length:=by omega):idx l (k:Int)=some l[k]:=aZ h
def cY(b:-9223372036854775808<=x:=by omega)(a:x<=9223372036854775807:=by omega):bB x=x:=cK b a
section
variable {O:Type} {p:O->Bool}
theorem aJO{f:Int->Option (Step Int (Out Unit Int))}{s:List O}(r:s.length<=4611686018427387904)
  (n:∀k:Nat,f (k:Int)=if h:k<s.length then(if p s[k] then some (.stop (Out.ret (k:Int))) else some (.next ((k+1:Nat):Int))) else some (.stop (Out.brk ()))) :
  ∀d k,k+d=s.length->(∃j,∃h:j<s.length,k<=j/\(∀i (h:i<s.length),k<=i->i<j->p s[i]=false)/\p s[j]=true/\loop f (k:Int)=some (Out.ret (j:Int)))\/((∀i (h:i<s.length),k<=i->p s[i]=false)/\loop f (k:Int)=some (Out.brk ()))
 |0,k,t=>.inr ⟨λi h l=>aa,bR aj⟩
 |d + 1,k,t=>by
  have c:k<s.length:=aa
  by_cases g:p s[k]=true
  .exact .inl ⟨k,c,jR _,λi h o l=>aa,g,bR (by rw[n k,dif_pos c,aM g])⟩
  .have g:p s[k]=false:=by simpa using g
   have q:f (k:Int)=some (.next ((k+1:Nat):Int)):=by rw[n k,dif_pos c,aO (by simp[g])]
   rcases aJO r n d (k+1) aa with ⟨j,h,o,l,v,u⟩|⟨o,l⟩
   .refine .inl ⟨j,h,aa,λi m a b=>?_,v,by rw[bO q];exact u⟩;by_cases e:i=k
    .subst e;exact g
    .exact l i m aa b
   .refine .inr ⟨λi m a=>?_,by rw[bO q];exact l⟩;by_cases e:i=k
    .subst e;exact g
    .exact o i m aa
theorem aYX{f:List O×Int×Int->Option (Step (List O×Int×Int) (List O×Int))}{n:Nat}(r:n<=4611686018427387904)
  (e:∀(L:List O) (i j:Nat) (h:j<L.length),L.length=n->i<=j->f (L,(i:Int),(j:Int))=if p L[j] then some (.next (L,(i:Int),((j+1:Nat):Int))) else some (.next (L.set i L[j],((i+1:Nat):Int),((j+1:Nat):Int))))
  (l:∀(L:List O) (i j:Nat),j=L.length->f (L,(i:Int),(j:Int))=some (.stop (L,(i:Int)))) :
  ∀d (L:List O) (i j:Nat),j+d=L.length->L.length=n->i<=j->∃(M:List O) (k:Nat),loop f (L,(i:Int),(j:Int))=some (M,(k:Int))/\M.length=n/\k<=n/\M.take k=L.take i++(L.drop j).filter (λx=>!p x)
 |0,L,i,j,t,b,g=>⟨L,i,bR (l L i j aa),b,aa,aj⟩
 |d + 1,L,i,j,t,b,g=>by
  have a:j<L.length:=aa
  have u:L.drop j=L[j]::L.drop (j+1):=EU a;by_cases c:p L[j]=true
  .obtain⟨M,k,q,o,m,s⟩:=aYX r e l d L i (j+1) aa b aa;refine⟨M,k,by rw[bO (by rw[e L i j a b g,aM c])];exact q,o,m,aj⟩
  .have c:p L[j]=false:=aj
   obtain⟨M,k,q,o,m,s⟩:=aYX r e l d (L.set i L[j]) (i+1) (j+1) ah aj aa;refine⟨M,k,by rw[bO (by rw[e L i j a b g,aO (by simp[c])])];exact q,o,m,?_⟩;rw[s,u,List.filter_cons_of_pos (by simp[c])];have v:(L.set i L[j]).take (i+1)=L.take i++[L[j]]:=by rw[UR ah,List.take_set_of_le (jR _)];simp
   grind[List.drop_set_of_lt]
end
theorem a9B{l xs:List O}{a:Nat}(h:a<=l.length):((dM l a xs).take a).drop 0=l.take a:=by grind[dM]
theorem bEB{q:O->Bool}{s:List O}{j:Nat}(h:j<s.length)(b:∀i (h:i<s.length),i<j->q s[i]=true)(a:q s[j]=false):s.take j++(s.drop (j+1)).filter q=s.filter q:=by
 have e:s=s.take j++s[j]::s.drop (j+1):=ae
 have c:(s.take j).filter q=s.take j:=by grind[List.filter_eq_self,aPX]
 grind
def a1Q(x y:Int):cmp_Less_int x y=some (decide (x<y)):=by simp[cmp_Less_int,cmp_isNaN_int,yW]
theorem aYY{A B:al}{k:Int}(h:k=(A.length:Int)):idx (A++x::B) k=some x:=by grind[aZ]
def a1R{data:al}(m:data.length<=4611686018427387904):∀(j:Nat) (A B C:al) (x:Int),A.length=j->(A++x::(B++C)).length=data.length->(A++B).Pairwise (·<=·)->(∀b∈B,x<=b) ->
  ∃M:al,loop (fB data 0) (A++x::(B++C),(j:Int))=some (M++C)/\M.Perm (A++x::B)/\M.Pairwise (·<=·)
 |0,A,B,C,x,c,a,e,g=>by obtain rfl:A=[]:=AX c;refine⟨x::B,bR ?_,.refl _,a6D.2 ⟨g,e⟩⟩;simp only[fB,fA];rw[b7 a,fF,b7 a,fF];rfl
 |j + 1,A,B,C,x,c,a,e,g=>by
  obtain⟨A,y,rfl⟩:∃f y,A=f++[y]:=by
   obtain h|⟨f,y,h⟩:=aV3 A
   .rw[h] at c;cases c
   .exact⟨f,y,by rw[h,List.concat_eq_append]⟩
  have d:A.length=j:=aj
  have p:A++[y]++x::(B++C)=A++y::(x::(B++C)):=ae
  have t:bB (((j+1:Nat):Int)-1)=(j:Int):=by grind[cK]
  have r:idx (A++y::(x::(B++C))) ((j+1:Nat):Int)=some x:=by grind[aYY]
  have q:idx (A++y::(x::(B++C))) (j:Int)=some y:=aYY aa;rw[p] at a ⊢;have k:∀b∈B,y<=b:=λb i=>(List.pairwise_append.1 e).2.2 y ae b i;by_cases l:x<y
  .have st:fB data 0 (A++y::(x::(B++C)),((j+1:Nat):Int))=some (.next (A++x::((y::B)++C),(j:Int))):=by simp_all[fB,b7,a1Q,fA,kR,aYY]
   obtain⟨M,s,o,n⟩:=a1R m j A (y::B) C x d aj aj (λb i=>by
    grind)
   refine⟨M,by grind[bO],o.trans ?_,n⟩;grind
  .refine⟨A++[y]++x::B,bR ?_,.refl _,?_⟩
   .simp_all[fB,b7,a1Q,fA,aO]
   grind
def aWP{data:al}(g:data.length<=4611686018427387904):∀d (S R:al),R.length=d->S≠[]->(S++R).length=data.length->S.Pairwise (·<=·) ->
  ∃M:al,loop (dX data 0 (data.length:Int)) (S++R,(S.length:Int))=some M/\M.Perm (S++R)/\M.Pairwise (·<=·)
 |0,S,R,e,h,a,f=>by simp_all[bR,dX,b7]
 |d+1,S,[],e,h,a,f=>by cases e
 |d + 1,S,x::R,e,h,a,f=>by
  obtain⟨M,o,l,k⟩:=a1R g S.length S [] R x rfl aj aj (λb j=>by cases j);have i:=l.length_eq;simp at i;have c:=a;simp at c;have st:dX data 0 (data.length:Int) (S++x::R,(S.length:Int))=some (.next (M++R,((S.length+1:Nat):Int))):=by simp only[dX];rw[b7 a,cX];grind[pY,pX,b7,cK]
  obtain⟨N,p,n,m⟩:=aWP g d M R aj aj ah k;refine⟨N,by grind[bO],n.trans ?_,m⟩;grind
def bEC{x:al}(h:x.length<=12)(i:∃n,FL (IntKind.u64.wrap (x.length:Int))=some n):∃y:al,GX x=some y/\y.Perm x/\y.Pairwise (·<=·):=by
 have b:∃y:al,jF x 0 (x.length:Int)=some y/\y.Perm x/\y.Pairwise (·<=·):=by
  unfold jF;rw[cY];cases x with
  |nil=>
   simp[bR,dX,b7,kS,kQ]
  |cons a r=>
   obtain⟨M,f,e,d⟩:=aWP (data:=a::r) aa r.length [a] r rfl ae ae (List.pairwise_singleton _ _);refine⟨M,?_,aj,d⟩;have c:loop (dX (a::r) 0 ((a::r).length:Int)) (a::r,(0:Int)+1)=some M:=f;rw[c,aE];simp only[kS,kQ];have j:=e.length_eq;grind[b7]
 obtain⟨y,f,e,d⟩:=b;obtain⟨n,g⟩:=i;refine⟨y,?_,e,d⟩;unfold GX qT;rw[g,aE,bR (r:=y) (by
  simp only[yX];rw[cY,cX,f];rfl),aE]
 rfl
def bL5(n:Nat):Bool:=(FL (IntKind.u64.wrap (n:Int))).isSome
def bED:(List.range 13).all bL5=true:=by kernel_rfl
theorem a4W(n:Nat)(h:n<=12):∃m,FL (IntKind.u64.wrap (n:Int))=some m:=aPZ.1 (aT4.1 bED n (List.mem_range.2 aa))
def a1S(h:l.Pairwise (·<=·)):(I4 l).Pairwise (· < ·)/\∀a,a∈I4 l↔a∈l:=by
 obtain⟨n,f⟩:∃n,l.length=n:=⟨_,rfl⟩
 revert l
 induction n with
 |zero=>intro l h f;obtain rfl:l=[]:=AX f;exact⟨.nil,λa=>Iff.rfl⟩
 |succ n p=>
 intro l h f;obtain⟨l,x,rfl⟩:∃L z,l=L++[z]:=by
  obtain c|⟨L,z,c⟩:=aV3 l
  .rw[c] at f;cases f
  .exact⟨L,z,by rw[c,List.concat_eq_append]⟩
 rw[List.pairwise_append] at h;obtain⟨i,j⟩:=p h.1 aj;rw[aKF];split
 .grind
 .rename_i r;refine⟨List.pairwise_append.2 ⟨i,List.pairwise_singleton _ _,λa g b k=>?_⟩,λa=>aj⟩;simp at k;subst k;have o:a<=b:=h.2.2 a ((j a).1 g) b ae;by_cases e:a=b
  .subst e;exfalso;obtain⟨L,z,q⟩:∃L z,I4 l=L++[z]:=by
    rcases aV3 (I4 l) with c|⟨L,z,c⟩
    .rw[c] at g;cases g
    .exact⟨L,z,by rw[c,List.concat_eq_append]⟩
   rw[q] at g r i;have m:z<=a:=h.2.2 z ((j z).1 aj) a ae;obtain d|d:=j4.1 g
   .have:=(List.pairwise_append.1 i).2.2 a d z ae;omega
   grind
  .omega
theorem eT(n a b:Int):cM n a b=some (decide (a<=n/\n<=b)):=by grind[cM,JT]
theorem cJ(n a b:Int):bY n a b=some (decide (a<=n/\n<=b)):=by grind[bY,Q1]
theorem map_take{β:Type}(f:O->β){l:List O}(h:k<l.length):(l.take (k+1)).map f=(l.take k).map f++[f l[k]]:=by grind[UR]
def gQ(c:Int):Int:=if c=0 then 8 else if c=1 then 16 else if c=2 then 40 else 0
def bL(c:Int):Int:=if c=0 then 12 else if c=1 then 20 else if c=2 then 44 else 0
def dI(c:Int):Int:=if c=0 then 4 else if c=1 then 2 else if c=2 then 1 else 0
def mP(h:0<=c/\c<=2):c=0\/c=1\/c=2:=aa
theorem bEE(h:¬(0<=c/\c<=2)):gQ c=0:=by unfold gQ;omega
theorem aSK(h:¬(0<=c/\c<=2)):bL c=0:=by unfold bL;omega
theorem aYZ(h:¬(0<=c/\c<=2)):dI c=0:=by unfold dI;omega
def pA(c:Int):0<=dI c/\dI c<=4:=by grind[dI]
def a4X(c:Int):0<=bL c/\bL c<=44:=by grind[bL]
def lB:0<dI c↔0<=c/\c<=2:=by grind[dI]
def qI(c:Int):pC c=some (gQ c):=by grind[pC,gQ]
theorem lW(c:Int):mT c=some (decide (0<=c/\c<=2)):=by simp[mT,eT]
theorem T2(c:Int):BK c=some (gQ c):=by
 unfold BK;rw[lW];by_cases h:0<=c/\c<=2
 .obtain rfl|rfl|rfl:=mP h<;>rfl
 grind[bEE]
def aLL(c:Int):E1 c=some (bL c):=by
 unfold E1;rw[cJ];by_cases h:0<=c/\c<=2
 .obtain rfl|rfl|rfl:=mP h<;>rfl
 grind[aSK]
def YP(c:Int):zU c=some (bL c):=by
 unfold zU;rw[lW];by_cases h:0<=c/\c<=2
 .obtain rfl|rfl|rfl:=mP h<;>rfl
 grind[aSK]
theorem kM(c:Int):oX c=some (dI c):=by
 unfold oX;rw[cJ];by_cases h:0<=c/\c<=2
 .obtain rfl|rfl|rfl:=mP h<;>rfl
 grind[aYZ]
def HI(c:Int):sE c=some (dI c):=by
 unfold sE;rw[lW];by_cases h:0<=c/\c<=2
 .obtain rfl|rfl|rfl:=mP h<;>rfl
 grind[aYZ]
def aDU(s:Int):II s=some (if 0<=s/\s<=23 then s/4 else -1):=by grind[II,cJ,cK]
def aB4(s:Int):CV s=some (if 0<=s/\s<=23 then s % 4 else -1):=by grind[CV,cJ]
def fW(s c:Int):Int:=if(0<=s/\s<=23)/\s % 4<dI c then s/4*64+8+s % 4*bL c else -1
def aAA{i:Int}(b:0<=i)(a:i<dI c):0<=i*bL c/\i*bL c+bL c<=56:=by unfold dI at a;unfold bL;grind
def z6(s c:Int):A4 s c=some (fW s c):=by
 unfold A4 NV fW;rw[aDU,aB4,kM,aLL];by_cases h:0<=s/\s<=23
 .have m:=pA c;have f:¬s/4<0:=aa
  have e:bB (dI c-1)=dI c-1:=cY;by_cases a:s % 4<dI c
  .have n:=aAA aa a;have l:=a4X c;have d:0<=s % 4/\s % 4<=dI c-1:=aa
   have b:¬dI c-1<s % 4:=aa
   have k:bB (s/4*64)=s/4*64:=cY;have j:bB (s/4*64+8)=s/4*64+8:=cY;have i:bB (s % 4*bL c)=s % 4*bL c:=cY;have g:bB (s/4*64+8+s % 4*bL c)=s/4*64+8+s % 4*bL c:=cY;simp[h,f,e,a,d,b,cJ,k,j,i,g]
  grind[cJ]
 .simp[h]
def CL(s:Int):wN s=some (decide (0<=s/\s<=23)):=by simp[wN,eT]
theorem FV(s c:Int):BO s c=some (fW s c):=by
 unfold BO E9 fW;rw[CL,lW,HI,YP];by_cases h:0<=s/\s<=23
 .have a:=pA c;rw[zC h.1,aJN h.1];grind[dI,cK,bL]
 .simp[h]
def ldF(l:al):Int:=l.foldl (λn x=>n*256+x) 0
def wD(l:al):Prop:=∀x∈l,0<=x/\x<=255
instance (l:al):Decidable (wD l):=by unfold wD;infer_instance
theorem aSL(h:k<l.length):ldF (l.take (k+1))=ldF (l.take k)*256+l[k]:=by grind[ldF,UR]
def aWQ(h:wD l):∀k,k<=l.length->0<=ldF (l.take k)/\ldF (l.take k)<256 ^ k:=by
 intro k;induction k with
 |zero=>grind[ldF]
 |succ k a=>
  intro b;have d:=a aa;have c:=h _ (dO (show k<l.length by omega));grind[aSL]
def bL6(h:k<=6):(256:Int) ^ k<=281474976710656:=by have a:(256:Nat) ^ k<=256 ^ 6:=Nat.pow_le_pow_right aa h;grind
def ld(b:al)(at_ w:Nat):Int:=ldF ((b.drop at_).take w)
def a7V{n:Int}(a:k<=6)(h:0<=n/\n<256 ^ k)(b:0<=x/\x<=255):bB (bB (n*256)+x)=n*256+x/\bB (bB (256*n)+x)=n*256+x:=by have:=bL6 a;grind[cK]
def a4Y{b:al}{a:Nat}(h:a+w<=b.length):((b.drop a).take w).length=w:=ah
def aSM{b:al}{a:Nat}(h:k<((b.drop a).take w).length)(c:a+k<b.length):((b.drop a).take w)[k]=b[a+k]:=ae
def aY0{b:al}(d:wD b)(a w:Nat):wD ((b.drop a).take w):=λx c=>d x (aHH (List.mem_of_mem_take c))
def qJ{b:al}(m:wD b){a:Nat}(o:w<=7)(h:a+w<=b.length)(p:b.length<=100000):pD b (a:Int) (w:Int)=some (ld b a w):=by
 unfold pD;have i:=a4Y h;have d:=aY0 m a w;have e:loop (A6 b (a:Int) (w:Int)) (0,0)=some (ld b a w):=by
  refine kL (f:=A6 b (a:Int) (w:Int)) w (λk=>(ldF (((b.drop a).take w).take k),(k:Int))) _ (λk q=>?_) ?_
  .have g:=aWQ d k aa;have c:k<((b.drop a).take w).length:=aa
   have l:=d _ (dO c);have j:=a7V aa g l;rw[aSM c aa] at j;have n:bB ((a:Int)+k)=((a+k:Nat):Int):=by grind[cK]
   simp only[A6];rw[cX,n,UO];simp only[aE,j.1,aSL c,aSM c (show a+k<b.length by omega)];grind[cK]
  grind[A6,ld]
 rw[e];rfl
def oG{b:al}(o:wD b){a:Nat}(p:w<=7)(h:a+w<=b.length)(q:b.length<=100000):kJ b (a:Int) (w:Int)=some (ld b a w):=by
 unfold kJ;have i:=a4Y h;have d:=aY0 o a w;have l:bB ((a:Int)+w)=((a+w:Nat):Int):=by grind[cK]
 have j:(b.take (a+w)).drop a=(b.drop a).take w:=by rw[List.drop_take];congr 1;omega
 rw[PH];have e:loop (yK b (a:Int) (w:Int)) (0,0)=some (ld b a w):=by
  refine kL (f:=yK b (a:Int) (w:Int)) w (λk=>(ldF (((b.drop a).take w).take k),(k:Int))) _ (λk r=>?_) ?_
  .have g:=aWQ d k aa;have c:k<((b.drop a).take w).length:=aa
   have m:=d _ (dO c);have n:=a7V aa g m;simp only[yK,l,MK,j];rw[cX,aZ c];simp only[aE,n.2,aSL c];rw[cY (x:=(k:Int)+1)];rfl
  .have:((b.drop a).take w).take w=(b.drop a).take w:=aj
   simp only[yK,l,MK,j,this,ld];grind
 rw[e];rfl
def SO(d:l.length<=maxLen)(f:Int->Bool):iK l (λx=>some (f x))=some (l.any f):=by
 unfold iK BM;have a:∀k:Nat,k<=l.length->loop (kX l (λx=>some (f x))) (k:Int)=some (if(l.drop k).any f then Out.ret ((k+(l.drop k).findIdx f:Nat):Int) else Out.brk ()):=by
  refine aXF l.length _ λk g=>?_;by_cases b:k<l.length
  .have e:l.drop k=l[k]::l.drop (k+1):=EU b;simp only[kX];rw[cX,aZ b,lZ (MZ b d),e];grind
  grind[kX]
 have c:loop (kX l (λx=>some (f x))) 0=_:=a 0 aa;rw[c];simp only[QL];by_cases h:l.any f=true
 .simp[h,uW]
 grind[uW,IP]
def BOk(b:al):Prop:=b.length<=1000/\wD b
instance (b:al):Decidable (BOk b):=by unfold BOk;infer_instance
def aOR{b:al}(d:b.length<=maxLen):RF b=some (decide (BOk b)):=by
 unfold RF;have a:loop (rE b) 0=some (if ∀x∈b,0<=x/\x<=255 then Out.brk () else Out.ret false):=by
  refine lA (f:=rE b) b (λk=>(k:Int)) (λx=>0<=x/\x<=255) _ _ (λk h c=>?_) (λk h c=>?_) ?_
  .simp only[rE];rw[cX,aZ h,lZ (MZ h d)];simp[cJ,c]
  .simp only[rE];rw[cX,aZ h];simp only[aE,cJ,c,decide_false,oH,aS]
  .simp[rE]
 rw[a];by_cases h:∀x∈b,0<=x/\x<=255
 .rw[aM h];have:BOk b↔b.length<=1000:=⟨λq=>q.1,λq=>⟨q,h⟩⟩;simp only[aE,PR,aAY,this];grind
 .rw[aO h];have:¬BOk b:=λq=>h q.2;grind[PR]
def V1{p:O->Prop}[DecidablePred p](l:List O):(l.any λx=>!decide (p x))=!decide (∀x∈l,p x):=aj
def aOS{b:al}(c:b.length<=maxLen):RN b=some (decide (BOk b)):=by
 unfold RN GM;have e:(λa=>J6 a)=λy:Int=>some (!decide (0<=y/\y<=255)):=by grind[J6,aC3,eT]
 rw[e,SO c,V1];by_cases h:b.length<=1000
 .have:BOk b↔∀x∈b,0<=x/\x<=255:=⟨λq=>q.2,λq=>⟨h,q⟩⟩;grind
 grind[BOk]
def gX(h:Heap):Prop:=h.Bytes.length=384/\h.Class.length=6/\wD h.Bytes/\∀c∈h.Class,-1<=c/\c<=2
instance (h:Heap):Decidable (gX h):=by unfold gX;infer_instance
def aOT(i:h.Bytes.length<=maxLen):RG h=some (decide (gX h)):=by
 unfold RG yG;by_cases l:h.Bytes.length=384
 .by_cases j:h.Class.length=6
  .rw[aOR i];have e:((h.Bytes.length:Int) != 384)=false:=ah
   have d:((h.Class.length:Int) != 6)=false:=ah
   simp only[e,d,aU,aT,aE];by_cases c:wD h.Bytes
   .have m:BOk h.Bytes:=⟨aa,c⟩;have b:loop (rF h) 0=some (if ∀x∈h.Class,-1<=x/\x<=2 then Out.brk () else Out.ret false):=by
     refine lA (f:=rF h) h.Class (λk=>(k:Int)) (λx=>-1<=x/\x<=2) _ _ (λk h g=>?_) (λk h g=>?_) ?_
     .simp only[rF];rw[cX,aZ h,cY];grind[cJ]
     .simp only[rF];rw[cX,aZ h];grind[cJ]
     grind[rF]
    rw[b];have:gX h↔∀x∈h.Class,-1<=x/\x<=2:=⟨λq=>q.2.2.2,λq=>⟨l,j,c,q⟩⟩;simp only[m,decide_true,eP,aU,aT,this];by_cases a:∀x∈h.Class,-1<=x/\x<=2
    .rw[aM a,cB a];rfl
    .rw[aO a,dV a];rfl
   grind[BOk,gX]
  grind[gX]
 grind[gX]
def MA(b:h.Bytes.length<=maxLen):O6 h=some (decide (gX h)):=by
 unfold O6 uX;by_cases i:h.Bytes.length=384
 .have f:((h.Bytes.length:Int) == 384)=true:=ah
  rw[aOS b];by_cases c:wD h.Bytes
  .have j:BOk h.Bytes:=⟨aa,c⟩;by_cases g:h.Class.length=6
   .have d:((h.Class.length:Int) == 6)=true:=ah
    have e:(λa=>N6 a)=λy:Int=>some (!decide (-1<=y/\y<=2)):=by grind[N6,eT]
    rw[e,SO aa,V1];grind[gX]
   grind[gX]
  grind[BOk,gX]
 grind[gX]
def iN(h:Heap)(p:Nat):al:=(h.Bytes.drop (p*64)).take 64
def cV(h:Heap)(p:Nat):Int:=h.Class.getD p 0
def qV(h:Heap)(p:Nat):Prop:=
 if cV h p<0 then ∀x∈iN h p,x=0
 else((iN h p).getD 0 0=171/\(iN h p).getD 1 0=cV h p/\(iN h p).getD 2 0=dI (cV h p))/\(∀x∈((iN h p).drop 3).take 5,x=0)/\∀i,i<(dI (cV h p)).toNat->1<=ld h.Bytes (p*64+8+i*(bL (cV h p)).toNat) 4/\ld h.Bytes (p*64+8+i*(bL (cV h p)).toNat) 4<=7
instance (h:Heap) (p:Nat):Decidable (qV h p):=by unfold qV;infer_instance
section
variable {h:Heap} (hs:gX h) {p:Nat} (hp:p<6)
include hs hp
theorem YQ:(iN h p).length=64:=a4Y (by have:=hs.1;omega)
theorem aDV(a:k<64):h.Bytes[p*64+k]'(by have:=hs.1;omega)=(iN h p)[k]'(by grind[YQ]):=(aSM (show k<((h.Bytes.drop (p*64)).take 64).length by have:=YQ hs hp;grind[iN]) _).symm
theorem aWR(a:k<64):h.Bytes[p*64+k]'(by have:=hs.1;omega)=(iN h p).getD k 0:=by grind[aDV]
theorem aEP:h.Class[p]'(by have:=hs.2.1;omega)=cV h p:=by grind[cV]
theorem aPQ:idx h.Class (p:Int)=some (cV h p):=by rw[aZ (by have:=hs.2.1;omega),aEP hs hp]
theorem aSN(a:k<64):idx h.Bytes (((p*64+k:Nat)):Int)=some ((iN h p).getD k 0):=by rw[aZ (by have:=hs.1;omega),aWR hs hp a]
theorem a9C:wD (iN h p):=aY0 hs.2.2.1 _ _
theorem wE(b:cV h p=c){i:Nat}(a:i<(dI c).toNat):(8+i*(bL c).toNat)+4<=64/\0<=(i:Int)*bL c/\((8+i*(bL c).toNat:Nat):Int)=8+(i:Int)*bL c:=by grind[dI,bL]
theorem bEF{i:Nat}(b:i<(dI (cV h p)).toNat):fW ((p:Int)*4+i) (cV h p)=((p*64+(8+i*(bL (cV h p)).toNat):Nat):Int):=by have c:=wE hs hp rfl b;have a:=pA (cV h p);unfold fW;grind
theorem aDW:U6 h (p:Int)=some (decide (qV h p)):=by
 have L:=hs.1;have C:=YQ hs hp;have g:bB ((p:Int)*64)=((p*64+0:Nat):Int):=by grind[cK]
 have H:bB (((p*64+0:Nat):Int)+1)=((p*64+1:Nat):Int):=by grind[cK]
 have G:bB (((p*64+0:Nat):Int)+2)=((p*64+2:Nat):Int):=by grind[cK]
 have F:bB (((p*64+0:Nat):Int)+3)=((p*64+3:Nat):Int):=by grind[cK]
 have t:bB (((p*64+0:Nat):Int)+8)=((p*64+8:Nat):Int):=by grind[cK]
 have m:bB (((p*64+0:Nat):Int)+64)=((p*64+64:Nat):Int):=by grind[cK]
 unfold U6;rw[aPQ hs hp];simp only[aE];by_cases s:cV h p<0
 .simp only[s,decide_true,aS,g];have d:loop (uR h (p:Int)) (((p*64+0:Nat)):Int)=some (if ∀x∈iN h p,x=0 then Out.brk () else Out.ret false):=by
   refine lA (f:=uR h (p:Int)) (iN h p) (λk=>((p*64+k:Nat):Int)) (λx=>x=0) _ _ (λk b e=>?_) (λk b e=>?_) ?_
   .simp only[uR,g,m];rw[cX,UO,aDV hs hp aa,cY];grind
   .simp only[uR,g,m];rw[cX,UO,aDV hs hp aa];grind
   simp_all[uR]
  rw[d];have j:qV h p↔∀x∈iN h p,x=0:=by simp_all[qV]
  by_cases c:∀x∈iN h p,x=0
  .rw[aM c,cB (j.2 c)];rfl
  .rw[aO c,dV (λq=>c (j.1 q))];rfl
 .have j:qV h p↔((iN h p).getD 0 0=171/\(iN h p).getD 1 0=cV h p/\(iN h p).getD 2 0=dI (cV h p))/\(∀x∈((iN h p).drop 3).take 5,x=0)/\∀i,i<(dI (cV h p)).toNat->1<=ld h.Bytes (p*64+8+i*(bL (cV h p)).toNat) 4/\ld h.Bytes (p*64+8+i*(bL (cV h p)).toNat) 4<=7:=by simp_all[qV,aO]
  simp only[s,decide_false,aU,aT,g,H,G,aSN hs hp (show 0<64 by omega),aSN hs hp (show 1<64 by omega),aSN hs hp (show 2<64 by omega),aE,kM];by_cases a0:(iN h p).getD 0 0=171
  .by_cases J:(iN h p).getD 1 0=cV h p
   .by_cases I:(iN h p).getD 2 0=dI (cV h p)
    .have B:((iN h p).getD 0 0 != 171)=false:=aj
     have A:((iN h p).getD 1 0 != cV h p)=false:=aj
     have z:((iN h p).getD 2 0 != dI (cV h p))=false:=aj
     simp only[B,A,z,aU,aT,m4,g,F];have v:(((iN h p).drop 3).take 5).length=5:=by simp[C]
     have d:loop (uU h (p:Int)) (((p*64+3:Nat)):Int)=some (if ∀x∈((iN h p).drop 3).take 5,x=0 then Out.brk () else Out.ret false):=by
      refine lA (f:=uU h (p:Int)) (((iN h p).drop 3).take 5) (λk=>((p*64+(3+k):Nat):Int)) (λx=>x=0) _ _ (λk b e=>?_) (λk b e=>?_) ?_
      .simp only[uU,g,t];rw[cX,UO,aDV hs hp aa,cY,<-aSM b aa,e];simp;omega
      .simp only[uU,g,t];rw[cX,UO,aDV hs hp aa,<-aSM b aa];grind
      simp_all[uU]
     rw[d];by_cases c:∀x∈((iN h p).drop 3).take 5,x=0
     .rw[aM c];simp only[aE,aCY,aCX];have l:loop (uS h (p:Int) (cV h p)) 0=some (if ∀i,i<(dI (cV h p)).toNat->1<=ld h.Bytes (p*64+8+i*(bL (cV h p)).toNat) 4/\ld h.Bytes (p*64+8+i*(bL (cV h p)).toNat) 4<=7 then Out.brk () else Out.ret false):=by
       have u:=pA (cV h p);have o:∀k:Nat,k<(dI (cV h p)).toNat->uS h (p:Int) (cV h p) (k:Int)=if 1<=ld h.Bytes (p*64+8+k*(bL (cV h p)).toNat) 4/\ld h.Bytes (p*64+8+k*(bL (cV h p)).toNat) 4<=7 then some (.next ((k+1:Nat):Int)) else some (.stop (Out.ret false)):=by
        intro k b;have K:=wE hs hp rfl b;have y:wL (p:Int) (k:Int)=some ((p:Int)*4+k):=by
         unfold wL A5;rw[cJ,cJ];have E:(0:Int)<=p/\(p:Int)<=5:=aa
         have D:(0:Int)<=k/\(k:Int)<=3:=aa
         simp only[aE,E,D,and_self,decide_true,eP,aU,aT];grind[cK]
        have r:=qJ hs.2.2.1 (a:=p*64+(8+k*(bL (cV h p)).toNat)) (w:=4) aa aa aa;simp only[uS,kM,aE];rw[cX,y];simp only[aE,z6,bEF hs hp b];rw[show((4:Nat):Int)=4 from rfl] at r;rw[r,aCO,cY (x:=(k:Int)+1)];simp only[aE,cJ];grind
       refine CK (f:=uS h (p:Int) (cV h p)) (dI (cV h p)).toNat (λk=>(k:Int)) (λi=>1<=ld h.Bytes (p*64+8+i*(bL (cV h p)).toNat) 4/\ld h.Bytes (p*64+8+i*(bL (cV h p)).toNat) 4<=7) _ _ (λk b e=>?_) (λk b e=>?_) ?_
       .grind
       .rw[o k b,aO e]
       .simp only[uS,kM,aE];rw[qH]
      rw[l];by_cases n:∀i,i<(dI (cV h p)).toNat->1<=ld h.Bytes (p*64+8+i*(bL (cV h p)).toNat) 4/\ld h.Bytes (p*64+8+i*(bL (cV h p)).toNat) 4<=7
      .rw[aM n,cB (j.2 ⟨⟨a0,J,I⟩,c,n⟩)];rfl
      .rw[aO n,dV (λq=>n (j.1 q).2.2)];rfl
     .rw[aO c,dV (λq=>c (j.1 q).2.1)];rfl
    simp_all[m4]
   simp_all[m4]
  simp_all[m4]
end
def aDX(b:l.length<=maxLen):O7 l=some (decide (∀x∈l,x=0)):=by
 unfold O7;have e:(λa=>N7 a)=λy:Int=>some (!decide (y=0)):=by grind[N7]
 simp_all[SO,V1]
section
variable {h:Heap} (hs:gX h) {p:Nat} (hp:p<6)
include hs hp
theorem bJX:(h.Bytes.take ((p+1)*64)).drop (p*64)=iN h p:=by grind[iN,List.drop_take]
theorem bID{a:Nat}(b:a+4<=64):ld (iN h p) a 4=ld h.Bytes (p*64+a) 4:=by grind[ld,iN,List.drop_take,List.drop_drop]
theorem a4Z(a:k<64):idx (iN h p) (k:Int)=some ((iN h p).getD k 0):=by grind[YQ,aZ]
theorem aDY:VC h (p:Int)=some (decide (qV h p)):=by
 have I:=hs.1;have H:=YQ hs hp;have G:(iN h p).length<=maxLen:=by grind[maxLen]
 have u:bB ((p:Int)*64)=((p*64:Nat):Int):=by grind[cK]
 have t:bB (bB ((p:Int)+1)*64)=(((p+1)*64:Nat):Int):=by grind[cK]
 have o:=a4Z hs hp (show 0<64 by omega);have n:=a4Z hs hp (show 1<64 by omega);have m:=a4Z hs hp (show 2<64 by omega);rw[show((0:Nat):Int)=0 from rfl] at o;rw[show((1:Nat):Int)=1 from rfl] at n;rw[show((2:Nat):Int)=2 from rfl] at m;unfold VC;rw[aPQ hs hp];simp only[aE,u,t,MK,bJX hs hp];rw[PH];by_cases B:cV h p<0
 .simp_all[qV,aDX]
 .have r:qV h p↔((iN h p).getD 0 0=171/\(iN h p).getD 1 0=cV h p/\(iN h p).getD 2 0=dI (cV h p))/\(∀x∈((iN h p).drop 3).take 5,x=0)/\∀i,i<(dI (cV h p)).toNat->1<=ld h.Bytes (p*64+8+i*(bL (cV h p)).toNat) 4/\ld h.Bytes (p*64+8+i*(bL (cV h p)).toNat) 4<=7:=by simp_all[qV,aO]
  simp only[B,decide_false,aU,aT,o,n,m,aE,HI];by_cases a0:(iN h p).getD 0 0=171
  .by_cases E:(iN h p).getD 1 0=cV h p
   .by_cases D:(iN h p).getD 2 0=dI (cV h p)
    .have j:((iN h p).getD 0 0 != 171)=false:=aj
     have g:((iN h p).getD 1 0 != cV h p)=false:=aj
     have e:((iN h p).getD 2 0 != dI (cV h p))=false:=aj
     have z:((iN h p).take (8:Int).toNat).drop (3:Int).toNat=((iN h p).drop 3).take 5:=by grind[List.drop_take]
     simp only[j,g,e,aU,aT,lI,z];rw[PH,aDX aj];by_cases s:∀x∈((iN h p).drop 3).take 5,x=0
     .simp only[cB s,aE,eP,aU,aT,HI];have b:loop (uY h (p:Int) (cV h p) (dI (cV h p))) 0=some (if ∀i,i<(dI (cV h p)).toNat->1<=ld h.Bytes (p*64+8+i*(bL (cV h p)).toNat) 4/\ld h.Bytes (p*64+8+i*(bL (cV h p)).toNat) 4<=7 then Out.brk () else Out.ret false):=by
       have y:=pA (cV h p);have v:∀k:Nat,k<(dI (cV h p)).toNat->uY h (p:Int) (cV h p) (dI (cV h p)) (k:Int)=if 1<=ld h.Bytes (p*64+8+k*(bL (cV h p)).toNat) 4/\ld h.Bytes (p*64+8+k*(bL (cV h p)).toNat) 4<=7 then some (.next ((k+1:Nat):Int)) else some (.stop (Out.ret false)):=by
        intro k d;have F:=wE hs hp rfl d;have C:bB (8+bB ((k:Int)*bL (cV h p)))=((8+k*(bL (cV h p)).toNat:Nat):Int):=by grind[cK]
        have l:=oG (a9C hs hp) (a:=8+k*(bL (cV h p)).toNat) (w:=4) aa aa aa;rw[show((4:Nat):Int)=4 from rfl,bID hs hp aa] at l;simp only[uY,YP,aE,u,t,MK,bJX hs hp,C];rw[cX,l,aCO,cY (x:=(k:Int)+1)];simp only[aE,eT];grind
       refine CK (f:=uY h (p:Int) (cV h p) (dI (cV h p))) (dI (cV h p)).toNat (λk=>(k:Int)) (λi=>1<=ld h.Bytes (p*64+8+i*(bL (cV h p)).toNat) 4/\ld h.Bytes (p*64+8+i*(bL (cV h p)).toNat) 4<=7) _ _ (λk d A=>?_) (λk d A=>?_) ?_
       .grind
       .simp_all
       .simp only[uY];rw[qH]
      rw[b];by_cases c:∀i,i<(dI (cV h p)).toNat->1<=ld h.Bytes (p*64+8+i*(bL (cV h p)).toNat) 4/\ld h.Bytes (p*64+8+i*(bL (cV h p)).toNat) 4<=7
      .rw[aM c,cB (r.2 ⟨⟨a0,E,D⟩,s,c⟩)];rfl
      .rw[aO c,dV (λq=>c (r.1 q).2.2)];rfl
     grind
    .have j:((iN h p).getD 0 0 != 171)=false:=aj
     have g:((iN h p).getD 1 0 != cV h p)=false:=aj
     have e:((iN h p).getD 2 0 != dI (cV h p))=true:=aj
     simp_all[lI]
   simp_all[lI]
  simp_all[lI]
end
instance (h:Heap):Decidable (∀p,p<6->qV h p):=Nat.decidableBallLT 6 λp _=>qV h p
def HOk(h:Heap):Prop:=gX h/\∀p,p<6->qV h p
instance (h:Heap):Decidable (HOk h):=by unfold HOk;infer_instance
def aSO(g:h.Bytes.length<=maxLen):U7 h=some (decide (HOk h)):=by
 unfold U7;rw[aOT g];by_cases a:gX h
 .have c:loop (BD h) 0=some (if ∀p,p<6->qV h p then Out.brk () else Out.ret false):=by
   refine CK (f:=BD h) 6 (λk=>(k:Int)) (λp=>qV h p) _ _ (λk e d=>?_) (λk e d=>?_) ?_
   .simp only[BD];rw[cX,aDW a e,cY,cB d];rfl
   .simp only[BD];rw[cX,aDW a e,dV d];rfl
   .rfl
  simp only[aE,cB a,eP,aU,aT];rw[c];by_cases b:∀p,p<6->qV h p
  .rw[aM b,cB (show HOk h from⟨a,b⟩)];rfl
  .rw[aO b,dV (λq:HOk h=>b q.2)];rfl
 grind[HOk]
def T3(g:h.Bytes.length<=maxLen):O8 h=some (decide (HOk h)):=by
 unfold O8;rw[MA g];by_cases a:gX h
 .have c:loop (BN h) 0=some (if ∀p,p<6->qV h p then Out.brk () else Out.ret false):=by
   refine CK (f:=BN h) 6 (λk=>(k:Int)) (λp=>qV h p) _ _ (λk e d=>?_) (λk e d=>?_) ?_
   .simp only[BN];rw[cX,aDY a e,cY,cB d];rfl
   .simp only[BN];rw[cX,aDY a e,dV d];rfl
   .rfl
  simp only[aE,cB a,eP,aU,aT];rw[c];by_cases b:∀p,p<6->qV h p
  .rw[aM b,cB (show HOk h from⟨a,b⟩)];rfl
  .rw[aO b,dV (λq:HOk h=>b q.2)];rfl
 grind[HOk]
def bH(h:Heap)(s:Int):Int:=if(0<=s/\s<=23)/\s % 4<dI (cV h (s/4).toNat) then cV h (s/4).toNat else -1
def xV(a:0<=bH h s):(0<=s/\s<=23)/\s % 4<dI (cV h (s/4).toNat)/\bH h s=cV h (s/4).toNat:=by unfold bH at a ⊢;omega
theorem iY(c:gX h)(s:Int):lG h s=some (bH h s):=by
 unfold lG yC bH;rw[aDU,aB4];by_cases a:0<=s/\s<=23
 .obtain⟨k,rfl⟩:=bF9 a.1;have d:k/4<6:=aa
  have f:((k:Int)/4)=((k/4:Nat):Int):=aa
  have e:=aPQ c d;have b:¬((k/4:Nat):Int)<0:=aa
  simp only[a,and_self,aS,aE,f,b,decide_false,aU,aT,e,MK,true_and];grind[aYZ,kM]
 .simp[a]
theorem jQ(b:gX h)(s:Int):lJ h s=some (bH h s):=by
 unfold lJ GN bH;rw[CL];by_cases a:0<=s/\s<=23
 .obtain⟨k,rfl⟩:=bF9 a.1;have d:k/4<6:=aa
  have i:((k:Int)/4)=((k/4:Nat):Int):=aa
  have e:=aPQ b d;have g:bB (Int.tdiv (k:Int) 4)=((k/4:Nat):Int):=by grind[cK]
  simp only[a,and_self,decide_true,eP,aU,aS,aE,i,g,aT,e,MK,true_and,FV];by_cases f:(k:Int) % 4<dI (cV h (k/4))
  .have j:=aAA (c:=cV h (k/4)) aa f;have l:¬fW (k:Int) (cV h (k/4))<0:=by unfold fW;omega
   grind
  simp_all[fW,aO]
 .simp[a]
def kN(h:Heap)(s:Int):Int:=ld h.Bytes (fW s (bH h s)).toNat 4
def MB(b:0<=bH h s):0<=fW s (bH h s)/\fW s (bH h s)+4<=384:=by
 obtain⟨i,f,d⟩:=xV b;rw[d];have g:=aAA (c:=cV h (s/4).toNat) aa f;have a:0<bL (cV h (s/4).toNat):=by have:0<=cV h (s/4).toNat/\cV h (s/4).toNat<=2:=lB.1 aa;obtain e|e|e:=mP this<;>rw[e]<;>decide
 have:4<=bL (cV h (s/4).toNat):=by have:0<=cV h (s/4).toNat/\cV h (s/4).toNat<=2:=lB.1 aa;obtain e|e|e:=mP this<;>rw[e]<;>decide
 unfold fW;omega
theorem tP(b:gX h)(e:0<=bH h s):A7 h s=some (kN h s):=by have d:=MB e;unfold A7;rw[iY b];simp only[aE,z6];have c:=qJ b.2.2.1 (a:=(fW s (bH h s)).toNat) (w:=4) aa (by have:=b.1;omega) (by have:=b.1;omega);rw[show((4:Nat):Int)=4 from rfl,Int.toNat_of_nonneg d.1] at c;rw[c];rfl
theorem OX(b:gX h)(d:0<=bH h s):HU h s=some (kN h s):=by
 have f:=MB d;have c:h.Bytes.length<=maxLen:=by rw[b.1];simp[maxLen]
 unfold HU xC;rw[MA c,jQ b];have e:=oG b.2.2.1 (a:=(fW s (bH h s)).toNat) (w:=4) aa (by have:=b.1;omega) (by have:=b.1;omega);grind[FV,kN]
def gY(l:ax):al:=l.flatMap bD.bA
def fC(l:aD):al:=gY l.Global++gY l.Own
def LOk(l:aD):Prop:=l.Global.length=3/\l.Own.length=9/\(∀s∈l.Own,s.bA.length<=2)/\(∀x∈fC l,0<=x/\x<=23)/\(fC l).Nodup
instance (l:aD):Decidable (LOk l):=by unfold LOk;infer_instance
theorem YR{l:ax}(h:k<l.length):gY (l.take (k+1))=gY (l.take k)++l[k].bA:=by grind[gY,UR]
def aY1(l:ax)(k:Nat):(gY (l.take k)).length<=(gY l).length:=by grind[gY,aL2]
theorem aSP(l:ax)(h:k<l.length):l[k].bA.length<=(gY l).length:=by have a:=aY1 l (k+1);grind[YR]
theorem aF7{l:aD}(h:(fC l).length<=1073741824)(i:l.Global.length<=maxLen)(g:l.Own.length<=maxLen):SZ l=some (fC l):=by
 have c:(gY l.Global).length+(gY l.Own).length<=1073741824:=by grind[fC]
 unfold SZ;have e:loop (E3 l) ([],0)=some (gY l.Global):=by
  refine kL (f:=E3 l) l.Global.length (λk=>(gY (l.Global.take k),(k:Int))) _ (λk a=>?_) ?_
  .have b:=aY1 l.Global (k+1);rw[YR a] at b;simp only[E3];rw[cX,aZ a];grind[b7,YR,lZ]
  grind[E3]
 rw[e];simp only[aE,aFN,aFM];have d:loop (E2 l) (gY l.Global,0)=some (fC l):=by
  have:=kL (f:=E2 l) l.Own.length (λk=>(gY l.Global++gY (l.Own.take k),(k:Int))) (fC l) (λk a=>?_) ?_
  .grind[gY]
  .have b:=aY1 l.Own (k+1);rw[YR a] at b;simp only[E2];rw[cX,aZ a];grind[b7,YR,lZ]
  grind[E2,fC]
 rw[d];rfl
theorem OY(d:l.length<=maxLen)(x:Int):HR l x=some (decide (x∈l)):=by
 unfold HR;have a:loop (zL l x) 0=some (if ∀y∈l,y≠x then Out.brk () else Out.ret true):=by
  refine lA (f:=zL l x) l (λk=>(k:Int)) (λy=>y≠x) _ _ (λk h b=>?_) (λk h b=>?_) ?_
  .simp only[zL];rw[cX,aZ h,lZ (MZ h d)];have:(l[k] == x)=false:=by simpa using b
   simp only[aE,this,aU,aT]
  .simp only[zL];rw[cX,aZ h];have:(l[k] == x)=true:=by simpa using b
   simp only[aE,this,aS]
  .simp[zL]
 rw[a];by_cases h:x∈l
 .rw[aO (λq=>q x h rfl),cB h];rfl
 .rw[aM (λy c (e:y=x)=>h (e ▸ c)),dV h];rfl
theorem aAB(l:al):l.Nodup↔∀k (h:k<l.length),l[k]∉l.take k:=by grind[List.pairwise_iff_getElem,List.mem_take_iff_getElem]
def aOU{l:aD}(h:(fC l).length<=1073741824):RH l=some (decide (LOk l)):=by
 unfold RH GG;by_cases o:l.Global.length=3
 .by_cases n:l.Own.length=9
  .have j:((l.Global.length:Int) != 3)=false:=ah
   have m:((l.Own.length:Int) != 9)=false:=ah
   simp only[j,m,aU,aT];have t:loop (rH l) 0=some (if ∀s∈l.Own,s.bA.length<=2 then Out.brk () else Out.ret false):=by
    refine lA (f:=rH l) l.Own (λk=>(k:Int)) (λs=>s.bA.length<=2) _ _ (λk a u=>?_) (λk a u=>?_) ?_
    .simp only[rH];rw[cX,aZ a,cY];simp only[aE];rw[qH];rfl
    .simp only[rH];rw[cX,aZ a];simp only[aE];rw[cX]
    .simp[rH]
   rw[t];by_cases i:∀s∈l.Own,s.bA.length<=2
   .rw[aM i];simp only[aE,aA0,aAZ];rw[aF7 h (by rw[o];simp[maxLen]) (by rw[n];simp[maxLen])];simp only[aE];have r:loop (rG (fC l)) 0=some (if ∀k,k<(fC l).length->(0<=(fC l).getD k 0/\(fC l).getD k 0<=23)/\(fC l).getD k 0∉(fC l).take k then Out.brk () else Out.ret false):=by
     have d:∀k,k<(fC l).length->rG (fC l) (k:Int)=if(0<=(fC l).getD k 0/\(fC l).getD k 0<=23)/\(fC l).getD k 0∉(fC l).take k then some (.next ((k+1:Nat):Int)) else some (.stop (Out.ret false)):=by
      intro k a;have e:(fC l).getD k 0=(fC l)[k]:=by rw[MQ,mA a];rfl
      rw[e];simp only[rG];rw[cX,aZ a];simp only[aE,cJ,GF];by_cases q:0<=(fC l)[k]/\(fC l)[k]<=23
      .rw[cB q];simp only[eP,aU,aT,MK,QL];rw[PH,OY (by simp[maxLen];omega),cY];by_cases c:(fC l)[k]∈(fC l).take k
       .rw[aO (λx=>x.2 c),cB c];rfl
       .rw[aM ⟨q,c⟩,dV c];rfl
      .rw[dV q];simp only[oH,aS];rw[aO (λx=>q x.1)]
     refine CK (f:=rG (fC l)) (fC l).length (λk=>(k:Int)) (λk=>(0<=(fC l).getD k 0/\(fC l).getD k 0<=23)/\(fC l).getD k 0∉(fC l).take k) _ _ (λk a g=>?_) (λk a g=>?_) ?_
     .rw[d k a,aM g]
     .rw[d k a,aO g]
     .simp[rG]
    rw[r];have b:LOk l↔∀k,k<(fC l).length->(0<=(fC l).getD k 0/\(fC l).getD k 0<=23)/\(fC l).getD k 0∉(fC l).take k:=by
     have e:∀k (a:k<(fC l).length),(fC l).getD k 0=(fC l)[k]:=λk a=>aj
     constructor
     .rintro⟨_,_,_,p,c⟩ k a;rw[e k a];exact⟨p _ (dO a),(aAB _).1 c k a⟩
     .intro q;refine⟨o,n,i,λx g=>?_,(aAB _).2 λk a=>?_⟩
      .obtain⟨k,a,rfl⟩:=aFI.1 g;have:=(q k a).1;rw[e k a] at this;exact this
      .have:=(q k a).2;rw[e k a] at this;exact this
    by_cases q:LOk l
    .rw[aM (b.1 q),cB q];rfl
    .rw[aO (λx=>q (b.2 x)),dV q];rfl
   .rw[aO i,dV (λq:LOk l=>i q.2.2.1)];rfl
  .have j:((l.Global.length:Int) != 3)=false:=ah
   have m:((l.Own.length:Int) != 9)=true:=ah
   simp_all[LOk]
 .have j:((l.Global.length:Int) != 3)=true:=ah
  simp_all[LOk]
def FW:az->al->Option az
 |met,[]=>some met
 |met,x::r=>if(0<=x/\x<=23)/\met.getD x.toNat true=false then FW (met.set x.toNat true) r else none
theorem aWS:∀{xs:al} {met m:az},FW met xs=some m->m.length=met.length
 |[],met,m,h=>by grind[FW]
 |x::r,met,m,h=>by
  simp only[FW] at h;split at h
  .have:=aWS h;grind
  .cases h
def aJP:∀(a b:al) (met:az),FW met (a++b)=(FW met a).bind λm=>FW m b
 |[],b,met=>rfl
 |x::r,b,met=>by
  simp only[aCN,FW];split
  .exact aJP r b _
  .rfl
def aG6:∀(xs:al) (met:az),met.length=24->((FW met xs).isSome=true↔(∀x∈xs,0<=x/\x<=23)/\xs.Nodup/\∀x∈xs,met.getD x.toNat true=false)
 |[],met,hm=>by simp[FW]
 |x::r,met,hm=>by
  simp only[FW];by_cases h:(0<=x/\x<=23)/\met.getD x.toNat true=false
  .rw[aM h,aG6 r _ aj];grind
  grind
def aY2:Option az->Out az Bool
 |some m=>.brk m
 |none=>.ret false
def bOB{s:bD}(l:s.bA.length<=maxLen):∀d k (met:az),k+d=s.bA.length->met.length=24->loop (yI s) ((k:Int),met)=some (aY2 (FW met (s.bA.drop k))):=by
 intro d;induction d with
 |zero=>
  intro k met f c;rw[bR (r:=Out.brk met) (by grind[yI]),List.drop_eq_nil_of_le aa];rfl
 |succ d i=>
  intro k met f c;have b:k<s.bA.length:=aa
  have h:s.bA.drop k=s.bA[k]::s.bA.drop (k+1):=EU b;have a:yI s ((k:Int),met)=if(0<=s.bA[k]/\s.bA[k]<=23)/\met.getD s.bA[k].toNat true=false then some (.next (((k+1:Nat):Int),met.set s.bA[k].toNat true)) else some (.stop (Out.ret false)):=by
   simp only[yI];rw[cX,aZ b];simp only[aE,CL];generalize s.bA[k]=x;by_cases q:0<=x/\x<=23
   .obtain⟨j,rfl⟩:=bF9 q.1;have g:j<met.length:=aa
    have e:met.getD j true=met[j]:=aj
    simp only[q,and_self,decide_true,eP,aU,aT,yH,MK,true_and,e];rw[PH,aZ g];simp only[aE];cases met[j]
    .simp only[aU,aT,aS];grind[b7,lZ]
    .simp
   .rw[dV q];simp only[oH,aS,yH];grind
  rw[h,FW];by_cases q:(0<=s.bA[k]/\s.bA[k]<=23)/\met.getD s.bA[k].toNat true=false
  .rw[aM q] at a ⊢;grind[bO]
  .rw[aO q] at a ⊢;rw[bR a];rfl
def aMH(l:ax):Prop:=∀s∈l,s.bA.length<=2
instance (l:ax):Decidable (aMH l):=by unfold aMH;infer_instance
def bOC{l:aD}(x:l.Own.length=9)(hn:(l.Own++l.Global).length<=1000)(p:∀s∈l.Own++l.Global,s.bA.length<=maxLen):∀d k (met:az),k+d=(l.Own++l.Global).length->met.length=24 ->
  loop (yJ l) ((k:Int),met)=some (if aMH (((l.Own++l.Global).drop k).take (9-k))/\(FW met (gY ((l.Own++l.Global).drop k))).isSome=true then Out.brk () else Out.ret false):=by
 intro d;induction d with
 |zero=>
  intro k met r i;rw[List.drop_eq_nil_of_le aa,aM ⟨by simp[aMH],rfl⟩];simp_all[bR,yJ]
 |succ d o=>
  intro k met r i;have c:k<(l.Own++l.Global).length:=aa
  have v:(l.Own++l.Global).drop k=(l.Own++l.Global)[k]::(l.Own++l.Global).drop (k+1):=EU c;have g:=p _ (dO c);have u:gY ((l.Own++l.Global).drop k)=(l.Own++l.Global)[k].bA++gY ((l.Own++l.Global).drop (k+1)):=by grind[gY]
  have h:∀b:Bool,rJ (k:Int) met (l.Own++l.Global)[k] b=if b then some (.stop (Out.ret false)) else(match FW met (l.Own++l.Global)[k].bA with|some m=>some (.next (((k+1:Nat):Int),m))|none=>some (.stop (Out.ret false))):=by
   intro b;have j:=bOB g _ 0 met (aAQ _) i;rw[show((0:Nat):Int)=0 from rfl,QL] at j;unfold rJ;rw[j];cases b
   .simp only[aU,aT,aE];cases FW met (l.Own++l.Global)[k].bA with
    |none=>rfl
    |some m=>simp only[aY2,aA4,aA3];rw[cY];rfl
   .rfl
  have a:yJ l ((k:Int),met)=rJ (k:Int) met (l.Own++l.Global)[k] (decide (k<9/\2<(l.Own++l.Global)[k].bA.length)):=by
   simp only[yJ];rw[aM aj,aZ c];simp only[aE];by_cases w:k<9
   .rw[cX];congr 1
    (simp_all;omega)
   grind
  rw[h] at a;by_cases n:k<9/\2<(l.Own++l.Global)[k].bA.length
  .rw[cB n] at a;simp only[aS] at a;rw[bR a,aO];rintro⟨q,_⟩;have e:9-k=(9-(k+1))+1:=aa
   rw[v,e,List.take_succ_cons] at q;have:=q _ aFH;omega
  .rw[dV n] at a;simp only[aU,aT] at a;have f:aMH (((l.Own++l.Global).drop k).take (9-k))↔aMH (((l.Own++l.Global).drop (k+1)).take (9-(k+1))):=by
    unfold aMH;by_cases w:k<9
    .have e:9-k=(9-(k+1))+1:=aa
     simp_all
    .have e:9-k=0:=aa
     have y:9-(k+1)=0:=aa
     simp_all
   rw[u,aJP];cases t:FW met (l.Own++l.Global)[k].bA with
   |none=>
    simp_all[bR]
   |some m=>
    rw[t] at a;rw[bO a,o (k+1) m aa (by grind[aWS])];simp_all
theorem aB5{l:aD}(h:(fC l).length<=1073741824):sD l=some (decide (LOk l)):=by
 unfold sD GJ;by_cases p:l.Global.length=3
 .by_cases o:l.Own.length=9
  .have m:((l.Global.length:Int) != 3)=false:=ah
   have n:((l.Own.length:Int) != 9)=false:=ah
   simp only[m,n,aU,aT];rw[PH];have e:∀s∈l.Own++l.Global,s.bA.length<=maxLen:=by grind[fC,maxLen,aFI,aSP]
   have b:=bOC o ah e (l.Own++l.Global).length 0 (List.replicate 24 false) aa rfl;rw[show((0:Nat):Int)=0 from rfl,QL,Nat.sub_zero] at b;rw[b];have r:(l.Own++l.Global).take 9=l.Own:=aj
   have t:gY (l.Own++l.Global)=gY l.Own++gY l.Global:=by simp[gY]
   have f:∀j:Nat,j<24->(List.replicate 24 false).getD j true=false:=ai
   have a:LOk l↔aMH ((l.Own++l.Global).take 9)/\(FW (List.replicate 24 false) (gY (l.Own++l.Global))).isSome=true:=by
    rw[aG6 _ _ rfl,r,t];have d:(gY l.Own++gY l.Global).Perm (fC l):=List.perm_append_comm;constructor
    .rintro⟨_,_,k,i,g⟩;exact⟨k,λx c=>i x (d.mem_iff.1 c),d.nodup_iff.2 g,λx c=>f _ aj⟩
    .rintro⟨k,i,g,_⟩;exact⟨p,o,k,λx c=>i x (d.mem_iff.2 c),d.nodup_iff.1 g⟩
   by_cases q:LOk l
   .rw[aM (a.1 q),cB q];rfl
   .rw[aO (λx=>q (a.2 x)),dV q];rfl
  .have m:((l.Global.length:Int) != 3)=false:=ah
   have n:((l.Own.length:Int) != 9)=true:=ah
   simp_all[LOk]
 .have m:((l.Global.length:Int) != 3)=true:=ah
  simp_all[LOk]
def MC(h:Heap)(l:al)(c:Int):Prop:=∀x∈l,bH h x=c/\kN h x<=6
instance (h:Heap) (l:al) (c:Int):Decidable (MC h l c):=by unfold MC;infer_instance
def YS(j:gX h)(m:l.length<=maxLen)(n:0<=c):E4 h l c=some (decide (MC h l c)):=by
 unfold E4;have d:loop (pJ h l c) 0=some (if ∀x∈l,bH h x=c/\kN h x<=6 then Out.brk () else Out.ret false):=by
  have b:∀k (a:k<l.length),pJ h l c (k:Int)=if bH h l[k]=c/\kN h l[k]<=6 then some (.next ((k+1:Nat):Int)) else some (.stop (Out.ret false)):=by
   intro k a;simp only[pJ];rw[cX,aZ a];generalize l[k]=x;simp only[aE,iY j,C1];by_cases q:bH h x=c
   .have e:(bH h x != c)=false:=by simp only[bne_eq_false_iff_eq];exact q
    simp only[e,aU,aT,tP j (show 0<=bH h x by omega),aE,lZ (MZ a m)];by_cases i:kN h x<=6
    .rw[qH,aM ⟨q,i⟩]
    .rw[cX,aO (λx=>i x.2)]
   .have e:(bH h x != c)=true:=by simp only[bne_iff_ne];exact q
    simp only[e,aS];rw[aO (λx=>q x.1)]
  refine lA (f:=pJ h l c) l (λk=>(k:Int)) (λx=>bH h x=c/\kN h x<=6) _ _ (λk a g=>?_) (λk a g=>?_) ?_
  .rw[b k a,aM g]
  .rw[b k a,aO g]
  .simp[pJ]
 rw[d];by_cases q:∀x∈l,bH h x=c/\kN h x<=6
 .rw[aM q,cB (show MC h l c from q)];rfl
 .rw[aO q,dV (show ¬MC h l c from q)];rfl
def YT(j:gX h){s:bD}(l:s.bA.length<=maxLen)(m:0<=c):FE h s c=some (decide (MC h s.bA c)):=by
 unfold FE;have d:loop (pL h s c) 0=some (if ∀x∈s.bA,bH h x=c/\kN h x<=6 then Out.brk () else Out.ret false):=by
  have b:∀k (a:k<s.bA.length),pL h s c (k:Int)=if bH h s.bA[k]=c/\kN h s.bA[k]<=6 then some (.next ((k+1:Nat):Int)) else some (.stop (Out.ret false)):=by
   intro k a;simp only[pL];rw[cX,aZ a];generalize s.bA[k]=x;simp only[aE,jQ j,DG];by_cases q:bH h x=c
   .have e:(bH h x != c)=false:=by simp only[bne_eq_false_iff_eq];exact q
    simp only[e,aU,aT,OX j (show 0<=bH h x by omega),aE,lZ (MZ a l)];by_cases i:kN h x<=6
    .rw[qH,aM ⟨q,i⟩]
    .rw[cX,aO (λx=>i x.2)]
   .have e:(bH h x != c)=true:=by simp only[bne_iff_ne];exact q
    simp only[e,aS];rw[aO (λx=>q x.1)]
  refine lA (f:=pL h s c) s.bA (λk=>(k:Int)) (λx=>bH h x=c/\kN h x<=6) _ _ (λk a g=>?_) (λk a g=>?_) ?_
  .rw[b k a,aM g]
  .rw[b k a,aO g]
  .simp[pL]
 rw[d];by_cases q:∀x∈s.bA,bH h x=c/\kN h x<=6
 .rw[aM q,cB (show MC h s.bA c from q)];rfl
 .rw[aO q,dV (show ¬MC h s.bA c from q)];rfl
def fY(l:ax)(k:Nat):al:=(l.getD k ⟨[]⟩).bA
theorem eO{l:ax}(h:k<l.length):l[k].bA=fY l k:=by grind[fY]
def WY(m:Mem)(k:Nat):Prop:=MC m.Heap (fY m.aD.Global k) (k:Int)
def MO(m:Mem)(k:Nat):Prop:=MC m.Heap (fY m.aD.Own k) ((k % 3:Nat):Int)
instance (m:Mem) (k:Nat):Decidable (WY m k):=by unfold WY;infer_instance
instance (m:Mem) (k:Nat):Decidable (MO m k):=by unfold MO;infer_instance
instance (m:Mem):Decidable (∀k,k<3->WY m k):=Nat.decidableBallLT 3 λk _=>WY m k
instance (m:Mem):Decidable (∀k,k<9->MO m k):=Nat.decidableBallLT 9 λk _=>MO m k
instance (m:Mem) (c:Nat):Decidable (∀w,w<3->MO m (w*3+c)):=Nat.decidableBallLT 3 λw _=>MO m (w*3+c)
instance (m:Mem):Decidable (∀k,k<3->WY m k/\∀w,w<3->MO m (w*3+k)):=Nat.decidableBallLT 3 λk _=>WY m k/\∀w,w<3->MO m (w*3+k)
def lX(m:Mem):Prop:=(HOk m.Heap/\LOk m.aD)/\(∀k,k<3->WY m k)/\∀k,k<9->MO m k
instance (m:Mem):Decidable (lX m):=by unfold lX;infer_instance
def LOk.aMI{l:aD}(h:LOk l)(a:(fC l).length<=1073741824):(∀s∈l.Global,s.bA.length<=1073741824)/\∀s∈l.Own,s.bA.length<=1073741824:=by grind[fC,aFI,aSP]
def a7W:(∀k,k<3->WY m k/\∀w,w<3->MO m (w*3+k))↔(∀k,k<3->WY m k)/\∀k,k<9->MO m k:=by
 constructor
 .intro h;refine⟨λk a=>(h k a).1,λk a=>?_⟩;have:=(h (k % 3) aa).2 (k/3) aa;grind
 grind
def z7(u:m.Heap.Bytes.length<=maxLen)(o:(fC m.aD).length<=1073741824):BE m=some (decide (lX m)):=by
 unfold BE NX;rw[aSO u,aOU o];by_cases i:HOk m.Heap
 .by_cases g:LOk m.aD
  .have r:(1073741824:Nat)<=maxLen:=by simp[maxLen]
   have d:=LOk.aMI g o;simp only[cB i,cB g,aE,eP,aU,aT];have s:∀c:Nat,c<3->loop (E5 m (c:Int)) 0=some (if ∀w,w<3->MO m (w*3+c) then Out.brk () else Out.ret false):=by
    intro c p;have j:∀w:Nat,w<3->E5 m (c:Int) (w:Int)=if MO m (w*3+c) then some (.next ((w+1:Nat):Int)) else some (.stop (Out.ret false)):=by
     intro w v;have a:w*3+c<m.aD.Own.length:=by rw[g.2.1];omega
     have e:A3 (w:Int) (c:Int)=some ((w*3+c:Nat):Int):=by unfold A3 E0;rw[cJ,cJ,cB aa,cB aa];simp only[aE,eP,aU,aT];grind[cK]
     have b:=d.2 _ (dO a);simp only[E5];rw[cX,e];simp only[aE,aZ a];rw[YS i.1 aa aa,eO a];have z:(w*3+c) % 3=c:=aa
     have y:MO m (w*3+c)↔MC m.Heap (fY m.aD.Own (w*3+c)) (c:Int):=by grind[MO]
     rw[cY];grind
    refine CK (f:=E5 m (c:Int)) 3 (λk=>(k:Int)) (λw=>MO m (w*3+c)) _ _ (λk a l=>?_) (λk a l=>?_) ?_
    .grind
    .grind
    .rfl
   have t:loop (E6 m) 0=some (if ∀k,k<3->WY m k/\∀w,w<3->MO m (w*3+k) then Out.brk () else Out.ret false):=by
    have j:∀c:Nat,c<3->E6 m (c:Int)=if WY m c/\∀w,w<3->MO m (w*3+c) then some (.next ((c+1:Nat):Int)) else some (.stop (Out.ret false)):=by
     intro c p;have a:c<m.aD.Global.length:=by rw[g.1];omega
     have b:=d.1 _ (dO a);simp only[E6];rw[cX];simp only[aE,aZ a];rw[YS i.1 aa aa,eO a,s c p];by_cases q:WY m c
     .have n:MC m.Heap (fY m.aD.Global c) (c:Int):=q;rw[cB n];simp only[aE,eP,aU,aT];by_cases h:∀w,w<3->MO m (w*3+c)
      .rw[aM h,aM ⟨q,h⟩];simp only[aFP,aFO];grind[cK]
      .rw[aO h,aO (λx=>h x.2)];rfl
     .have n:¬MC m.Heap (fY m.aD.Global c) (c:Int):=q;grind
    refine CK (f:=E6 m) 3 (λk=>(k:Int)) (λk=>WY m k/\∀w,w<3->MO m (w*3+k)) _ _ (λk a l=>?_) (λk a l=>?_) ?_
    .grind
    .grind
    .rfl
   rw[t];by_cases q:∀k,k<3->WY m k/\∀w,w<3->MO m (w*3+k)
   .rw[aM q,cB (show lX m from⟨⟨i,g⟩,a7W.1 q⟩)];rfl
   .rw[aO q,dV (λx:lX m=>q (a7W.2 x.2))];rfl
  grind[lX]
 grind[lX]
def FX(r:m.Heap.Bytes.length<=maxLen)(j:(fC m.aD).length<=1073741824):BS m=some (decide (lX m)):=by
 unfold BS OB;rw[T3 r,aB5 j];by_cases g:HOk m.Heap
 .by_cases b:LOk m.aD
  .have l:(1073741824:Nat)<=maxLen:=by simp[maxLen]
   have d:=LOk.aMI b j;simp only[cB g,cB b,aE,eP,aU,aT];have n:loop (zV m) 0=some (if ∀k,k<9->MO m k then Out.brk () else Out.ret false):=by
    have h:∀w:Nat,w<9->zV m (w:Int)=if MO m w then some (.next ((w+1:Nat):Int)) else some (.stop (Out.ret false)):=by
     intro w p;have a:w<m.aD.Own.length:=by rw[b.2.1];omega
     have c:=d.2 _ (dO a);have s:Int.tmod (w:Int) 3=((w % 3:Nat):Int):=aj
     simp only[zV];rw[cX];simp only[aE,aZ a,s];rw[YT g.1 aa aa,eO a,cY];by_cases q:MO m w
     .rw[aM q,cB (show MC m.Heap (fY m.aD.Own w) ((w % 3:Nat):Int) from q)];rfl
     .rw[aO q,dV (show ¬MC m.Heap (fY m.aD.Own w) ((w % 3:Nat):Int) from q)];rfl
    refine CK (f:=zV m) 9 (λk=>(k:Int)) (λw=>MO m w) _ _ (λk a i=>?_) (λk a i=>?_) ?_
    .grind
    .grind
    .simp[zV,b.2.1]
   have o:loop (zW m) 0=some (if ∀k,k<3->WY m k then Out.brk () else Out.ret false):=by
    have h:∀w:Nat,w<3->zW m (w:Int)=if WY m w then some (.next ((w+1:Nat):Int)) else some (.stop (Out.ret false)):=by
     intro w p;have a:w<m.aD.Global.length:=by rw[b.1];omega
     have c:=d.1 _ (dO a);simp only[zW];rw[cX];simp only[aE,aZ a];rw[YT g.1 aa aa,eO a,cY];by_cases q:WY m w
     .rw[aM q,cB (show MC m.Heap (fY m.aD.Global w) (w:Int) from q)];rfl
     .rw[aO q,dV (show ¬MC m.Heap (fY m.aD.Global w) (w:Int) from q)];rfl
    refine CK (f:=zW m) 3 (λk=>(k:Int)) (λw=>WY m w) _ _ (λk a i=>?_) (λk a i=>?_) ?_
    .grind
    .grind
    .simp[zW,b.1]
   rw[o];by_cases q:∀k,k<3->WY m k
   .rw[aM q];simp only[aE,aFV,aFU];rw[n];by_cases e:∀k,k<9->MO m k
    .rw[aM e,cB (show lX m from⟨⟨g,b⟩,q,e⟩)];rfl
    .rw[aO e,dV (λx:lX m=>e x.2.2)];rfl
   .rw[aO q,dV (λx:lX m=>q x.2.1)];rfl
  grind[lX]
 grind[lX]
def PI{l:ax}{s:bD}(h:s∈l):s.bA.length<=(gY l).length:=by grind[aFI,aSP]
theorem zD(l:aD):(fC l).length=(gY l.Global).length+(gY l.Own).length:=by simp[fC]
def IF(m:Mem):Prop:=m.Heap.Bytes.length<=1048576/\m.Heap.Class.length<=1048576/\m.aD.Global.length<=1048576/\m.aD.Own.length<=1048576/\(fC m.aD).length<=1048576
def IF.aMI(h:IF m):(∀s∈m.aD.Global,s.bA.length<=1048576)/\∀s∈m.aD.Own,s.bA.length<=1048576:=by have:=zD m.aD;have b:=h.2.2.2.2;exact⟨λs a=>by have:=PI a;omega,λs a=>by have:=PI a;omega⟩
end Go.Gv
end
