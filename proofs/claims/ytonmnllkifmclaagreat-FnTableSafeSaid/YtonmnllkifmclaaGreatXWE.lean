import Derived.Test.YtonmnllkifmclaaGreatXWD
set_option linter.unusedVariables false
set_option linter.unusedSimpArgs false
set_option linter.unusedSectionVars false
set_option linter.constructorNameAsVariable false
set_option linter.unnecessarySimpa false
noncomputable section
set_option maxHeartbeats 4000000
set_option maxRecDepth 100000
namespace Go.Proofs.YtonmnllkifmclaaGreat
open Go.Gv Tryz
section
variable {U:Ctx}
theorem aB8{x y:Int}:V0 prog U 312 (cmp_Less_int x y) [I x,I y] .b:=
 cC call312 func312 Q Q2<|dF 0 0 wP [] 4 [] Q (c0 Q (λ_=>Z2) λx2=>cX [6,7] Q2 (c0 Q (λ_=>Z2) λx3=>cX [10,11,12] Q2 (bM [] Q2)<|bM [] Q2)<|bM [] Q2) λx1=>cB Q2
theorem GY{data:List Int}{a_ b:Int}{s1:AC}:VS prog U 306 (iM data a_ b) [.h s1 data.length,I a_,I b] [] [ow s1 (data:List Int)] (λr (y:Unit)=>.t []) (λr y=>[.o (fB [AC.v s1 data.length] r)]):=
 cC call306 func306 Q Q2<|G0 () [1,2] (λ(p:(List Int)×Int) (_:Unit)=>[(0,.h s1 p.1.length),(6,I p.2)]) [0] [] (λp _=>[ow s1 (p.1:List Int)]) id [] (λ(x5:(List Int)) (_:Unit)=>[(0,.h s1 x5.length)]) [] (λx5 _=>[ow s1 (x5:List Int)]) Q Q (λhF1 ⟨x3,x4⟩ _ hr1=>λhG1=>nd hG1 λhl3 hG1=>wi hG1<|bE [12] Q2 (G0 () [1,2,6] (λ(p:(List Int)×Int) (_:Unit)=>[(0,.h s1 p.1.length),(7,I p.2)]) [0] [] (λp _=>[ow s1 (p.1:List Int)]) id [1,2,6] (λ(x10:(List Int)) (_:Unit)=>[(0,.h s1 x10.length)]) [] (λx10 _=>[ow s1 (x10:List Int)]) Q Q (λhF2 ⟨x8,x9⟩ _ hr2=>λhG2=>nd hG2 λhl6 hG2=>wi hG2<|dF 0 0 (dX data x8 x9) [0,1,2,6,7] 30 [0] Q (iL aG [] Q<|cX [18,19] Q2 (pI oI 0 Q3 λx16 h27 _ h28=>λhG2=>lJ 0 h28 h27 Q5<|cqS oI 1 [] h27 () Q9<|wi hG2<|pI oI 4 Q3 λx17 h29 _ h30=>λhG2=>lJ 1 h30 h29 Q5<|bd hG2 λx18 hA2 hG2=>fC Q2 (cqS oI 5 [] h29 () Q9<|have hq8:=rb h27;ro oI 8 3 0 Q Q Q Q hq8 λu8 h35 hq8 _=>match u8,hq8 with|_,rfl=>cqS oI 9 [] h35 () Q9<|have hq9:=rb h29;ro oI 12 7 1 Q Q Q Q hq9 λu9 h37 hq9 _=>match u9,hq9 with|_,rfl=>KF hA2 Q (λ_=>aB8)<|sF Q<|jR oI 13 [] h37 () Q7<|mQ (p:=(x18)) () [16] hG2 Q) (cqS oI 5 [] h29 () Q9<|have hq11:=rb h27;ro oI 8 3 0 Q Q Q Q hq11 λu11 h39 hq11 _=>match u11,hq11 with|_,rfl=>KF hA2 Q (λ_=>aB8)<|sF Q<|jR oI 9 [] h39 () Q7<|mQ (p:=(x18)) () [12] hG2 Q))<|bM (p:=(false)) [0] Q2) λx11=>λhG2=>nd hG2 λhl7 hG2=>wi hG2<|bE [30] Q2 (eJ 0 0 (jV data x9) [1,2,6,7] (λ(x12:(List Int)) (_:Unit)=>[(0,.h s1 x12.length)]) [] (λx12 _=>[ow s1 (x12:List Int)]) Q (iL aG [] Q<|pI oI 0 Q3 λx13 h1 _ h2=>λhG2=>lJ 0 h2 h1 Q5<|cqS oI 1 [] h1 () Q9<|wi hG2<|pI oI 4 Q3 λx14 h3 _ h4=>λhG2=>lJ 1 h4 h3 Q5<|bd hG2 λx15 hA1 hG2=>fC Q2 (cqS oI 5 [] h3 () Q9<|have hq1:=rb h1;ro oI 8 3 0 Q Q Q Q hq1 λu1 h13 hq1 _=>match u1,hq1 with|_,rfl=>cqS oI 9 [] h13 () Q9<|have hq2:=rb h3;ro oI 12 7 1 Q Q Q Q hq2 λu2 h15 hq2 _=>match u2,hq2 with|_,rfl=>cqS oI 13 [] h15 () Q9<|have hq3:=rb h3;wi hq3<|pI oI 16 Q3 λu3 h17 _ h18=>λhq3=>lJ 2 h18 h17 Q5<|match u3,hq3 with|_,rfl=>ceS oI 17 [] [0,33,35,38,43] x13 () Q Q Q Q Q Q Q Q Q Q<|have hq4:=rb hA1;wi hq4<|pI oI 20 Q3 λu4 h19 _ h20=>λhq4=>lJ 3 h20 h19 Q5<|match u4,hq4 with|_,rfl=>sF Q<|oT oI 21 [] [0,33,35,38,43] x14 () Q8<|mQ (p:=((x8.set x9.toNat x13).set ((aY (x9-1)).toNat) x14)) () [24] hG2 Q) (cqS oI 5 [] h3 () Q9<|have hq5:=rb h1;ro oI 8 3 0 Q Q Q Q hq5 λu5 h21 hq5 _=>match u5,hq5 with|_,rfl=>cqS oI 9 [] h21 () Q9<|have hq6:=rb h3;wi hq6<|pI oI 12 Q3 λu6 h23 _ h24=>λhq6=>lJ 2 h24 h23 Q5<|match u6,hq6 with|_,rfl=>ceS oI 13 [] [0,33,35,38,43] x13 () Q Q Q Q Q Q Q Q Q Q<|have hq7:=rb hA1;wi hq7<|pI oI 16 Q3 λu7 h25 _ h26=>λhq7=>lJ 3 h26 h25 Q5<|match u7,hq7 with|_,rfl=>sF Q<|oT oI 17 [] [0,33,35,38,43] x14 () Q8<|mQ (p:=((x8.set x9.toNat x13).set ((aY (x9-1)).toNat) x14)) () [20] hG2 Q)) λx12 _=>λhG2=>nd hG2 λhl8 hG2=>wi hG2<|xO [0] Q)<|sO [0] Q) λx10 _=>λhG1=>nd hG1 λhl5 hG1=>wi hG1<|xO [0] Q)<|sO [0] Q) λx5 _=>λhF=>nd hF λhl2 hF=>sF Q<|pnR 0 hl2 Q<|oF () [0] hF Q2 Q4
theorem P8{data:List Int}{a_ b limit:Int}{s1:AC}:VS prog U 233 (pR data a_ b limit) [.h s1 data.length,I a_,I b,I limit] [] [ow s1 (data:List Int)] (λr (y:Unit)=>.t []) (λr y=>[.o (fB [AC.v s1 data.length] r)]):=
 cC call233 func233 Q Q2<|lrW () [0,1,2,3,8,9] (λ(_:Unit) (_:Unit)=>[]) [0] [0] (λ_ _=>[]) Q Q (λhF1 _ _ hr1=>bE [23] Q2 (J8 [0] Q4 (λ_=>GY) λx1 _=>λhG1=>un 1 [0,24] [] [] Q6 λhl2=>sR Q<|pnR 1 hl2 Q<|oF () [1] (re hG1 Q hr1 hF1) Q2 Q4)<|bE [29] Q2 (λhG1=>nomatch hG1)<|λhG1=>nomatch hG1)
theorem aIC{x:Int}:V0 prog U 316 (ZN x) [.i .u64 x] I:=
 cC call316 func316 Q Q2<|eJ 0 0 (λ(p:Int×Int)=>F6 p.1 p.2) [] (λ(p:Int×Int) (_:Unit)=>[(0,.i .u64 p.1),(2,I p.2)]) [] (λp _=>[]) Q (bE [4] Q2 (bM (p:=(qL .u64 x 32,32)) [] Q2)<|bM (p:=(x,0)) [] Q2) λ⟨x1,x2⟩ _=>eJ 0 0 (λ(p:Int×Int)=>F5 p.1 p.2) [] (λ(p:Int×Int) (_:Unit)=>[(0,.i .u64 p.1),(2,I p.2)]) [] (λp _=>[]) Q (bE [8] Q2 (bM (p:=(qL .u64 x1 16,aY (x2+16))) [] Q2)<|bM (p:=(x1,x2)) [] Q2) λ⟨x3,x4⟩ _=>eJ 0 0 (λ(p:Int×Int)=>FZ p.1 p.2) [] (λ(p:Int×Int) (_:Unit)=>[(0,.i .u64 p.1),(2,I p.2)]) [] (λp _=>[]) Q (bE [14] Q2 (bM (p:=(qL .u64 x3 8,aY (x4+8))) [] Q2)<|bM (p:=(x3,x4)) [] Q2) λ⟨x5,x6⟩ _=>λhF=>qsi Q Q Q Q Q hF λx7 _ hF=>wi hF<|cB Q2
theorem aNI{x:Int}:V0 prog U 234 (DJ x) [.i .u64 x] I:=
 cC call234 func234 Q Q2<|c0 Q (λ_=>aIC) λx1=>cB Q2
theorem T4{x:List Int}{s1:AC}:VS prog U 132 (wR x) [.h s1 x.length] [] [ow s1 (x:List Int)] (λr (y:Unit)=>.t []) (λr y=>[.o (fB [AC.v s1 x.length] r)]):=
 cC call132 func132 Q Q2<|c0 Q (λ_=>aNI) λx1=>J8 [0] Q4 (λ_=>P8) λx2 _=>λhF=>un 1 [0,3,5] [] [] Q6 λhl1=>sF Q<|pnR 1 hl1 Q<|oF () [1] hF Q2 Q4
theorem M9{s:List Int}{s1:AC}:VS prog U 133 (slices_Compact_int s) [.h s1 s.length] [] [ow s1 s] (λr (y:AC)=>.h y r.length) (λr y=>[ow y r]):=
 bQZ bOS call133
theorem aQ3{l:List aX}{s1:AC}(h1:aR U s1 l):VS prog U 181 (PN l) [.h s1 l.length] [] [] (λr (y:AC)=>.h y r.length) (λr y=>[ow y r]):=
 cC call181 func181 Q Q2<|λhF=>lt0 (O:=Int) aS Q4 λs2=>wi hF<|G0 s2 [8,9] (λ(p:(List Int)×Int) (s4:AC)=>[(3,.h s4 p.1.length),(10,I p.2)]) [0] [] (λp s4=>[ow s4 (p.1:List Int)]) id [] (λ(x5:(List Int)) (s5:AC)=>[(3,.h s5 x5.length)]) [] (λx5 s5=>[ow s5 (x5:List Int)]) Q Q (λhF1 ⟨x3,x4⟩ s4 hr1=>bE [11] Q2 (eJ 2 0 (EV x4) [8,9,10] (λ(x8:(List Int)) (s7:AC)=>[(3,.h s7 x8.length)]) [] (λx8 s7=>[ow s7 (x8:List Int)]) Q (oK yH Q h1 Q λx9 _ _=>c0 Q (λ_=>YG) λx10=>bE [18] Q2 (λhG1=>lt1 Q aS Q4 λs8=>ap 0 aS Q Q Q Q Q Q Q (λh=>(h.o 3 Q)) Q Q hG1 λhG1 s9=>wi hG1<|pC s9 [0] Q2)<|pC s4 [0] Q2) λx8 s7=>nxW s7 [0] Q)<|bkW s4 [0] Q) λx5 s5=>wm (F:=NT x5) Q<|J8 [0] Q4 (λ_=>T4) λx6 _=>λhF=>un 1 [3,24] [] [] Q6 λhl2=>wi hF<|J8 [1] Q4 (λ_=>M9) λx7 s6=>iY s6 [2] Q2
theorem AW{s:List Seen}{f:(Seen->Option Bool)}{s1:AC}{g_f:FuncId}{cap_f:List Value}(h1:aR U s1 s)(h_f:Fu1 prog U (aE2:GI Seen) .b g_f cap_f f):V0 prog U 182 (gH s f) [.h s1 s.length,.k (.func (.func g_f) #[] cap_f.toArray)] .b:=
 cC call182 func182 Q Q2<|c0 Q (λh=>GU (h.a h1) (h.u1 h_f)) λx1=>cB Q2
theorem aEB{s:Seen}{k0:Int}{k1:cQ}{b0 b1 b2:Nat×Nat}:VS prog U 183 (yR s k0 k1) [.g [I s.cQ,I s.jS],.p 0 0,.p 1 0] [b0,b1,b2] [.ro 0 [I k0],.ro 1 [.p 2 0],.ro 2 [I k1.Head,I k1.jS,I k1.g9]] (λr (_:Unit)=>.b r) (λ_ _=>[]):=
 cC call183 func183 Q Q2<|dF 0 4 qZ [] 4 [] Q (iL aG [0,1,2,3] Q<|cX [8,9] Q2 (bM [] Q2)<|bM [] Q2) λx1=>cB Q2
theorem aID{t:Table}{w_:Int}{s1 s2 s3 s4 s5 s6 s7 s8 s9 s10 s11:AC}{b0:Nat×Nat}:VS prog U 83 (EW t w_) [.p 0 0,I w_] [b0] ([.box 0 (FF t s1 s2 s3 s4 s5 s6 s7 s8 s9 s10 s11)]++(SM t s1 s2 s3 s4 s5 s6 s7 s8 s9 s10 s11 [])) (λr (y:AC)=>.t []) (λr y=>([.box 0 (FF r s1 s2 s3 s4 s5 s6 s7 s8 s9 s10 y)]++(SM r s1 s2 s3 s4 s5 s6 s7 s8 s9 s10 y []))):=
 cC call83 func83 Q Q2<|pI bA 9 Q3 λx1 h1 s12 h2=>λhF=>lJ 1 h2 h1 Q5<|wi hF<|c1 Q (λh=>aQ3 (h.o 17 Q)) λx2 s13=>eJ 0 2 (λ(p:(List cQ)×(List aI))=>o6 t w_ x2 p.1 p.2) [0,1,4,5] (λ(p:(List cQ)×(List aI)) (_:Unit)=>[]) [22,1,2,3,4,5,6,7,10,11,14] (λp _=>[ow s8 (p.1:List cQ),ow s9 (p.2:List aI),.box 0 [.h s1 t.aA.Mem.Heap.Bytes.length,.h s2 t.aA.Mem.Heap.Class.length,.h s3 t.aA.Mem.aC.Global.length,.h s4 t.aA.Mem.aC.Own.length,I t.aA.aD.aJ,.h s5 t.aA.aD.cG.length,.h s6 t.aA.aM.length,.h s7 t.aA.lX.length,.h s8 p.1.length,.h s9 p.2.length,.h s10 t.dQ.length,.h s11 t.Log.length,I t.aO]]) Q (bE [25] Q2 (pI oI 22 Q3 λx7 h7 _ h8=>λhF=>lJ 2 h8 h7 Q5<|cqS oI 23 [] h7 () Q9<|wi hF<|iL aG [0,14,25,26] Q<|pI D6 8 Q3 λx8 h9 _ h10=>λhF=>lJ 4 h10 h9 Q5<|wi hF<|eJ 0 6 (iS t w_ x2 x7) [0,1,4,5,6,7] (λ(x9:Bool) (_:Unit)=>[(39,.b x9)]) [27,1,2,3,4,5,6,7,10,11,0,14,30] (λx9 _=>[ow s8 (t.bZ:List cQ),ow s9 (t.aQ:List aI),.ro 3 [I x7],.ro 5 [.p 4 0]]) Q (λhF=>shS [3,5] Q Q<|wi hF<|cX [44,45] Q2 (λhF=>sF Q<|jR D6 28 [] h9 () Q7<|fR Q2<|jR bA 12 [15,16,17,18,19,20,21] h1 s12 Q7<|fR Q2<|mQ () [32,33,26,31,27,1,2,3,4,5,6,7,10,11,0,14,30] hF Q)<|λhF=>mf [3,5] Q Q Q<|wi hF<|clP (n3:=4) [26,31,29] Q Q Q Q (λh=>λhB=>AW (h.o 16 Q) (fkP (xs:=[.p 0 0,.p 1 0]) call183 hB Q λ_ _=>aEB)) λx19=>λhF=>sF Q<|jR D6 28 [] h9 () Q7<|fR Q2<|jR bA 12 [15,16,17,18,19,20,21] h1 s12 Q7<|fR Q2<|mQ () [32,33,26,31,27,1,2,3,4,5,6,7,10,11,0,14,30] hF Q) λx9 _=>bE [39] Q2 (λhF=>ro bA 1 15 1 Q Q Q Q hF λx10 h11 hF s25=>wi hF<|fK 18 1 0 32 [20,21,22,23,24,25,26] Q5 (λ_=>eN) λx11 _=>λhF=>sR Q<|oT bA 17 [27,28,29,30,31,32,33] [] x11 s25 Q8<|fR Q2<|uM s9 dE.symm [] [(14,9)] Q3<|fR Q2<|oF s11 [14,5,6,7,8,9,10,11,0,34,12,13] hF Q2 Q4)<|λhF=>ro D6 0 16 4 Q Q Q Q hF λx12 h13 hF _=>wi hF<|bE [55,60] Q2 (λhF=>ro bA 1 15 1 Q Q Q Q hF λx13 h15 hF s26=>wi hF<|fK 21 1 0 32 [23,24,25,26,27,28,29] Q5 (λ_=>eN) λx14 _=>λhF=>sR Q<|oT bA 20 [30,31,32,33,34,35,36] [] x14 s26 Q8<|fR Q2<|uM s9 dE.symm [] [(14,9)] Q3<|fR Q2<|jR D6 17 [] h13 () Q7<|fR Q2<|oF s11 [14,5,6,7,8,9,10,11,38,37,12,13] hF Q2 Q4)<|eJ 1 6 (o7 t w_ x2 x7 x12) [0,1,4,5] (λ(x15:(List aI)) (_:Unit)=>[]) [4,5,6,7,8,9,10,11,12,13,15] (λx15 _=>[ow s8 (t.bZ.set x7.toNat ({x12 with g9:=aY (w_+1)}:cQ):List cQ),ow s9 (x15:List aI),.box 0 [.h s1 t.aA.Mem.Heap.Bytes.length,.h s2 t.aA.Mem.Heap.Class.length,.h s3 t.aA.Mem.aC.Global.length,.h s4 t.aA.Mem.aC.Own.length,I t.aA.aD.aJ,.h s5 t.aA.aD.cG.length,.h s6 t.aA.aM.length,.h s7 t.aA.lX.length,.h s8 (t.bZ.set x7.toNat ({x12 with g9:=aY (w_+1)}:cQ)).length,.h s9 x15.length,.h s10 t.dQ.length,.h s11 t.Log.length,I t.aO]]) Q (iL aG [2,3,14,15,16,19] Q<|λhF=>ro bA 1 15 1 Q Q Q Q hF λx17 h19 hF s28=>wi hF<|c0 Q (λh=>pH (h.o 28 Q)) λx18=>bE [74] Q2 (eJ 0 6 (λ(_:Unit)=>F7 t w_ x2 x7 x12 x17) [0,1,4,5] (λ(_:Unit) (_:Unit)=>[]) [4,5,6,7,8,9,10,11,12,13,15] (λ_ _=>[ow s8 (t.bZ.set x7.toNat ({x12 with g9:=aY (w_+1)}:cQ):List cQ),ow s9 (t.aQ.set w_.toNat ({x17 with bD:=x17.bD++([x7])}:aI):List aI),.box 0 [.h s1 t.aA.Mem.Heap.Bytes.length,.h s2 t.aA.Mem.Heap.Class.length,.h s3 t.aA.Mem.aC.Global.length,.h s4 t.aA.Mem.aC.Own.length,I t.aA.aD.aJ,.h s5 t.aA.aD.cG.length,.h s6 t.aA.aM.length,.h s7 t.aA.lX.length,.h s8 (t.bZ.set x7.toNat ({x12 with g9:=aY (w_+1)}:cQ)).length,.h s9 (t.aQ.set w_.toNat ({x17 with bD:=x17.bD++([x7])}:aI)).length,.h s10 t.dQ.length,.h s11 t.Log.length,I t.aO]]) Q (iL aG [2,3,14,15,16,19,22] Q<|λhF=>nd hF λhA2 hF=>(by refine fC Q2 ?_ ?_<;>exact lt1 Q aS Q4 λs31=>have hq4:=rn hA2;ap 28 aS Q Q Q Q Q Q Q (λh=>(h.o 30 Q)) Q Q hq4 λhq4 s32=>sF Q<|oT bA 20 [23,24,25,26,27,28,29] [] ({x17 with bD:=x17.bD++([x7])}:aI) (s28.1,s28.2.1,s28.2.2.1,s28.2.2.2.1,s28.2.2.2.2.1,s32,s28.2.2.2.2.2.2) Q8<|fR Q2<|uM s9 dE.symm [] [(14,9)] Q3<|fR Q2<|oT D6 17 [] [] ({x12 with g9:=aY (w_+1)}:cQ) () Q8<|fR Q2<|uM s8 dE.symm [] [(14,8)] Q3<|fR Q2<|mQ (p:=()) () [32,31,14,4,5,6,7,8,9,10,11,12,13,15] hF Q)) λ_ _=>bM (p:=(t.aQ.set w_.toNat ({x17 with bD:=x17.bD++([x7])}:aI))) [0,1,2,3,4,5,6,7,8,9,10,11,12,13] Q2)<|λhF=>sF Q<|jR bA 20 [23,24,25,26,27,28,29] h19 s28 Q7<|fR Q2<|oT D6 17 [] [] ({x12 with g9:=aY (w_+1)}:cQ) () Q8<|fR Q2<|uM s8 dE.symm [] [(14,8)] Q3<|fR Q2<|mQ () [31,30,14,4,5,6,7,8,9,10,11,12,13,15] hF Q) λx15 _=>λhF=>ro bA 1 13 1 Q Q Q Q hF λx16 h17 hF s27=>sF Q<|oT bA 14 [17,18,19,20,21,22,23] [] ({x16 with K:=aY (x16.K+1)}:aI) s27 Q8<|fR Q2<|uM s9 dE.symm [] [(2,9)] Q3<|fR Q2<|mQ (p:=(t.bZ.set x7.toNat ({x12 with g9:=aY (w_+1)}:cQ),x15.set w_.toNat ({x16 with K:=aY (x16.K+1)}:aI))) () [0,24,2,3,4,5,6,7,8,9,10,11,12,13] hF Q)<|λhF=>sF Q<|jR bA 12 [15,16,17,18,19,20,21] h1 s12 Q7<|fR Q2<|mQ (p:=(t.bZ,t.aQ)) () [8,23,0,22,1,2,3,4,5,6,7,10,11,14] hF Q) λ⟨x3,x4⟩ _=>λhF=>ro bA 1 13 1 Q Q Q Q hF λx5 h3 hF s14=>wi hF<|bE [98] Q2 (eJ 0 2 (λ(_:Unit)=>vL t w_ x3 x4 x5) [0,4] (λ(_:Unit) (s15:AC)=>[]) [4,5,6,7,8,9,10,0,11,13] (λ_ s15=>[ow s9 (x4:List aI),ow s15 (t.Log++([(⟨2,w_,x5.aO,0,[],[]⟩:J9)]):List J9),.box 0 [.h s1 t.aA.Mem.Heap.Bytes.length,.h s2 t.aA.Mem.Heap.Class.length,.h s3 t.aA.Mem.aC.Global.length,.h s4 t.aA.Mem.aC.Own.length,I t.aA.aD.aJ,.h s5 t.aA.aD.cG.length,.h s6 t.aA.aM.length,.h s7 t.aA.lX.length,.h s8 x3.length,.h s9 x4.length,.h s10 t.dQ.length,.h s15 (t.Log++([(⟨2,w_,x5.aO,0,[],[]⟩:J9)])).length,I t.aO]]) Q (iL aG [13,16] Q<|λhF=>nd hF λhA1 hF=>(by repeat' first|refine fC Q2 ?_ ?_|refine nw kG Q<|nw iZ Q<|ltN bDB [24,25] ((⟨2,w_,x5.aO,0,[],[]⟩:J9)) (⟨none,0⟩,⟨none,0⟩) oE Q13 λs19=>?_|refine have hq1:=rn hA1;apN 12 26 oE Q Q Q9 hq1 λhq1 s20=>sF Q<|jR bA 14 [17,18,19,20,21,22,23] h3 s14 Q7<|fR Q2<|?_|exact mQ (p:=()) s20 [28,27,2,4,5,6,7,8,9,10,0,11,13] hF Q)) λ_ s15=>λhF=>ro bA 0 12 1 Q Q Q Q hF λx6 h5 hF s16=>sF Q<|oT bA 13 [16,17,18,19,20,21,22] [] ({x6 with Pc:=8,K:=0}:aI) s16 Q8<|fR Q2<|uM s9 dE.symm [] [(2,9)] Q3<|fR Q2<|oF s15 [2,3,4,5,6,7,8,9,10,23,11,1] hF Q2 Q4)<|λhF=>sF Q<|jR bA 14 [17,18,19,20,21,22,23] h3 s14 Q7<|oF s11 [2,4,5,6,7,8,9,10,0,24,11,12] hF Q2 Q4
theorem aAM{t:Table}{w_:Int}{s1 s2 s3 s4 s5 s6 s7 s8 s9 s10 s11:AC}{b0:Nat×Nat}:VS prog U 84 (sI t w_) [.p 0 0,I w_] [b0] ([.box 0 (FF t s1 s2 s3 s4 s5 s6 s7 s8 s9 s10 s11)]++(SM t s1 s2 s3 s4 s5 s6 s7 s8 s9 s10 s11 [])) (λr (y:Unit)=>.t []) (λr y=>([.box 0 (FF r s1 s2 s3 s4 s5 s6 s7 s8 s9 s10 s11)]++(SM r s1 s2 s3 s4 s5 s6 s7 s8 s9 s10 s11 []))):=
 cC call84 func84 Q Q2<|pI bA 9 Q3 λx1 h1 s12 h2=>λhF=>lJ 1 h2 h1 Q5<|wi hF<|eJ 0 2 (λ(_:Unit)=>vO t w_ x1) [0,1,4] (λ(_:Unit) (_:Unit)=>[(22,.b (decide ((x1.Reads.length:Int)<=x1.K)))]) [1,2,3,4,5,6,7,8,10,11,0,14] (λ_ _=>[ow s9 (t.aQ:List aI)]) Q (iL aG [0,14] Q<|λhF=>(by refine fC Q2 ?_ ?_<;>exact sF Q<|jR bA 12 [15,16,17,18,19,20,21] h1 s12 Q7<|fR Q2<|mQ (p:=()) () [22,1,2,3,4,5,6,7,8,10,11,0,14] hF Q)) λ_ _=>bE [22] Q2 (λhF=>ro bA 0 12 1 Q Q Q Q hF λx2 h3 hF s13=>sR Q<|oT bA 13 [16,17,18,19,20,21,22] [] ({x2 with Pc:=9,K:=0}:aI) s13 Q8<|fR Q2<|uM s9 dE.symm [] [(11,9)] Q3<|fR Q2<|oF () [11,1,2,3,4,5,6,7,8,23,9,10] hF Q2 Q4)<|eJ 0 4 (λ(p:Int×Int)=>vN t w_ p.1 p.2) [0,1,4] (λ(p:Int×Int) (_:Unit)=>[(5,.p 3 0)]) [1,2,3,4,5,6,7,8,0,9,10,11,12] (λp _=>[.box 3 [I p.1,I p.2]]) Q (iL aG [11,12] Q<|λhF=>bd hF λx13 hA1 hF=>bd hF λx14 hA2 hF=>aTG Q Q (have hq1:=rb hA1;ro bA 0 12 1 Q Q Q Q hq1 λu1 h15 hq1 s17=>match u1,hq1 with|_,rfl=>fC Q2 (have hq2:=rb hA2;wi hq2<|pI aBV 17 Q3 λu2 h17 _ h18=>λhq2=>lJ 2 h18 h17 Q5<|match u2,hq2 with|_,rfl=>(by refine fC Q2 ?_ ?_<;>exact sF Q<|jR aBV 23 [] h17 () Q7<|fR Q2<|jR bA 13 [16,27,18,19,20,21,22] h15 s17 Q7<|fR Q2<|mQ (p:=(x14.cQ,x14.jS)) () [26,1,2,3,4,5,6,7,8,28,9,10,11,12] hF Q)) (have hq3:=rb hA2;wi hq3<|pI aBV 17 Q3 λu3 h19 _ h20=>λhq3=>lJ 3 h20 h19 Q5<|match u3,hq3 with|_,rfl=>sF Q<|swR 3 2 Q<|fD Q Q<|jR aBV 24 [] h19 () Q7<|fR Q2<|jR bA 13 [16,27,18,19,20,21,22] h15 s17 Q7<|fR Q2<|mQ (p:=(x14.cQ,x14.jS)) () [23,1,2,3,4,5,6,7,8,28,9,10,11,12] hF Q)) (have hq4:=rb hA1;ro bA 0 12 1 Q Q Q Q hq4 λu4 h21 hq4 s18=>match u4,hq4 with|_,rfl=>fC Q2 (have hq5:=rb hA2;wi hq5<|pI aBV 17 Q3 λu5 h23 _ h24=>λhq5=>lJ 2 h24 h23 Q5<|match u5,hq5 with|_,rfl=>(by refine fC Q2 ?_ ?_<;>exact sF Q<|jR aBV 23 [] h23 () Q7<|fR Q2<|jR bA 13 [16,27,18,19,20,21,22] h21 s18 Q7<|fR Q2<|mQ (p:=(x14.cQ,x14.jS)) () [26,1,2,3,4,5,6,7,8,28,9,10,11,12] hF Q)) (have hq6:=rb hA2;wi hq6<|pI aBV 17 Q3 λu6 h25 _ h26=>λhq6=>lJ 3 h26 h25 Q5<|match u6,hq6 with|_,rfl=>sF Q<|swR 3 2 Q<|fD Q Q<|jR aBV 24 [] h25 () Q7<|fR Q2<|jR bA 13 [16,27,18,19,20,21,22] h21 s18 Q7<|fR Q2<|mQ (p:=(x14.cQ,x14.jS)) () [23,1,2,3,4,5,6,7,8,28,9,10,11,12] hF Q)) ((by refine fC Q2 ?_ ?_<;>exact have hq7:=rb hA1;ro bA 0 12 1 Q Q Q Q hq7 λu7 h27 hq7 s19=>match u7,hq7 with|_,rfl=>have hq8:=rb hA2;wi hq8<|pI aBV 18 Q3 λu8 h29 _ h30=>λhq8=>lJ 3 h30 h29 Q5<|match u8,hq8 with|_,rfl=>sF Q<|swR 3 2 Q<|fD Q Q<|jR aBV 24 [] h29 () Q7<|fR Q2<|jR bA 14 [17,27,19,20,21,22,23] h27 s19 Q7<|fR Q2<|mQ (p:=(x14.cQ,x14.jS)) () [13,1,2,3,4,5,6,7,8,28,9,10,11,12] hF Q))) λ⟨x3,x4⟩ _=>eJ 0 6 (λ(p:Int×Int×Int)=>vM t w_ x4 p.1 p.2.1 p.2.2) [0,1,4,5] (λ(p:Int×Int×Int) (_:Unit)=>[(6,.p 5 0)]) [1,2,3,4,5,6,7,8,9,10,11,12,13,0] (λp _=>[.box 5 [I p.1,I p.2.1,I p.2.2]]) Q (iL aG [0,12,13] Q<|pI D6 8 Q3 λx12 h9 _ h10=>λhF=>lJ 4 h10 h9 Q5<|(by refine fC Q2 ?_ ?_<;>exact sF Q<|jR D6 14 [] h9 () Q7<|fR Q2<|mQ (p:=(x12.Head,x12.jS,x12.g9)) () [17,1,2,3,4,5,6,7,18,9,10,11,12,13,0] hF Q)) λ⟨x5,x6,x7⟩ _=>dF 0 6 (gA t w_) [0,4] 63 [1,2,3,4,5,6,7,8,9,10,11,12,13] Q (cX [49,50] Q2 (cX [55,56,57] Q2 (bM [1,2,3,4,5,6,7,8,9,10,11,12,13] Q2)<|bM [1,2,3,4,5,6,7,8,9,10,11,12,13] Q2)<|bM [1,2,3,4,5,6,7,8,9,10,11,12,13] Q2) λx8=>bE [63] Q2 (λhF=>ro bA 8 12 1 Q Q Q Q hF λx9 h5 hF s14=>wi hF<|fK 14 1 0 32 [16,17,18,19,20,21,22] Q5 (λ_=>eN) λx10 _=>λhF=>sR Q<|oT bA 13 [23,24,25,26,27,28,29] [] x10 s14 Q8<|fR Q2<|uM s9 dE.symm [] [(11,9)] Q3<|fR Q2<|oF () [11,0,1,2,3,4,5,6,7,30,9,10] hF Q2 Q4)<|λhF=>ro bA 8 12 1 Q Q Q Q hF λx11 h7 hF s15=>sF Q<|oT bA 13 [16,17,18,19,20,21,22] [] ({x11 with K:=aY (x11.K+1)}:aI) s15 Q8<|fR Q2<|uM s9 dE.symm [] [(11,9)] Q3<|fR Q2<|oF () [11,0,1,2,3,4,5,6,7,23,9,10] hF Q2 Q4
theorem JM{j:aI}{x:aX}{s1 s2 s3 s4 s5 s6 s7:AC}{b0:Nat×Nat}:VS prog U 185 (pY j x) [.p 0 0,.g [I x.Key,.b x.KR,I x.fT]] [b0] ([.box 0 (gTj j s1 s2 s3 s4 s5 s6 s7)]++(oTj j s1 s2 s3 s4 s5 s6 s7 [])) (λr (y:Unit)=>.t []) (λr y=>([.box 0 (gTj r s1 s2 s3 s4 s5 s6 s7)]++(oTj r s1 s2 s3 s4 s5 s6 s7 []))):=
 cC call185 func185 Q Q2<|bE [8] Q2 (J4 () [0,1,2,3,4,5,6,7] Q Q)<|J4 () [0,1,2,3,4,5,6,7] Q Q
theorem AX{m:Mem}{s1 s2 s3 s4:AC}(h1:aR U s1 m.Heap.Bytes)(h2:aR U s2 m.Heap.Class)(h3:aR U s3 m.aC.Global)(h4:aR U s4 m.aC.Own):VS prog U 192 (rA m) [.g (gM m s1 s2 s3 s4)] [] [] (λr (y:A4C)=>.g (yM r y)) (λr y=>(zM r y [])):=
 cC call192 func192 Q Q2<|iL aG [0] Q<|c1 Q (λh=>FG (h.a h1) (h.a h2)) λx1 s5=>c1 Q (λh=>j4 (h.a h3) (h.a h4)) λx2 s6=>iY (s5.1,s5.2,s6.1,s6.2) [2,3,4,5] Q2
theorem Z3{h:Heap}{s:bJ}{c:Int}{s1 s2:AC}{s3:AC}(h1:aR U s1 h.Bytes)(h2:aR U s2 h.Class)(h3:aR U s3 s.aV):V0 prog U 281 (DK h s c) [.g [.h s1 h.Bytes.length,.h s2 h.Class.length],.g [.h s3 s.aV.length],I c] .b:=
 cC call281 func281 Q Q2<|GX 12 [2,3,10,11] [0] Out.brk [] [] Q Q (λhF1 x2 hr1=>bE [13] Q2 (Y7 Q h3 Q λx3=>dF 0 3 (BI x2) [2,3,10,11,12] 26 [0] Q (c0 Q (λh=>mL (h.a h1) (h.a h2)) λx5=>cX [20,21] Q2 (bM [0] Q2)<|c0 Q (λh=>P7 (h.a h1) (h.a h2)) λx6=>bM [0] Q2) λx4=>bE [26] Q2 (zC hr1 hF1<|cB Q2)<|xO [0] Q)<|sO [] Q)<|cB Q2
theorem JN{m:Mem}{s1 s2 s3 s4:AC}(h1:aR U s1 m.Heap.Bytes)(h2:aR U s2 m.Heap.Class)(h3:aR U s3 m.aC.Global)(h4:aR U s4 m.aC.Own):V0 prog U 198 (zV m) [.g (gM m s1 s2 s3 s4)] .b:=
 cC call198 func198 Q Q2<|dF 0 1 (LV m) [1] 16 [0] Q (c0 Q (λh=>aE6 (h.a h1) (h.a h2)) λx10=>cX [10,11] Q2 (bM [0] Q2)<|c0 Q (λh=>JH (h.a h3) (h.a h4)) λx11=>bM [0] Q2) λx1=>bE [16] Q2 (cB Q2)<|GX 21 [1,19,20] [0] Out.brk [1] [0] Q Q (λhF2 x3 hr2=>bE [22] Q2 (oK JG Q h3 Q λx8 s6 h6=>c0 Q (λh=>Z3 (h.a h1) (h.a h2) (h.a h6)) λx9=>bE [31] Q2 (zC hr2 hF2<|cB Q2)<|xO [0] Q)<|sO [0] Q)<|GX 37 [1,35,36] [0] Out.brk [] [] Q Q (λhF3 x5 hr3=>bE [38] Q2 (oK JG Q h4 Q λx6 s5 h5=>c0 Q (λh=>Z3 (h.a h1) (h.a h2) (h.a h5)) λx7=>bE [48] Q2 (zC hr3 hF3<|cB Q2)<|xO [0] Q)<|sO [] Q)<|cB Q2
theorem yA{h:Int}:V0 prog U 207 (oC h) [I h] .b:=
 cC call207 func207 Q Q2<|dF 0 0 zW [] 2 [] Q (cX [4,5] Q2 (bM [] Q2)<|c0 Q (λ_=>jM) λx2=>bM [] Q2) λx1=>cB Q2
theorem N8{m:Mem}{h:Int}{s1 s2 s3 s4:AC}(h1:aR U s1 m.Heap.Bytes)(h2:aR U s2 m.Heap.Class)(h3:aR U s3 m.aC.Global)(h4:aR U s4 m.aC.Own):V0 prog U 240 (xW m h) [.g (gM m s1 s2 s3 s4),I h] I:=
 cC call240 func240 Q Q2<|c0 Q (λh=>xZ (h.a h1) (h.a h2) (h.a h3) (h.a h4)) λx1=>bE [5,9] Q2 (cB Q2)<|c0 Q (λh=>aB7 (h.a h1) (h.a h2)) λx2=>bE [10,16] Q2 (cB Q2)<|cB Q2
theorem rT{m:Mem}{h next_:Int}{s1 s2 s3 s4:AC}(h1:aR U s1 m.Heap.Bytes)(h2:aR U s2 m.Heap.Class)(h3:aR U s3 m.aC.Global)(h4:aR U s4 m.aC.Own):VS prog U 186 (TM m h next_) [.g (gM m s1 s2 s3 s4),I h,I next_] [] [] (λr (y:A4C)=>.t [.g (yM r.1 y),I r.2]) (λr y=>(zM r.1 y [])):=
 cC call186 func186 Q Q2<|c1 Q (λh=>AX (h.a h1) (h.a h2) (h.a h3) (h.a h4)) λx1 s5=>eJ 0 3 (λ(p:Bool×Mem)=>IJ m h next_ p.1 p.2) [1,2,3,6,8] (λ(p:Bool×Mem) (_:Unit)=>[(19,.b p.1)]) [0,1] (λp _=>(zM p.2 s5 [.box 2 (yM p.2 s5)])) Q (c0 Q (λh=>JN (h.a h1) (h.a h2) (h.a h3) (h.a h4)) λx10=>cX [14,15] Q2 (bM (p:=(true,x1)) [2,3,4,5,6,0,1] Q2)<|c0 Q (λ_=>yA) λx11=>bM (p:=(!x11,x1)) [2,3,4,5,6,0,1] Q2) λ⟨x2,x3⟩ _=>bE [19] Q2 (iY s5 [0,1,2,3] Q2)<|c0 Q (λh=>N8 (h.a h1) (h.a h2) (h.a h3) (h.a h4)) λx4=>eJ 0 3 (RF x4) [6,8,9] (λ(x5:Mem) (_:Unit)=>[]) [6] (λx5 _=>(zM x5 s5 [.box 2 (yM x5 s5)])) Q (bE [25] Q2 (eJ 0 3 (aBB x4) [6,8,9] (λ(x6:Mem) (_:Unit)=>[]) [6] (λx6 _=>(zM x6 s5 [.box 2 (yM x6 s5)])) Q (iL aG [5,6] Q<|λhF=>bd hF λx7 hA1 hF=>bd hF λx8 hA2 hF=>bd hF λx9 hA3 hF=>fC Q2 (KF hA1 Q (λh=>AU (h.a h1) (h.a h2))<|KF hA2 Q (λ_=>eC)<|have hq3:=rb hA3;wi hq3<|J8 [0] Q4 (λ_=>gY) λu3 _=>λhq3=>un 7 [28] [] [(4,0)] Q6 λhl2=>match u3,hq3 with|_,rfl=>wi hF<|bM (p:=((⟨(⟨x9,x3.Heap.Class⟩:Heap),x3.aC⟩:Mem))) [7,1,2,3,4,6] Q2) (KF hA1 Q (λh=>AU (h.a h1) (h.a h2))<|fC Q2 (KF hA2 Q (λ_=>eC)<|have hq6:=rb hA3;wi hq6<|J8 [0] Q4 (λ_=>gY) λu6 _=>λhq6=>un 7 [28] [] [(4,0)] Q6 λhl3=>match u6,hq6 with|_,rfl=>wi hF<|bM (p:=((⟨(⟨x9,x3.Heap.Class⟩:Heap),x3.aC⟩:Mem))) [7,1,2,3,4,6] Q2) (KF hA2 Q (λ_=>eC)<|have hq8:=rb hA3;wi hq8<|J8 [0] Q4 (λ_=>gY) λu8 _=>λhq8=>un 7 [28] [] [(4,0)] Q6 λhl4=>match u8,hq8 with|_,rfl=>wi hF<|bM (p:=((⟨(⟨x9,x3.Heap.Class⟩:Heap),x3.aC⟩:Mem))) [7,1,2,3,4,6] Q2))) λx6 _=>bM (p:=(x6)) [0,1,2,3,4,5] Q2)<|bM [0,1,2,3,4,6] Q2) λx5 _=>iY s5 [0,1,2,3] Q2
theorem aFB{n:gE}:V0 prog U 241 (MW n) [.g [I n.Key,I n.fT,I n.Next]] .b:=
 cC call241 func241 Q Q2<|dF 0 1 zX [] 2 [] Q (c0 Q (λ_=>bG) λx2=>cX [5,6] Q2 (c0 Q (λ_=>bG) λx3=>cX [9,10,11] Q2 (c0 Q (λ_=>yA) λx4=>bM [] Q2)<|bM [] Q2)<|bM [] Q2) λx1=>cB Q2
theorem aQ4{m:Mem}{h:Int}{n:gE}{s1 s2 s3 s4:AC}(h1:aR U s1 m.Heap.Bytes)(h2:aR U s2 m.Heap.Class)(h3:aR U s3 m.aC.Global)(h4:aR U s4 m.aC.Own):VS prog U 273 (PO m h n) [.g (gM m s1 s2 s3 s4),I h,.g [I n.Key,I n.fT,I n.Next]] [] [] (λr (y:A4C)=>.t [.g (yM r.1 y),I r.2]) (λr y=>(zM r.1 y [])):=
 cC call273 func273 Q Q2<|c1 Q (λh=>AX (h.a h1) (h.a h2) (h.a h3) (h.a h4)) λx1 s5=>eJ 0 4 (λ(p:Bool×Mem)=>EX m h n p.1 p.2) [1,3,5,6,8] (λ(p:Bool×Mem) (_:Unit)=>[(19,.b p.1)]) [0,1,2] (λp _=>(zM p.2 s5 [.box 3 (yM p.2 s5)])) Q (c0 Q (λh=>JN (h.a h1) (h.a h2) (h.a h3) (h.a h4)) λx12=>cX [14,15] Q2 (bM (p:=(true,x1)) [3,4,5,6,7,0,1,2] Q2)<|c0 Q (λ_=>aFB) λx13=>bM (p:=(!x13,x1)) [3,4,5,6,7,0,1,2] Q2) λ⟨x2,x3⟩ _=>bE [19] Q2 (iY s5 [0,1,2,3] Q2)<|c0 Q (λh=>N8 (h.a h1) (h.a h2) (h.a h3) (h.a h4)) λx4=>eJ 0 4 (NV x4) [6,8,9] (λ(x5:Mem) (_:Unit)=>[]) [7] (λx5 _=>(zM x5 s5 [.box 3 (yM x5 s5)])) Q (bE [25] Q2 (eJ 0 4 (ZP x4) [6,8,9] (λ(x6:Mem) (_:Unit)=>[]) [7] (λx6 _=>(zM x6 s5 [.box 3 (yM x6 s5)])) Q (iL aG [5,6,7] Q<|λhF=>bd hF λx7 hA1 hF=>bd hF λx8 hA2 hF=>bd hF λx9 hA3 hF=>nd hF λhA4 hF=>bd hF λx10 hA5 hF=>nd hF λhA6 hF=>bd hF λx11 hA7 hF=>fC Q2 (KF hA1 Q (λh=>AU (h.a h1) (h.a h2))<|KF hA2 Q (λ_=>eC)<|KF hA3 Q (λ_=>eC)<|have hq4:=rn hA4;cat Q Q Q Q hq4 λhq4=>KF hA5 Q (λ_=>eC)<|have hq6:=rn hA6;cat Q Q Q Q hq6 λhq6=>have hq7:=rb hA7;wi hq7<|J8 [0] Q4 (λ_=>gY) λu5 _=>λhq7=>un 8 [28] [] [(4,0)] Q6 λhl2=>match u5,hq7 with|_,rfl=>wi hF<|bM (p:=((⟨(⟨x11,x3.Heap.Class⟩:Heap),x3.aC⟩:Mem))) [8,1,2,3,4,7] Q2) (KF hA1 Q (λh=>AU (h.a h1) (h.a h2))<|fC Q2 (KF hA2 Q (λ_=>eC)<|KF hA3 Q (λ_=>eC)<|have hq11:=rn hA4;cat Q Q Q Q hq11 λhq11=>KF hA5 Q (λ_=>eC)<|have hq13:=rn hA6;cat Q Q Q Q hq13 λhq13=>have hq14:=rb hA7;wi hq14<|J8 [0] Q4 (λ_=>gY) λu10 _=>λhq14=>un 8 [28] [] [(4,0)] Q6 λhl3=>match u10,hq14 with|_,rfl=>wi hF<|bM (p:=((⟨(⟨x11,x3.Heap.Class⟩:Heap),x3.aC⟩:Mem))) [8,1,2,3,4,7] Q2) (KF hA2 Q (λ_=>eC)<|fC Q2 (KF hA3 Q (λ_=>eC)<|have hq17:=rn hA4;cat Q Q Q Q hq17 λhq17=>KF hA5 Q (λ_=>eC)<|have hq19:=rn hA6;cat Q Q Q Q hq19 λhq19=>have hq20:=rb hA7;wi hq20<|J8 [0] Q4 (λ_=>gY) λu14 _=>λhq20=>un 8 [28] [] [(4,0)] Q6 λhl4=>match u14,hq20 with|_,rfl=>wi hF<|bM (p:=((⟨(⟨x11,x3.Heap.Class⟩:Heap),x3.aC⟩:Mem))) [8,1,2,3,4,7] Q2) (KF hA3 Q (λ_=>eC)<|have hq22:=rn hA4;cat Q Q Q Q hq22 λhq22=>fC Q2 (KF hA5 Q (λ_=>eC)<|have hq24:=rn hA6;cat Q Q Q Q hq24 λhq24=>have hq25:=rb hA7;wi hq25<|J8 [0] Q4 (λ_=>gY) λu17 _=>λhq25=>un 8 [28] [] [(4,0)] Q6 λhl5=>match u17,hq25 with|_,rfl=>wi hF<|bM (p:=((⟨(⟨x11,x3.Heap.Class⟩:Heap),x3.aC⟩:Mem))) [8,1,2,3,4,7] Q2) (KF hA5 Q (λ_=>eC)<|have hq27:=rn hA6;cat Q Q Q Q hq27 λhq27=>have hq28:=rb hA7;wi hq28<|J8 [0] Q4 (λ_=>gY) λu19 _=>λhq28=>un 8 [28] [] [(4,0)] Q6 λhl6=>match u19,hq28 with|_,rfl=>wi hF<|bM (p:=((⟨(⟨x11,x3.Heap.Class⟩:Heap),x3.aC⟩:Mem))) [8,1,2,3,4,7] Q2))))) λx6 _=>bM (p:=(x6)) [0,1,2,3,4,5] Q2)<|bM [0,1,2,3,4,7] Q2) λx5 _=>iY s5 [0,1,2,3] Q2
theorem aIE{t:Table}{j:aI}{x:aX}{b:cQ}{s1 s2 s3 s4 s5 s6 s7 s8 s9 s10 s11:AC}{s12 s13 s14 s15 s16 s17 s18:AC}{b0 b1 b2:Nat×Nat}:VS prog U 187 (NW t j x b) [.p 0 0,.p 1 0,.g [I x.Key,.b x.KR,I x.fT],.p 2 0] [b0,b1,b2] (([.box 0 (FF t s1 s2 s3 s4 s5 s6 s7 s8 s9 s10 s11),.box 1 (gTj j s12 s13 s14 s15 s16 s17 s18),.box 2 [I b.Head,I b.jS,I b.g9]]++(oBs t.aA s1 s2 s3 s4 s5 s6 s7 [ow s10 (t.dQ:List aN),ow s11 (t.Log:List J9)]))++(oTj j s12 s13 s14 s15 s16 s17 s18 [])) (λr (y:A4C)=>.t []) (λr y=>(([.box 0 [.h y.1 r.1.aA.Mem.Heap.Bytes.length,.h y.2.1 r.1.aA.Mem.Heap.Class.length,.h y.2.2.1 r.1.aA.Mem.aC.Global.length,.h y.2.2.2 r.1.aA.Mem.aC.Own.length,I r.1.aA.aD.aJ,.h s5 r.1.aA.aD.cG.length,.h s6 r.1.aA.aM.length,.h s7 r.1.aA.lX.length,.h s8 t.bZ.length,.h s9 t.aQ.length,.h s10 r.1.dQ.length,.h s11 r.1.Log.length,I r.1.aO],.box 1 (gTj r.2.1 s12 s13 s14 s15 s16 s17 s18),.box 2 [I r.2.2.Head,I r.2.2.jS,I r.2.2.g9]]++(oBs r.1.aA y.1 y.2.1 y.2.2.1 y.2.2.2 s5 s6 s7 [ow s10 r.1.dQ,ow s11 r.1.Log]))++(oTj r.2.1 s12 s13 s14 s15 s16 s17 s18 []))):=
 cC call187 func187 Q Q2<|iL aG [0,1,2,19] Q<|c0 Q (λh=>AV (h.o 14 Q)) λx1=>bE [39,46] Q2 (fK 1 1 0 32 [12,13,14,15,16,17,18] Q5 (λ_=>eN) λx2 _=>J4 (s1,s2,s3,s4) [0,1,2,3,4,5,6,7,8,9,10,11,20,21,22,23,24,25,26] Q Q)<|bE [49,54] Q2 (eJ 0 4 (F8 t j b) [0,1,3] (λ(x3:Table) (u:A4C)=>[]) [12,13,14,15,16,17,18,1,2] (λx3 u=>(oBs x3.aA u.1 u.2.1 u.2.2.1 u.2.2.2 s5 s6 s7 [ow s10 (x3.dQ:List aN),ow s11 (x3.Log:List J9),.box 0 [.h u.1 x3.aA.Mem.Heap.Bytes.length,.h u.2.1 x3.aA.Mem.Heap.Class.length,.h u.2.2.1 x3.aA.Mem.aC.Global.length,.h u.2.2.2 x3.aA.Mem.aC.Own.length,I x3.aA.aD.aJ,.h s5 x3.aA.aD.cG.length,.h s6 x3.aA.aM.length,.h s7 x3.aA.lX.length,.h s8 t.bZ.length,.h s9 t.aQ.length,.h s10 x3.dQ.length,.h s11 x3.Log.length,I x3.aO]])) Q (iL aG [1,2,19] Q<|pI oI 16 Q3 λx4 h1 _ h2=>λhF=>lJ 4 h2 h1 Q5<|bd hF λx5 hA1 hF=>(by refine fC Q2 ?_ ?_<;>exact QI hA1 Q (λh=>aQ4 (h.o 3 Q) (h.o 4 Q) (h.o 5 Q) (h.o 6 Q)) λs24=>sF Q<|jR oI 20 [] h1 () Q7<|fR Q2<|mQ (p:=(({t with aA:=(⟨x5.1,t.aA.aD,t.aA.aM,t.aA.lX⟩:aA)}:Table))) s24 [23,24,25,26,7,8,9,10,11,0,12,13,14,15,27,17,18,1,2] hF Q)) λx3 ⟨s19,s20,s21,s22⟩=>J4 (s19,s20,s21,s22) [9,17,18,0,1,2,3,4,5,6,7,8,10,11,12,13,14,15,16] Q Q)<|pI oI 16 Q3 λx6 h3 _ h4=>λhF=>lJ 4 h4 h3 Q5<|sF Q<|jR oI 20 [] h3 () Q7<|oF (s1,s2,s3,s4) [0,1,2,3,4,5,6,7,8,9,10,11,12,13,14,15,23,17,18] hF Q2 Q4
theorem aF9{t:Table}{w_:Int}{s1 s2 s3 s4 s5 s6 s7 s8 s9 s10 s11:AC}{b0:Nat×Nat}:VS prog U 85 (BJ t w_) [.p 0 0,I w_] [b0] ([.box 0 (FF t s1 s2 s3 s4 s5 s6 s7 s8 s9 s10 s11)]++(SM t s1 s2 s3 s4 s5 s6 s7 s8 s9 s10 s11 [])) (λr (y:A4C)=>.t []) (λr y=>([.box 0 (FF r y.1 y.2.1 y.2.2.1 y.2.2.2 s5 s6 s7 s8 s9 s10 s11)]++(SM r y.1 y.2.1 y.2.2.1 y.2.2.2 s5 s6 s7 s8 s9 s10 s11 []))):=
 cC call85 func85 Q Q2<|pI bA 9 Q3 λx1 h1 s12 h2=>λhF=>lJ 1 h2 h1 Q5<|wi hF<|eJ 0 2 (λ(_:Unit)=>CZ t w_ x1) [0,4] (λ(_:Unit) (_:Unit)=>[(22,.b (decide ((x1.aH.length:Int)<=x1.K)))]) [1,2,3,4,5,6,7,8,10,11,0,14] (λ_ _=>[ow s9 (t.aQ:List aI)]) Q (iL aG [0,14] Q<|λhF=>(by refine fC Q2 ?_ ?_<;>exact sF Q<|jR bA 12 [15,16,17,18,19,20,21] h1 s12 Q7<|fR Q2<|mQ (p:=()) () [22,1,2,3,4,5,6,7,8,10,11,0,14] hF Q)) λ_ _=>bE [22] Q2 (λhF=>ro bA 0 12 1 Q Q Q Q hF λx2 h3 hF s13=>sR Q<|oT bA 13 [16,17,18,19,20,21,22] [] ({x2 with Pc:=14}:aI) s13 Q8<|fR Q2<|uM s9 dE.symm [] [(11,9)] Q3<|fR Q2<|oF (s1,s2,s3,s4) [11,1,2,3,4,5,6,7,8,23,9,10] hF Q2 Q4)<|eJ 0 4 (λ(p:Int×Bool×Int)=>CY t w_ p.1 p.2.1 p.2.2) [0,4] (λ(p:Int×Bool×Int) (_:Unit)=>[(5,.p 3 0)]) [1,2,3,4,5,6,7,8,0,9,10,11,12] (λp _=>[.box 3 [I p.1,.b p.2.1,I p.2.2]]) Q (iL aG [11,12] Q<|λhF=>bd hF λx30 hA6 hF=>bd hF λx31 hA7 hF=>aTG Q Q (have hq32:=rb hA6;ro bA 0 12 1 Q Q Q Q hq32 λu29 h23 hq32 s51=>match u29,hq32 with|_,rfl=>fC Q2 (have hq33:=rb hA7;wi hq33<|pI C2 18 Q3 λu30 h25 _ h26=>λhq33=>lJ 2 h26 h25 Q5<|match u30,hq33 with|_,rfl=>(by refine fC Q2 ?_ ?_<;>exact sF Q<|jR C2 23 [] h25 () Q7<|fR Q2<|jR bA 13 [16,17,27,19,20,21,22] h23 s51 Q7<|fR Q2<|mQ (p:=(x31.Key,x31.KR,x31.fT)) () [26,1,2,3,4,5,6,7,8,28,9,10,11,12] hF Q)) (have hq34:=rb hA7;wi hq34<|pI C2 18 Q3 λu31 h27 _ h28=>λhq34=>lJ 3 h28 h27 Q5<|match u31,hq34 with|_,rfl=>sF Q<|swR 3 2 Q<|fD Q Q<|jR C2 24 [] h27 () Q7<|fR Q2<|jR bA 13 [16,17,27,19,20,21,22] h23 s51 Q7<|fR Q2<|mQ (p:=(x31.Key,x31.KR,x31.fT)) () [23,1,2,3,4,5,6,7,8,28,9,10,11,12] hF Q)) (have hq35:=rb hA6;ro bA 0 12 1 Q Q Q Q hq35 λu32 h29 hq35 s52=>match u32,hq35 with|_,rfl=>fC Q2 (have hq36:=rb hA7;wi hq36<|pI C2 18 Q3 λu33 h31 _ h32=>λhq36=>lJ 2 h32 h31 Q5<|match u33,hq36 with|_,rfl=>(by refine fC Q2 ?_ ?_<;>exact sF Q<|jR C2 23 [] h31 () Q7<|fR Q2<|jR bA 13 [16,17,27,19,20,21,22] h29 s52 Q7<|fR Q2<|mQ (p:=(x31.Key,x31.KR,x31.fT)) () [26,1,2,3,4,5,6,7,8,28,9,10,11,12] hF Q)) (have hq37:=rb hA7;wi hq37<|pI C2 18 Q3 λu34 h33 _ h34=>λhq37=>lJ 3 h34 h33 Q5<|match u34,hq37 with|_,rfl=>sF Q<|swR 3 2 Q<|fD Q Q<|jR C2 24 [] h33 () Q7<|fR Q2<|jR bA 13 [16,17,27,19,20,21,22] h29 s52 Q7<|fR Q2<|mQ (p:=(x31.Key,x31.KR,x31.fT)) () [23,1,2,3,4,5,6,7,8,28,9,10,11,12] hF Q)) ((by refine fC Q2 ?_ ?_<;>exact have hq38:=rb hA6;ro bA 0 12 1 Q Q Q Q hq38 λu35 h35 hq38 s53=>match u35,hq38 with|_,rfl=>have hq39:=rb hA7;wi hq39<|pI C2 19 Q3 λu36 h37 _ h38=>λhq39=>lJ 3 h38 h37 Q5<|match u36,hq39 with|_,rfl=>sF Q<|swR 3 2 Q<|fD Q Q<|jR C2 24 [] h37 () Q7<|fR Q2<|jR bA 14 [17,18,27,20,21,22,23] h35 s53 Q7<|fR Q2<|mQ (p:=(x31.Key,x31.KR,x31.fT)) () [13,1,2,3,4,5,6,7,8,28,9,10,11,12] hF Q))) λ⟨x3,x4,x5⟩ _=>iL aG [0,12,13] Q<|c0 Q (λ_=>YG) λx6=>pI D6 8 Q3 λx7 h5 _ h6=>λhF=>lJ 4 h6 h5 Q5<|ro bA 9 13 1 Q Q Q Q hF λx8 h7 hF s14=>wi hF<|bE [53,54] Q2 (bE [72] Q2 (fK 18 1 0 32 [20,21,22,23,24,25,26] Q5 (λ_=>JM (j:=({x8 with Pc:=10,H:=x7.Head,gN:=0}:aI))) λx9 _=>λhF=>sF Q<|oT bA 17 [27,28,29,30,31,32,33] [] x9 s14 Q8<|fR Q2<|uM s9 dE.symm [] [(12,9)] Q3<|fR Q2<|jR D6 14 [] h5 () Q7<|fR Q2<|oF (s1,s2,s3,s4) [12,1,2,3,4,5,6,7,35,34,10,11] hF Q2 Q4)<|λhF=>sF Q<|oT bA 17 [20,21,22,23,24,25,26] [] ({x8 with Pc:=10,H:=x7.Head,gN:=0}:aI) s14 Q8<|fR Q2<|uM s9 dE.symm [] [(12,9)] Q3<|fR Q2<|jR D6 14 [] h5 () Q7<|fR Q2<|oF (s1,s2,s3,s4) [12,1,2,3,4,5,6,7,28,27,10,11] hF Q2 Q4)<|bE [76,77] Q2 (iL aG [0,12,13,16,19] Q<|c0 Q (λh=>aFA (h.o 1 Q) (h.o 2 Q) (h.o 3 Q) (h.o 4 Q)) λx10=>iL aG [0,12,13,16,19] Q<|bE [109,117] Q2 (λhF=>sF Q<|oT bA 17 [20,21,22,23,24,25,26] [] ({x8 with Pc:=11,Node:=x10.1}:aI) s14 Q8<|fR Q2<|uM s9 dE.symm [] [(12,9)] Q3<|fR Q2<|jR D6 14 [] h5 () Q7<|fR Q2<|oF (s1,s2,s3,s4) [12,1,2,3,4,5,6,7,28,27,10,11] hF Q2 Q4)<|c0 Q (λ_=>dN) λx11=>bE [121,127] Q2 (fK 18 1 0 32 [20,21,22,23,24,25,26] Q5 (λ_=>JM (j:=({x8 with Node:=x10.1}:aI))) λx12 _=>λhF=>sF Q<|oT bA 17 [27,28,29,30,31,32,33] [] x12 s14 Q8<|fR Q2<|uM s9 dE.symm [] [(12,9)] Q3<|fR Q2<|jR D6 14 [] h5 () Q7<|fR Q2<|oF (s1,s2,s3,s4) [12,1,2,3,4,5,6,7,35,34,10,11] hF Q2 Q4)<|eJ 0 5 (CU t) [0] (λ(x13:(List aI)) (_:Unit)=>[]) [1,2,3,4,5,6,7,10,11] (λx13 _=>[ow s8 (t.bZ:List cQ),ow s9 (x13:List aI),.box 0 [.h s1 t.aA.Mem.Heap.Bytes.length,.h s2 t.aA.Mem.Heap.Class.length,.h s3 t.aA.Mem.aC.Global.length,.h s4 t.aA.Mem.aC.Own.length,I t.aA.aD.aJ,.h s5 t.aA.aD.cG.length,.h s6 t.aA.aM.length,.h s7 t.aA.lX.length,.h s8 t.bZ.length,.h s9 x13.length,.h s10 t.dQ.length,.h s11 t.Log.length,I t.aO]]) Q (iL aG [0,12,13,16,19] Q<|λhF=>bd hF λx14 hA1 hF=>fC Q2 (KF hA1 Q (λ_=>dN)<|sF Q<|oT bA 17 [20,21,22,23,24,25,26] [] ({x8 with H:=x14,gN:=x8.H,Node:=x10.1}:aI) s14 Q8<|fR Q2<|uM s9 dE.symm [] [(12,9)] Q3<|fR Q2<|jR D6 14 [] h5 () Q7<|fR Q2<|mQ (p:=(t.aQ.set w_.toNat ({x8 with H:=x14,gN:=x8.H,Node:=x10.1}:aI))) () [28,27,12,1,2,3,4,5,6,7,10,11] hF Q) ((by refine fC Q2 ?_ ?_<;>exact KF hA1 Q (λ_=>dN)<|sF Q<|oT bA 17 [20,21,22,23,24,25,26] [] ({x8 with H:=x14,gN:=x8.H,Node:=x10.1}:aI) s14 Q8<|fR Q2<|uM s9 dE.symm [] [(12,9)] Q3<|fR Q2<|jR D6 14 [] h5 () Q7<|fR Q2<|mQ (p:=(t.aQ.set w_.toNat ({x8 with H:=x14,gN:=x8.H,Node:=x10.1}:aI))) () [28,27,12,1,2,3,4,5,6,7,10,11] hF Q))) λx13 _=>J4 (s1,s2,s3,s4) [2,3,4,5,6,7,8,9,0,1,10,11] Q Q)<|bE [131,132] Q2 (eJ 0 5 (nK w_ x3 x4 x5) [0,4,5] (λ(x15:Table) (u:A4C)=>[]) [13,0] (λx15 u=>(SM x15 u.1 u.2.1 u.2.2.1 u.2.2.2 s5 s6 s7 s8 s9 s10 s11 [.box 0 (FF x15 u.1 u.2.1 u.2.2.1 u.2.2.2 s5 s6 s7 s8 s9 s10 s11)])) Q (bE [137] Q2 (c0 Q (λ_=>dN) λx25=>λhF=>sF Q<|jR bA 17 [20,21,22,23,24,25,26] h7 s14 Q7<|fR Q2<|oT D6 14 [] [39] ({x7 with Head:=x25}:cQ) () Q8<|fR Q2<|uM s8 dE.symm [] [(12,8)] Q3<|fR Q2<|mQ (s1,s2,s3,s4) [1,2,3,4,5,6,7,28,27,10,11,12,13,0] hF Q)<|eJ 0 5 (CX w_ x3 x4 x5) [0,4,5] (λ(x26:Table) (u:A4C)=>[]) [13,0] (λx26 u=>(SM x26 u.1 u.2.1 u.2.2.1 u.2.2.2 s5 s6 s7 s8 s9 s10 s11 [.box 0 (FF x26 u.1 u.2.1 u.2.2.1 u.2.2.2 s5 s6 s7 s8 s9 s10 s11)])) Q (iL aG [0,13,16,19] Q<|λhF=>bd hF λx27 hA4 hF=>bd hF λx28 hA5 hF=>aTG Q Q (fC Q2 (KF hA4 Q (λ_=>dN)<|QI hA5 Q (λh=>rT (h.o 1 Q) (h.o 2 Q) (h.o 3 Q) (h.o 4 Q)) λs37=>sF Q<|jR bA 17 [20,21,22,23,24,25,26] h7 s14 Q7<|fR Q2<|jR D6 14 [] h5 () Q7<|fR Q2<|mQ (p:=(({t with aA:=(⟨x28.1,t.aA.aD,t.aA.aM,t.aA.lX⟩:aA)}:Table))) s37 [27,28,29,30,5,6,7,32,31,10,11,12,13,0] hF Q) ((by refine fC Q2 ?_ ?_<;>exact KF hA4 Q (λ_=>dN)<|QI hA5 Q (λh=>rT (h.o 1 Q) (h.o 2 Q) (h.o 3 Q) (h.o 4 Q)) λs38=>sF Q<|jR bA 17 [20,21,22,23,24,25,26] h7 s14 Q7<|fR Q2<|jR D6 14 [] h5 () Q7<|fR Q2<|mQ (p:=(({t with aA:=(⟨x28.1,t.aA.aD,t.aA.aM,t.aA.lX⟩:aA)}:Table))) s38 [27,28,29,30,5,6,7,32,31,10,11,12,13,0] hF Q))) (fC Q2 (KF hA4 Q (λ_=>dN)<|QI hA5 Q (λh=>rT (h.o 1 Q) (h.o 2 Q) (h.o 3 Q) (h.o 4 Q)) λs40=>sF Q<|jR bA 17 [20,21,22,23,24,25,26] h7 s14 Q7<|fR Q2<|jR D6 14 [] h5 () Q7<|fR Q2<|mQ (p:=(({t with aA:=(⟨x28.1,t.aA.aD,t.aA.aM,t.aA.lX⟩:aA)}:Table))) s40 [27,28,29,30,5,6,7,32,31,10,11,12,13,0] hF Q) ((by refine fC Q2 ?_ ?_<;>exact KF hA4 Q (λ_=>dN)<|QI hA5 Q (λh=>rT (h.o 1 Q) (h.o 2 Q) (h.o 3 Q) (h.o 4 Q)) λs41=>sF Q<|jR bA 17 [20,21,22,23,24,25,26] h7 s14 Q7<|fR Q2<|jR D6 14 [] h5 () Q7<|fR Q2<|mQ (p:=(({t with aA:=(⟨x28.1,t.aA.aD,t.aA.aM,t.aA.lX⟩:aA)}:Table))) s41 [27,28,29,30,5,6,7,32,31,10,11,12,13,0] hF Q))) (aTG Q Q ((by refine fC Q2 ?_ ?_<;>exact KF hA4 Q (λ_=>dN)<|QI hA5 Q (λh=>rT (h.o 1 Q) (h.o 2 Q) (h.o 3 Q) (h.o 4 Q)) λs43=>sF Q<|jR bA 17 [20,21,22,23,24,25,26] h7 s14 Q7<|fR Q2<|jR D6 14 [] h5 () Q7<|fR Q2<|mQ (p:=(({t with aA:=(⟨x28.1,t.aA.aD,t.aA.aM,t.aA.lX⟩:aA)}:Table))) s43 [27,28,29,30,5,6,7,32,31,10,11,12,13,0] hF Q)) ((by refine fC Q2 ?_ ?_<;>exact KF hA4 Q (λ_=>dN)<|QI hA5 Q (λh=>rT (h.o 1 Q) (h.o 2 Q) (h.o 3 Q) (h.o 4 Q)) λs45=>sF Q<|jR bA 17 [20,21,22,23,24,25,26] h7 s14 Q7<|fR Q2<|jR D6 14 [] h5 () Q7<|fR Q2<|mQ (p:=(({t with aA:=(⟨x28.1,t.aA.aD,t.aA.aM,t.aA.lX⟩:aA)}:Table))) s45 [27,28,29,30,5,6,7,32,31,10,11,12,13,0] hF Q)) (KF hA4 Q (λ_=>dN)<|(by refine fC Q2 ?_ ?_<;>exact QI hA5 Q (λh=>rT (h.o 1 Q) (h.o 2 Q) (h.o 3 Q) (h.o 4 Q)) λs47=>sF Q<|jR bA 17 [20,21,22,23,24,25,26] h7 s14 Q7<|fR Q2<|jR D6 14 [] h5 () Q7<|fR Q2<|mQ (p:=(({t with aA:=(⟨x28.1,t.aA.aD,t.aA.aM,t.aA.lX⟩:aA)}:Table))) s47 [27,28,29,30,5,6,7,32,31,10,11,12,13,0] hF Q)))) λx26 ⟨s32,s33,s34,s35⟩=>pC (p:=(x26)) (s32,s33,s34,s35) [0,1,2,3,4,5,6,7,8,9,10,11,12,13] Q2) λx15 ⟨s15,s16,s17,s18⟩=>eJ 1 5 (nJ w_ x3 x4 x5) [0,4,5] (λ(x16:Table) (_:Unit)=>[]) [12,13] (λx16 _=>(SM x16 s15 s16 s17 s18 s5 s6 s7 s8 s9 s10 s11 [.box 0 (FF x16 s15 s16 s17 s18 s5 s6 s7 s8 s9 s10 s11)])) Q (eJ 0 5 (λ(p:Bool×Table)=>sJ w_ x3 x4 x5 p.1 p.2) [0,4,5] (λ(p:Bool×Table) (_:Unit)=>[(180,.b p.1)]) [12,13] (λp _=>(SM p.2 s15 s16 s17 s18 s5 s6 s7 s8 s9 s10 s11 [.box 0 (FF p.2 s15 s16 s17 s18 s5 s6 s7 s8 s9 s10 s11)])) Q (λhF=>ro bA 8 12 1 Q Q Q Q hF λx23 h17 hF s31=>wi hF<|c0 Q (λ_=>jM) λx24=>cX [172,173] Q2 (λhF=>sF Q<|jR bA 14 [17,18,19,20,21,22,23] h17 s31 Q7<|fR Q2<|mQ (p:=(decide ((x23.bU.length:Int)<6),x15)) () [0,1,2,3,4,5,6,7,24,9,10,11,12,13] hF Q)<|λhF=>sF Q<|jR bA 14 [17,18,19,20,21,22,23] h17 s31 Q7<|fR Q2<|mQ (p:=(false,x15)) () [0,1,2,3,4,5,6,7,24,9,10,11,12,13] hF Q) λ⟨x19,x20⟩ _=>bE [180] Q2 (eJ 0 5 (CV w_ x3 x4 x5) [0,4,5] (λ(x21:Table) (_:Unit)=>[]) [12,13] (λx21 _=>(SM x21 s15 s16 s17 s18 s5 s6 s7 s8 s9 s10 s11 [.box 0 (FF x21 s15 s16 s17 s18 s5 s6 s7 s8 s9 s10 s11)])) Q (iL aG [11,12,13] Q<|λhF=>bd hF λx22 hA2 hF=>nd hF λhA3 hF=>fC Q2 (have hq4:=rb hA2;ro bA 8 12 1 Q Q Q Q hq4 λu4 h13 hq4 s23=>match u4,hq4 with|_,rfl=>lt1 Q aS Q4 λs24=>have hq5:=rn hA3;ap 23 aS Q Q Q Q Q Q Q (λh=>(h.o 24 Q)) Q Q hq5 λhq5 s25=>sF Q<|oT bA 14 [17,18,19,20,21,22,23] [] ({x22 with bU:=x22.bU++([x22.H])}:aI) (s23.1,s23.2.1,s23.2.2.1,s23.2.2.2.1,s23.2.2.2.2.1,s23.2.2.2.2.2.1,s25) Q8<|fR Q2<|uM s9 dE.symm [] [(11,9)] Q3<|fR Q2<|mQ (p:=(({x20 with aQ:=x20.aQ.set w_.toNat ({x22 with bU:=x22.bU++([x22.H])}:aI)}:Table))) () [0,1,2,3,4,5,6,7,25,9,10,11,12,13] hF Q) (have hq6:=rb hA2;ro bA 8 12 1 Q Q Q Q hq6 λu5 h15 hq6 s26=>match u5,hq6 with|_,rfl=>(by refine fC Q2 ?_ ?_<;>exact lt1 Q aS Q4 λs27=>have hq7:=rn hA3;ap 23 aS Q Q Q Q Q Q Q (λh=>(h.o 24 Q)) Q Q hq7 λhq7 s28=>sF Q<|oT bA 14 [17,18,19,20,21,22,23] [] ({x22 with bU:=x22.bU++([x22.H])}:aI) (s26.1,s26.2.1,s26.2.2.1,s26.2.2.2.1,s26.2.2.2.2.1,s26.2.2.2.2.2.1,s28) Q8<|fR Q2<|uM s9 dE.symm [] [(11,9)] Q3<|fR Q2<|mQ (p:=(({x20 with aQ:=x20.aQ.set w_.toNat ({x22 with bU:=x22.bU++([x22.H])}:aI)}:Table))) () [0,1,2,3,4,5,6,7,25,9,10,11,12,13] hF Q))) λx21 _=>bM (p:=(x21)) [0,1,2,3,4,5,6,7,8,9,10,11,12,13] Q2)<|bM [0,1,2,3,4,5,6,7,8,9,10,11,12,13] Q2) λx16 _=>λhF=>ro bA 8 12 1 Q Q Q Q hF λx17 h9 hF s19=>wi hF<|fK 15 1 0 32 [17,18,19,20,21,22,23] Q5 (λ_=>JM) λx18 _=>λhF=>sF Q<|oT bA 14 [24,25,26,27,28,29,30] [] x18 s19 Q8<|fR Q2<|uM s9 dE.symm [] [(11,9)] Q3<|fR Q2<|oF (s15,s16,s17,s18) [11,0,1,2,3,4,5,6,7,31,9,10] hF Q2 Q4)<|bOF 12 0 0 13 18 1 0 32 15 4 0 3 [1,2,3,4,5,6,7,10,11,20,21,22,23,24,25,26] Q Q Q Q Q (λ_=>aIE) λx29 s49=>λhF=>fG Q Q<|sF Q<|oT bA 17 [36,37,38,39,40,41,42] [] x29.2.1 s14 Q8<|fR Q2<|uM s9 dE.symm [] [(12,9)] Q3<|fR Q2<|oT D6 14 [] [39] x29.2.2 () Q8<|fR Q2<|uM s8 dE.symm [] [(12,8)] Q3<|fR Q2<|oF s49 [12,27,28,29,30,31,32,33,44,43,34,35] hF Q2 Q4
theorem O1{s:List Int}{i j:Int}{s1:AC}:VS prog U 188 (rB s i j) [.h s1 s.length,I i,I j] [] [ow s1 (s:List Int)] (λr (y:AC)=>.h y r.length) (λr y=>[ow y r]):=
 cC call188 func188 Q Q2<|λhF=>cpc 0 Q Q λhc1=>a23 hc1 Q Q Q Q Q Q Q Q hF λhF h1=>wi hF<|bE [16] Q2 (iY s1 [0] Q2)<|iL aG [] Q<|λhF=>aTI hc1 Q Q Q Q Q Q hF λhF h2=>aL0 hc1 Q6 hF λhF h3=>nd hF λhab hF=>ap2 0 i.toNat j.toNat ⟨hab,h3.1⟩ Q Q Q Q Q Q Q Q Q λh4=>bCB 0 (i.toNat+(s.length-j.toNat)) h4.2 (A5 h4.1 h4.2) Q Q Q Q Q Q Q Q Q hF λhF h5=>clr 0 (((((dA s i.toNat (s.drop j.toNat)).take (i.toNat+(s.length-j.toNat))).drop 0).length:Int).toNat) ((s.length:Int).toNat) (0:Int) h5 aS Q (λ_=>Q) Q Q Q Q Q Q Q Q<|sR Q<|poR 0 0 (i.toNat+(s.length-j.toNat)) Q Q (a21 h4 (qK h5.1 h5.2)) (aW1 (Y5 (by rw[NM,A5 h4.1 h4.2];rfl)) (qK h5.1 h5.2))<|oF (AC.sub s1 1 0) [0] hF Q2 Q4
theorem JO{j:aI}{s1 s2 s3 s4 s5 s6 s7:AC}{b0:Nat×Nat}:VS prog U 189 (mA j) [.p 0 0] [b0] ([.box 0 (gTj j s1 s2 s3 s4 s5 s6 s7)]++(oTj j s1 s2 s3 s4 s5 s6 s7 [])) (λr (y:Unit)=>.t []) (λr y=>([.box 0 (gTj r s1 s2 s3 s4 s5 s6 s7)]++(oTj r s1 s2 s3 s4 s5 s6 s7 []))):=
 cC call189 func189 Q Q2<|iL aG [0] Q<|bE [11] Q2 (eJ 0 1 tG [0] (λ(x1:aI) (_:Unit)=>[]) [] (λx1 _=>(oTj x1 s1 s2 s3 s4 s5 s6 s7 [.box 0 (gTj x1 s1 s2 s3 s4 s5 s6 s7)])) Q (iL aG [] Q<|λhF=>bd hF λx2 hA1 hF=>bd hF λx3 hA2 hF=>(by refine fC Q2 ?_ ?_<;>exact have hq1:=rb hA1;wi hq1<|pI oI 7 Q3 λu1 h3 _ h4=>λhq1=>lJ 1 h4 h3 Q5<|match u1,hq1 with|_,rfl=>KF hA2 Q (λ_=>rR)<|sF Q<|jR oI 8 [] h3 () Q7<|mQ (p:=(({j with Sub:=x3}:aI))) () [1,2,3,4,5,6,11,0] hF Q)) λx1 _=>J4 () [7,0,1,2,3,4,5,6] Q Q)<|J4 () [0,1,2,3,4,5,6,7] Q Q
theorem aEC{t:Table}{w_:Int}{s1 s2 s3 s4 s5 s6 s7 s8 s9 s10 s11:AC}{b0:Nat×Nat}:VS prog U 86 (yS t w_) [.p 0 0,I w_] [b0] ([.box 0 (FF t s1 s2 s3 s4 s5 s6 s7 s8 s9 s10 s11)]++(SM t s1 s2 s3 s4 s5 s6 s7 s8 s9 s10 s11 [])) (λr (y:Unit)=>.t []) (λr y=>([.box 0 (FF r s1 s2 s3 s4 s5 s6 s7 s8 s9 s10 s11)]++(SM r s1 s2 s3 s4 s5 s6 s7 s8 s9 s10 s11 []))):=
 cC call86 func86 Q Q2<|pI bA 9 Q3 λx1 h1 s12 h2=>λhF=>lJ 1 h2 h1 Q5<|wi hF<|bE [20,26] Q2 (iL aG [0,14] Q<|pI oI 20 Q3 λx2 h3 _ h4=>λhF=>lJ 2 h4 h3 Q5<|wi hF<|pI D6 8 Q3 λx3 h5 _ h6=>λhF=>lJ 3 h6 h5 Q5<|wi hF<|eJ 0 4 (mB t w_) [0,4] (λ(x4:(List cQ)) (_:Unit)=>[]) [1,2,3,4,5,6,7,10,11,14] (λx4 _=>[ow s8 (x4:List cQ),ow s9 (t.aQ:List aI),.box 0 [.h s1 t.aA.Mem.Heap.Bytes.length,.h s2 t.aA.Mem.Heap.Class.length,.h s3 t.aA.Mem.aC.Global.length,.h s4 t.aA.Mem.aC.Own.length,I t.aA.aD.aJ,.h s5 t.aA.aD.cG.length,.h s6 t.aA.aM.length,.h s7 t.aA.lX.length,.h s8 x4.length,.h s9 t.aQ.length,.h s10 t.dQ.length,.h s11 t.Log.length,I t.aO]]) Q (bE [45] Q2 (λhF=>aZP Q Q Q Q<|sF Q<|oT D6 25 [] [30] (⟨x3.Head,if 1000000<(aY (x3.jS+1)) then 1000000 else(aY (x3.jS+1)),0⟩:cQ) () Q8<|uM s8 dE.symm [] [(0,8)] Q3<|fR Q2<|jR oI 22 [] h3 () Q7<|fR Q2<|jR bA 12 [15,16,17,18,19,29,21] h1 s12 Q7<|fR Q2<|mQ () [28,30,0,1,2,3,4,5,6,7,10,11,14] hF Q)<|λhF=>sF Q<|oT D6 25 [] [30] ({x3 with g9:=0}:cQ) () Q8<|fR Q2<|uM s8 dE.symm [] [(0,8)] Q3<|fR Q2<|jR oI 22 [] h3 () Q7<|fR Q2<|jR bA 12 [15,16,17,18,19,29,21] h1 s12 Q7<|fR Q2<|mQ () [28,30,0,1,2,3,4,5,6,7,10,11,14] hF Q) λx4 _=>λhF=>ro bA 1 12 1 Q Q Q Q hF λx5 h7 hF s13=>wi hF<|J8 [21] Q4 (λ_=>O1) λx6 s14=>λhF=>sF Q<|oT bA 13 [16,17,18,19,20,23,22] [] ({x5 with bD:=x6}:aI) (s13.1,s13.2.1,s13.2.2.1,s13.2.2.2.1,s13.2.2.2.2.1,s14,s13.2.2.2.2.2.2) Q8<|fR Q2<|uM s9 dE.symm [] [(2,9)] Q3<|fR Q2<|oF () [2,3,4,5,6,7,8,9,0,24,10,11] hF Q2 Q4)<|bE [63,68] Q2 (λhF=>sF Q<|oT bA 12 [15,16,17,18,19,20,21] [9] ({x1 with Pc:=17}:aI) s12 Q8<|fR Q2<|uM s9 dE.symm [] [(0,9)] Q3<|fR Q2<|oF () [0,1,2,3,4,5,6,7,8,22,10,11] hF Q2 Q4)<|fK 13 1 0 32 [15,16,17,18,19,20,21] Q5 (λ_=>JO (j:=({x1 with Pc:=15,K:=0}:aI))) λx7 _=>λhF=>sF Q<|oT bA 12 [22,23,24,25,26,27,28] [9] x7 s12 Q8<|fR Q2<|uM s9 dE.symm [] [(0,9)] Q3<|fR Q2<|oF () [0,1,2,3,4,5,6,7,8,29,10,11] hF Q2 Q4
theorem aED{t:Table}{w_:Int}{s1 s2 s3 s4 s5 s6 s7 s8 s9 s10 s11:AC}{b0:Nat×Nat}:VS prog U 87 (yT t w_) [.p 0 0,I w_] [b0] ([.box 0 (FF t s1 s2 s3 s4 s5 s6 s7 s8 s9 s10 s11)]++(SM t s1 s2 s3 s4 s5 s6 s7 s8 s9 s10 s11 [])) (λr (y:A6C)=>.t []) (λr y=>([.box 0 (FF r y.1 y.2.1 y.2.2.1 y.2.2.2.1 y.2.2.2.2.1 y.2.2.2.2.2 s7 s8 s9 s10 s11)]++(SM r y.1 y.2.1 y.2.2.1 y.2.2.2.1 y.2.2.2.2.1 y.2.2.2.2.2 s7 s8 s9 s10 s11 []))):=
 cC call87 func87 Q Q2<|pI bA 9 Q3 λx1 h1 s12 h2=>λhF=>lJ 1 h2 h1 Q5<|wi hF<|eJ 0 2 (λ(_:Unit)=>zY t w_ x1) [0,1,4] (λ(_:Unit) (_:Unit)=>[(20,.b (decide ((x1.bU.length:Int)<=x1.K)))]) [1,2,3,4,5,6,7,8,10,11,0,14] (λ_ _=>[ow s9 (t.aQ:List aI)]) Q (iL aG [0,14] Q<|λhF=>(by refine fC Q2 ?_ ?_<;>exact sF Q<|jR bA 12 [15,16,17,18,19,20,21] h1 s12 Q7<|fR Q2<|mQ (p:=()) () [22,1,2,3,4,5,6,7,8,10,11,0,14] hF Q)) λ_ _=>bE [20] Q2 (λhF=>ro bA 0 12 1 Q Q Q Q hF λx2 h3 hF s13=>sR Q<|oT bA 13 [16,17,18,19,20,21,22] [] ({x2 with Pc:=18}:aI) s13 Q8<|fR Q2<|uM s9 dE.symm [] [(11,9)] Q3<|fR Q2<|oF (s1,s2,s3,s4,s5,s6) [11,1,2,3,4,5,6,7,8,23,9,10] hF Q2 Q4)<|iL aG [12] Q<|λhF=>ro bA 0 12 1 Q Q Q Q hF λx3 h5 hF s14=>wi hF<|aW2 14 1 16 10 11 0 0 8 [1,2,3,4,5,6,7] Q Q Q Q Q (λ_=>N7) λx4 s15=>bE [36] Q2 (fK 14 1 0 32 [16,17,18,19,20,21,22] Q5 (λ_=>JO (j:=({x3 with K:=aY (x3.K+1),Sub:=x4.1}:aI))) λx5 _=>λhF=>sF Q<|oT bA 13 [30,31,32,33,34,35,36] [] x5 s14 Q8<|fR Q2<|uM s9 dE.symm [] [(11,9)] Q3<|fR Q2<|oF s15 [11,23,24,25,26,27,28,29,8,37,9,10] hF Q2 Q4)<|λhF=>sF Q<|oT bA 13 [16,17,18,19,20,21,22] [] ({x3 with Sub:=x4.1}:aI) s14 Q8<|fR Q2<|uM s9 dE.symm [] [(11,9)] Q3<|fR Q2<|oF s15 [11,23,24,25,26,27,28,29,8,30,9,10] hF Q2 Q4
theorem aQ5{m:Mem}{w_ h:Int}{s1 s2 s3 s4:AC}(h1:aR U s1 m.Heap.Bytes)(h2:aR U s2 m.Heap.Class)(h3:aR U s3 m.aC.Global)(h4:aR U s4 m.aC.Own):VS prog U 190 (PQ m w_ h) [.g (gM m s1 s2 s3 s4),I w_,I h] [] [] (λr (y:A4C)=>.t [.g (yM r.1 y),I r.2]) (λr y=>(zM r.1 y [])):=
 cC call190 func190 Q Q2<|dF 0 2 (EY m w_ h) [1,2,3,6] 8 [0,1] Q (c0 Q (λh=>JN (h.a h1) (h.a h2) (h.a h3) (h.a h4)) λx6=>cX [11,12] Q2 (bM [0,1] Q2)<|c0 Q (λ_=>iX) λx7=>bM [0,1] Q2) λx1=>bE [8] Q2 (c1 Q (λh=>AX (h.a h1) (h.a h2) (h.a h3) (h.a h4)) λx2 s5=>iY s5 [2,3,4,5] Q2)<|c0 Q (λh=>xZ (h.a h1) (h.a h2) (h.a h3) (h.a h4)) λx3=>bE [19,23] Q2 (c1 Q (λh=>AX (h.a h1) (h.a h2) (h.a h3) (h.a h4)) λx4 s6=>iY s6 [2,3,4,5] Q2)<|c1 Q (λh=>aH7 (h.a h1) (h.a h2) (h.a h3) (h.a h4)) λx5 s7=>iY s7 [2,3,4,5] Q2
theorem aIF{t:Table}{w_:Int}{s1 s2 s3 s4 s5 s6 s7 s8 s9 s10 s11:AC}{b0:Nat×Nat}:VS prog U 88 (EZ t w_) [.p 0 0,I w_] [b0] ([.box 0 (FF t s1 s2 s3 s4 s5 s6 s7 s8 s9 s10 s11)]++(SM t s1 s2 s3 s4 s5 s6 s7 s8 s9 s10 s11 [])) (λr (y:A4C)=>.t []) (λr y=>([.box 0 (FF r y.1 y.2.1 y.2.2.1 y.2.2.2 s5 s6 s7 s8 s9 s10 s11)]++(SM r y.1 y.2.1 y.2.2.1 y.2.2.2 s5 s6 s7 s8 s9 s10 s11 []))):=
 cC call88 func88 Q Q2<|pI bA 9 Q3 λx1 h1 s12 h2=>λhF=>lJ 1 h2 h1 Q5<|wi hF<|bE [17] Q2 (λhF=>sR Q<|oT bA 12 [15,16,17,18,19,20,21] [9] ({x1 with Pc:=18}:aI) s12 Q8<|fR Q2<|uM s9 dE.symm [] [(0,9)] Q3<|fR Q2<|oF (s1,s2,s3,s4) [0,1,2,3,4,5,6,7,8,22,10,11] hF Q2 Q4)<|pI oI 19 Q3 λx2 h3 _ h4=>λhF=>lJ 2 h4 h3 Q5<|cqS oI 22 [] h3 () Q9<|wi hF<|J8 [25] Q4 (λ_=>O1) λx3 s13=>c0 Q (λh=>JK (h.o 6 Q)) λx4=>bE [43] Q2 (c1 Q (λh=>aQ5 (h.o 1 Q) (h.o 2 Q) (h.o 3 Q) (h.o 4 Q)) λx5 s14=>λhF=>sF Q<|oT bA 12 [15,16,17,18,26,20,21] [9] ({x1 with eO:=x3}:aI) (s12.1,s12.2.1,s12.2.2.1,s12.2.2.2.1,s13,s12.2.2.2.2.2.1,s12.2.2.2.2.2.2) Q8<|fR Q2<|uM s9 dE.symm [] [(0,9)] Q3<|fR Q2<|oF s14 [0,27,28,29,30,5,6,7,8,31,10,11] hF Q2 Q4)<|λhF=>sF Q<|oT bA 12 [15,16,17,18,26,20,21] [9] ({x1 with eO:=x3}:aI) (s12.1,s12.2.1,s12.2.2.1,s12.2.2.2.1,s13,s12.2.2.2.2.2.1,s12.2.2.2.2.2.2) Q8<|fR Q2<|uM s9 dE.symm [] [(0,9)] Q3<|fR Q2<|oF (s1,s2,s3,s4) [0,1,2,3,4,5,6,7,8,27,10,11] hF Q2 Q4
theorem aXL{c:aD}{w_:Int}{s1:AC}(h1:aR U s1 c.cG):VS prog U 191 (XT c w_) [.g [I c.aJ,.h s1 c.cG.length],I w_] [] [] (λr (y:AC)=>.t [.g [I r.1.aJ,.h y r.1.cG.length],.b r.2]) (λr y=>[ow y r.1.cG]):=
 cC call191 func191 Q Q2<|c1 Q (λh=>uE (h.a h1)) λx1 s2=>dF 0 3 (DL w_ x1) [1,4,6] 25 [1,2,3] Q (c0 Q (λh=>AT (h.a h1)) λx4=>cX [11,12] Q2 (bM [1,2,3] Q2)<|c0 Q (λ_=>iX) λx5=>cX [15,16,17] Q2 (bM [1,2,3] Q2)<|oK a0E Q h1 Q λx6 _ _=>bM [1,2,3] Q2) λx2=>bE [25] Q2 (iY s2 [1] Q2)<|pI aF2 1 Q3 λx3 h2 _ h3=>λhF=>lJ 3 h3 h2 Q5<|sR Q<|oT aF2 3 [] [28] zL3 () Q8<|uM s2 dE.symm [(32,1)] [(0,1),(2,1)] Q3<|fR Q2<|oF s2 [6] hF Q2 Q4
theorem aIG{b:aA}{w_:Int}{s1 s2 s3 s4 s5 s6 s7:AC}{b0:Nat×Nat}:VS prog U 89 (E0 b w_) [.p 0 0,I w_] [b0] ([.box 0 (gB b s1 s2 s3 s4 s5 s6 s7)]++(oBs b s1 s2 s3 s4 s5 s6 s7 [])) (λr (y:AC)=>.b r.1) (λr y=>([.box 0 (gB r.2 s1 s2 s3 s4 y s6 s7)]++(oBs r.2 s1 s2 s3 s4 y s6 s7 []))):=
 cC call89 func89 Q Q2<|c1 Q (λh=>aXL (h.o 5 Q)) λx1 s8=>iY s8 [0,1,2,3,4,8,6,7] Q2
theorem aB9{t:Table}{w_:Int}{s1 s2 s3 s4 s5 s6 s7 s8 s9 s10 s11:AC}{b0:Nat×Nat}:VS prog U 90 (vP t w_) [.p 0 0,I w_] [b0] ([.box 0 (FF t s1 s2 s3 s4 s5 s6 s7 s8 s9 s10 s11)]++(SM t s1 s2 s3 s4 s5 s6 s7 s8 s9 s10 s11 [])) (λr (y:AC)=>.t []) (λr y=>([.box 0 (FF r s1 s2 s3 s4 s5 s6 s7 s8 s9 s10 y)]++(SM r s1 s2 s3 s4 s5 s6 s7 s8 s9 s10 y []))):=
 cC call90 func90 Q Q2<|pI bA 9 Q3 λx1 h1 s12 h2=>λhF=>lJ 1 h2 h1 Q5<|wi hF<|bE [21] Q2 (eJ 0 4 (λ(_:Unit)=>KG t w_ x1) [0,1] (λ(_:Unit) (s13:AC)=>[]) [1,2,3,4,5,6,7,8,10,15,16,17,19,20,21,12,13,14] (λ_ s13=>[ow s13 (t.Log++([({x1 with Kind:=3,Who:=w_,bW:=[]}:J9)]):List J9),.box 0 [.h s1 t.aA.Mem.Heap.Bytes.length,.h s2 t.aA.Mem.Heap.Class.length,.h s3 t.aA.Mem.aC.Global.length,.h s4 t.aA.Mem.aC.Own.length,I t.aA.aD.aJ,.h s5 t.aA.aD.cG.length,.h s6 t.aA.aM.length,.h s7 t.aA.lX.length,.h s8 t.bZ.length,.h s9 t.aQ.length,.h s10 t.dQ.length,.h s13 (t.Log++([({x1 with Kind:=3,Who:=w_,bW:=[]}:J9)])).length,I t.aO]]) Q (iL aG [14,22,23] Q<|λhF=>nd hF λhA1 hF=>(by refine fC Q2 ?_ ?_<;>exact nw kG Q<|ltN bDB [24,18] (({x1 with Kind:=3,Who:=w_,bW:=[]}:J9)) (⟨none,0⟩,s12.2.2.2.1) oE Q13 λs16=>have hq1:=rn hA1;apN 11 25 oE Q Q Q9 hq1 λhq1 s17=>wi hF<|pC (p:=()) s17 [26,0,1,2,3,4,5,6,7,8,10,15,16,17,19,20,21,12,13,14] Q2)) λ_ s13=>λhF=>lJ 1 h2 h1 Q5<|sF Q<|J3 kG<|J3 Seen<|J3 aX<|J3 iZ<|J3 Int<|J3 Int<|J3 Int<|fR Q2<|oT bA 17 [20,21,22,23,24,25,26] [38] zL0 (⟨none,0⟩,⟨none,0⟩,⟨none,0⟩,⟨none,0⟩,⟨none,0⟩,⟨none,0⟩,⟨none,0⟩) Q8<|fR Q2<|uM s9 dE.symm [] [(1,9)] Q3<|fR Q2<|oF s13 [1,2,3,4,5,6,7,8,9,27,10,0] hF Q2 Q4)<|eJ 0 4 (λ(_:Unit)=>KH t w_ x1) [0,1] (λ(_:Unit) (s20:AC)=>[]) [1,2,3,4,5,6,7,8,10,15,16,17,18,19,20,21,12,13,14] (λ_ s20=>[ow s20 (t.Log++([(⟨3,w_,x1.aO,x1.Code,[],[]⟩:J9)]):List J9),.box 0 [.h s1 t.aA.Mem.Heap.Bytes.length,.h s2 t.aA.Mem.Heap.Class.length,.h s3 t.aA.Mem.aC.Global.length,.h s4 t.aA.Mem.aC.Own.length,I t.aA.aD.aJ,.h s5 t.aA.aD.cG.length,.h s6 t.aA.aM.length,.h s7 t.aA.lX.length,.h s8 t.bZ.length,.h s9 t.aQ.length,.h s10 t.dQ.length,.h s20 (t.Log++([(⟨3,w_,x1.aO,x1.Code,[],[]⟩:J9)])).length,I t.aO]]) Q (iL aG [14,22,23] Q<|λhF=>nd hF λhA2 hF=>(by refine fC Q2 ?_ ?_<;>exact nw kG Q<|nw iZ Q<|ltN bDB [24,25] ((⟨3,w_,x1.aO,x1.Code,[],[]⟩:J9)) (⟨none,0⟩,⟨none,0⟩) oE Q13 λs23=>have hq3:=rn hA2;apN 11 26 oE Q Q Q9 hq3 λhq3 s24=>wi hF<|pC (p:=()) s24 [27,0,1,2,3,4,5,6,7,8,10,15,16,17,18,19,20,21,12,13,14] Q2)) λ_ s20=>λhF=>lJ 1 h2 h1 Q5<|sF Q<|J3 kG<|J3 Seen<|J3 aX<|J3 iZ<|J3 Int<|J3 Int<|J3 Int<|fR Q2<|oT bA 18 [21,22,23,24,25,26,27] [38] zL0 (⟨none,0⟩,⟨none,0⟩,⟨none,0⟩,⟨none,0⟩,⟨none,0⟩,⟨none,0⟩,⟨none,0⟩) Q8<|fR Q2<|uM s9 dE.symm [] [(1,9)] Q3<|fR Q2<|oF s20 [1,2,3,4,5,6,7,8,9,28,10,0] hF Q2 Q4
theorem T5{t:Table}{w_:Int}{s1 s2 s3 s4 s5 s6 s7 s8 s9 s10 s11:AC}{b0:Nat×Nat}:VS prog U 33 (wS t w_) [.p 0 0,I w_] [b0] ([.box 0 (FF t s1 s2 s3 s4 s5 s6 s7 s8 s9 s10 s11)]++(SM t s1 s2 s3 s4 s5 s6 s7 s8 s9 s10 s11 [])) (λr (y:A7C)=>.t []) (λr y=>([.box 0 (FF r y.1 y.2.1 y.2.2.1 y.2.2.2.1 y.2.2.2.2.1 y.2.2.2.2.2.1 s7 s8 s9 s10 y.2.2.2.2.2.2)]++(SM r y.1 y.2.1 y.2.2.1 y.2.2.2.1 y.2.2.2.2.1 y.2.2.2.2.2.1 s7 s8 s9 s10 y.2.2.2.2.2.2 []))):=
 cC call33 func33 Q Q2<|pI bA 9 Q3 λx1 h1 s12 h2=>λhF=>lJ 1 h2 h1 Q5<|wi hF<|bE [18,23] Q2 (λhF=>cqS bA 12 [15,16,17,18,19,20,21] h1 s12 Q9<|wi hF<|fK 0 0 0 13 [1,2,3,4,5,6,7,8,22,10,11] Q5 (λ_=>aF4) λx2 s13=>J4 (s1,s2,s3,s4,s5,s6,s13) [0,23,24,25,26,27,28,29,30,31,32,33] Q Q)<|eJ 0 2 (jX t w_ x1) [0,1,4,5] (λ(x3:Bool) (_:Unit)=>[(27,.b x3)]) [1,2,3,4,5,6,7,8,10,11,0,14] (λx3 _=>[ow s9 (t.aQ:List aI)]) Q (cX [29,30] Q2 (λhF=>sF Q<|jR bA 12 [15,16,17,18,19,20,21] h1 s12 Q7<|fR Q2<|mQ () [22,1,2,3,4,5,6,7,8,10,11,0,14] hF Q)<|cX [32,33,34] Q2 (λhF=>sF Q<|jR bA 12 [15,16,17,18,19,20,21] h1 s12 Q7<|fR Q2<|mQ () [22,1,2,3,4,5,6,7,8,10,11,0,14] hF Q)<|λhF=>sF Q<|jR bA 12 [15,16,17,18,19,20,21] h1 s12 Q7<|fR Q2<|mQ () [22,1,2,3,4,5,6,7,8,10,11,0,14] hF Q) λx3 _=>bE [27] Q2 (fK 11 0 0 13 [1,2,3,4,5,6,7,8,0,9,10] Q5 (λ_=>aB5) λx4 s14=>J4 (t6U s14 (s11)) [11,13,14,15,16,17,18,19,20,21,22,23] Q Q)<|bE [41,43] Q2 (λhF=>ro bA 0 12 1 Q Q Q Q hF λx5 h3 hF s15=>wi hF<|fK 14 1 0 32 [16,17,18,19,20,21,22] Q5 (λ_=>aJ9) λx6 s16=>λhF=>sF Q<|oT bA 13 [23,24,25,26,27,28,29] [] x6 (s15.1,s15.2.1,s16.1,s16.2,s15.2.2.2.2.1,s15.2.2.2.2.2.1,s15.2.2.2.2.2.2) Q8<|fR Q2<|uM s9 dE.symm [] [(11,9)] Q3<|fR Q2<|oF (s1,s2,s3,s4,s5,s6,s11) [11,1,2,3,4,5,6,7,8,30,9,10] hF Q2 Q4)<|c0 Q (λ_=>bG) λx7=>bE [46,48] Q2 (fK 11 0 0 13 [1,2,3,4,5,6,7,8,0,9,10] Q5 (λ_=>aIB) λx8 _=>J4 (s1,s2,s3,s4,s5,s6,s11) [11,13,14,15,16,17,18,19,20,21,22,23] Q Q)<|bE [52,54] Q2 (fK 11 0 0 13 [1,2,3,4,5,6,7,8,0,9,10] Q5 (λ_=>aF8) λx9 s17=>J4 (t6U s17 (s11)) [11,13,14,15,16,17,18,19,20,21,22,23] Q Q)<|bE [58,60] Q2 (fK 11 0 0 13 [1,2,3,4,5,6,7,8,0,9,10] Q5 (λ_=>aID) λx10 s18=>J4 (s1,s2,s3,s4,s5,s6,s18) [11,13,14,15,16,17,18,19,20,21,22,23] Q Q)<|bE [64,66] Q2 (fK 11 0 0 13 [1,2,3,4,5,6,7,8,0,9,10] Q5 (λ_=>aAM) λx11 _=>J4 (s1,s2,s3,s4,s5,s6,s11) [11,13,14,15,16,17,18,19,20,21,22,23] Q Q)<|c0 Q (λ_=>bG) λx12=>bE [70,72] Q2 (fK 11 0 0 13 [1,2,3,4,5,6,7,8,0,9,10] Q5 (λ_=>aF9) λx13 s19=>J4 (t4U s19 (s5,s6,s11)) [11,13,14,15,16,17,18,19,20,21,22,23] Q Q)<|dF 0 2 (lO t w_ x1) [0,1,4,5] 76 [1,2,3,4,5,6,7,8,0,9,10,11,12] Q (cX [78,79] Q2 (bM [1,2,3,4,5,6,7,8,0,9,10,11,12] Q2)<|bM [1,2,3,4,5,6,7,8,0,9,10,11,12] Q2) λx14=>bE [76] Q2 (fK 11 0 0 13 [0,1,2,3,4,5,6,7,8,9,10] Q5 (λ_=>aEC) λx15 _=>J4 (s1,s2,s3,s4,s5,s6,s11) [11,13,14,15,16,17,18,19,20,21,22,23] Q Q)<|bE [86,88] Q2 (fK 11 0 0 13 [0,1,2,3,4,5,6,7,8,9,10] Q5 (λ_=>aED) λx16 s20=>J4 (t6U s20 (s11)) [11,13,14,15,16,17,18,19,20,21,22,23] Q Q)<|bE [92,94] Q2 (fK 11 0 0 13 [0,1,2,3,4,5,6,7,8,9,10] Q5 (λ_=>aIF) λx17 s21=>J4 (t4U s21 (s5,s6,s11)) [11,13,14,15,16,17,18,19,20,21,22,23] Q Q)<|bE [98,100] Q2 (fK 11 0 0 8 [0,1,2,3,4,5,6] Q5 (λ_=>aIG) λx18 s22=>λhF=>ro bA 8 12 1 Q Q Q Q hF λx19 h5 hF s23=>sF Q<|oT bA 20 [23,24,25,26,27,28,29] [] ({x19 with Pc:=19}:aI) s23 Q8<|fR Q2<|uM s9 dE.symm [] [(11,9)] Q3<|fR Q2<|oF (s1,s2,s3,s4,s22,s6,s11) [11,13,14,15,16,17,18,19,7,30,9,10] hF Q2 Q4)<|bE [109,111] Q2 (fK 11 0 0 13 [0,1,2,3,4,5,6,7,8,9,10] Q5 (λ_=>aB9) λx20 s24=>J4 (s1,s2,s3,s4,s5,s6,s24) [11,13,14,15,16,17,18,19,20,21,22,23] Q Q)<|λhF=>ro bA 8 12 1 Q Q Q Q hF λx21 h7 hF s25=>wi hF<|fK 14 1 0 32 [16,17,18,19,20,21,22] Q5 (λ_=>eN) λx22 _=>λhF=>sF Q<|oT bA 13 [23,24,25,26,27,28,29] [] x22 s25 Q8<|fR Q2<|uM s9 dE.symm [] [(11,9)] Q3<|fR Q2<|oF (s1,s2,s3,s4,s5,s6,s11) [11,0,1,2,3,4,5,6,7,30,9,10] hF Q2 Q4
theorem WR{x:mR}{s1 s2:AC}(h1:aR U s1 x.dQ)(h2:aR U s2 x.eT):VS prog U 8 (o8 x) [.g [.h s1 x.dQ.length,.h s2 x.eT.length]] [] [] (λr (y:a8Q)=>.g (yTb r y)) (λr y=>(zTb r y [])):=
 cC call8 func8 Q Q2<|c1 Q (λh=>aNB (h.a h1)) λx1 s3=>bE [12] Q2 (iY s3 [2,3,4,5,6,7,8,9,10,11,12] Q2)<|λhF=>aZP Q Q Q Q<|a5Z Q Q Q Q Q h2 Q Q hF λhF s4 h3=>wi hF<|G0 (s3.1,s3.2.1,s3.2.2.1,s3.2.2.2.1,s3.2.2.2.2.1,s3.2.2.2.2.2.1,s3.2.2.2.2.2.2.2.2.2.2) [2,3,20,21] (λ(p:Int×Table) (u:A7C)=>[(22,I p.1)]) [2,3,4,5,6,7,8,9,10,11,12,13,1] [1] (λp u=>(SM p.2 u.1 u.2.1 u.2.2.1 u.2.2.2.1 u.2.2.2.2.1 u.2.2.2.2.2.1 s3.2.2.2.2.2.2.1 s3.2.2.2.2.2.2.2.1 s3.2.2.2.2.2.2.2.2.1 s3.2.2.2.2.2.2.2.2.2.1 u.2.2.2.2.2.2 [.box 2 (FF p.2 u.1 u.2.1 u.2.2.1 u.2.2.2.1 u.2.2.2.2.1 u.2.2.2.2.2.1 s3.2.2.2.2.2.2.1 s3.2.2.2.2.2.2.2.1 s3.2.2.2.2.2.2.2.2.1 s3.2.2.2.2.2.2.2.2.2.1 u.2.2.2.2.2.2)])) id [2,3] (λ(x6:Table) (u:A7C)=>[]) [1] (λx6 u=>(SM x6 u.1 u.2.1 u.2.2.1 u.2.2.2.1 u.2.2.2.2.1 u.2.2.2.2.2.1 s3.2.2.2.2.2.2.1 s3.2.2.2.2.2.2.2.1 s3.2.2.2.2.2.2.2.2.1 s3.2.2.2.2.2.2.2.2.2.1 u.2.2.2.2.2.2 [.box 2 (FF x6 u.1 u.2.1 u.2.2.1 u.2.2.2.1 u.2.2.2.2.1 u.2.2.2.2.2.1 s3.2.2.2.2.2.2.1 s3.2.2.2.2.2.2.2.1 s3.2.2.2.2.2.2.2.2.1 s3.2.2.2.2.2.2.2.2.2.1 u.2.2.2.2.2.2)])) Q Q (λhF1 ⟨x4,x5⟩ ⟨s12,s13,s14,s15,s16,s17,s18⟩ hr1=>bE [23] Q2 (eJ 2 3 (yU x4) [2,3,20,21,22] (λ(x7:Table) (u:A7C)=>[]) [12] (λx7 u=>(SM x7 u.1 u.2.1 u.2.2.1 u.2.2.2.1 u.2.2.2.2.1 u.2.2.2.2.2.1 s3.2.2.2.2.2.2.1 s3.2.2.2.2.2.2.2.1 s3.2.2.2.2.2.2.2.2.1 s3.2.2.2.2.2.2.2.2.2.1 u.2.2.2.2.2.2 [.box 2 (FF x7 u.1 u.2.1 u.2.2.1 u.2.2.2.1 u.2.2.2.2.1 u.2.2.2.2.2.1 s3.2.2.2.2.2.2.1 s3.2.2.2.2.2.2.2.1 s3.2.2.2.2.2.2.2.2.1 s3.2.2.2.2.2.2.2.2.2.1 u.2.2.2.2.2.2)])) Q (Y7 Q h3 Q λx8=>c0 Q (λ_=>iX) λx9=>bE [27] Q2 (fK 11 2 0 13 [0,1,2,3,4,5,6,7,8,9,10] Q5 (λ_=>T5) λx10 s33=>pC s33 [14,15,16,17,18,19,20,21,22,23,24,11,12] Q2)<|pC (s12,s13,s14,s15,s16,s17,s18) [0,1,2,3,4,5,6,7,8,9,10,11,12] Q2) λx7 ⟨s26,s27,s28,s29,s30,s31,s32⟩=>nxW (s26,s27,s28,s29,s30,s31,s32) [0,1,2,3,4,5,6,7,8,9,10,11,12] Q)<|bkW (s12,s13,s14,s15,s16,s17,s18) [0,1,2,3,4,5,6,7,8,9,10,11,12] Q) λx6 ⟨s19,s20,s21,s22,s23,s24,s25⟩=>iY (s19,s20,s21,s22,s23,s24,s3.2.2.2.2.2.2.1,s3.2.2.2.2.2.2.2.1,s3.2.2.2.2.2.2.2.2.1,s3.2.2.2.2.2.2.2.2.2.1,s25) [0,1,2,3,4,5,6,7,8,9,10] Q2
theorem aXM{x:mR}{n:Int}{s1 s2:AC}(h1:aR U s1 x.dQ)(h2:aR U s2 x.eT):V0 prog U 9 (a3E x n) [.g [.h s1 x.dQ.length,.h s2 x.eT.length],I n] (λr=>.g [.h s1 r.dQ.length,.h (AC.sub s2 1 0) r.eT.length]):=
 cC call9 func9 Q Q2<|iL aG [0] Q<|λhF=>aZP Q Q Q Q<|aTI (aW0 h2) Q Q Q Q Q Q hF λhF h3=>wi hF<|cB Q2
theorem a8R{code:List UInt8}{i:Int}{s1:AC}(h1:aR U s1 code):V0 prog U 34 (aOQ code i) [.h s1 code.length,I i] I:=
 cC call34 func34 Q Q2<|bE [8] Q2 (oK cU Q h1 Q λx1 _ _=>cB Q2)<|cB Q2
theorem aXN{code:List UInt8}{i n:Int}{s1:AC}(h1:aR U s1 code):V0 prog U 10 (XU code i n) [.h s1 code.length,I i,I n] I:=
 cC call10 func10 Q Q2<|c0 Q (λh=>a8R (h.a h1)) λx1=>cB Q2
theorem aNJ{b:aA}{s1 s2 s3 s4 s5 s6 s7:AC}(h1:aR U s1 b.Mem.Heap.Bytes)(h2:aR U s2 b.Mem.Heap.Class)(h3:aR U s3 b.Mem.aC.Global)(h4:aR U s4 b.Mem.aC.Own)(h5:aR U s5 b.aD.cG)(h6:aR U s6 b.aM)(h7:aR U s7 b.lX):VS prog U 92 (LW b) [.g (gB b s1 s2 s3 s4 s5 s6 s7)] [] [] (λr (y:A7C)=>.g (yB r y)) (λr y=>(zB r y [])):=
 cC call92 func92 Q Q2<|iL aG [0] Q<|c1 Q (λh=>AX (h.a h1) (h.a h2) (h.a h3) (h.a h4)) λx1 s8=>c1 Q (λh=>uE (h.a h5)) λx2 s9=>c1 Q (λh=>uD (h.a h6)) λx3 s10=>c1 Q (λh=>hU (h.a h7)) λx4 s11=>iY (t4U s8 (s9,s10,s11)) [2,3,4,5,6,7,8] Q2
theorem aGA{s:List cQ}{s1:AC}(h1:aR U s1 s):VS prog U 93 (KV s) [.h s1 s.length] [] [] (λr (y:AC)=>.h y r.length) (λr y=>[ow y r]):=
 cC call93 func93 Q Q2<|λhF=>eqn Q Q Q Q (λh2=>have hF:=cln h1 h2 hF;sR Q<|J3 cQ<|oF ⟨none,0⟩ [0] hF Q2 Q4)<|lt0 (O:=cQ) X8 Q4 λs2=>ap 0 X8 Q Q Q Q Q Q Q (λh=>(h.a h1)) Q Q hF λhF s3=>wi hF<|iY s3 [0] Q2
theorem GB{s:List iZ}{s1:AC}(h1:aR U s1 s):VS prog U 197 (tH s) [.h s1 s.length] [] [] (λr (y:AC)=>.h y r.length) (λr y=>[ow y r]):=
 cC call197 func197 Q Q2<|λhF=>eqn Q Q Q Q (λh2=>have hF:=cln h1 h2 hF;sR Q<|J3 iZ<|oF ⟨none,0⟩ [0] hF Q2 Q4)<|lt0 (O:=iZ) GS Q4 λs2=>ap 0 GS Q Q Q Q Q Q Q (λh=>(h.a h1)) Q Q hF λhF s3=>wi hF<|iY s3 [0] Q2
theorem aNK{j:aI}{s1 s2 s3 s4 s5 s6 s7:AC}(h1:aR U s1 j.Batch.bW)(h2:aR U s2 j.Reads)(h3:aR U s3 j.aH)(h4:aR U s4 j.iZ)(h5:aR U s5 j.eO)(h6:aR U s6 j.bD)(h7:aR U s7 j.bU):VS prog U 94 (LX j) [.g (gTj j s1 s2 s3 s4 s5 s6 s7)] [] [] (λr (y:A7C)=>.g (yTj r y)) (λr y=>(zTj r y [])):=
 cC call94 func94 Q Q2<|c1 Q (λh=>K8 (h.a h1)) λx1 s8=>eJ 0 2 (KW j) [1,2] (λ(x2:aI) (u:AC×AC×AC)=>[]) [1] (λx2 u=>[ow s8 (x2.Batch.bW:List kG),ow u.1 (x2.Reads:List Seen),ow u.2.1 (x2.aH:List aX),ow u.2.2 (x2.iZ:List iZ),.box 0 [.b x2.cR,.b x2.Batch.Collect,.h s8 x2.Batch.bW.length,I x2.aO,I x2.Pc,I x2.At,I x2.K,I x2.cQ,I x2.jS,I x2.H,I x2.gN,I x2.Node.Key,I x2.Node.fT,I x2.Node.Next,.b x2.Found,I x2.Code,I x2.Sub.Kind,I x2.Sub.A,I x2.Sub.Pc,I x2.Sub.E,I x2.Sub.Row,I x2.Sub.B,I x2.Sub.H,I x2.Sub.Out,I x2.Sub.Code,.b x2.Sub.iB,.h u.1 x2.Reads.length,.h u.2.1 x2.aH.length,.h u.2.2 x2.iZ.length,.h s5 j.eO.length,.h s6 j.bD.length,.h s7 j.bU.length]]) Q (iL aG [1] Q<|λhF=>bd hF λx7 hA4 hF=>bd hF λx8 hA5 hF=>bd hF λx9 hA6 hF=>(by repeat' first|refine fC Q2 ?_ ?_|refine aTG Q Q ?_ ?_ ?_|refine QI hA4 Q (λh=>O0 (h.a h2)) λs62=>?_|refine QI hA5 Q (λh=>M7 (h.a h3)) λs63=>?_|refine QI hA6 Q (λh=>GB (h.a h4)) λs64=>?_|exact wi hF<|pC (p:=(({j with Batch:=x1,Reads:=x7,aH:=x8,iZ:=x9}:aI))) (s62,s63,s64) [2,3,4,5,0,1] Q2)) λx2 ⟨s9,s10,s11⟩=>eJ 0 2 WD [1,2] (λ(x3:aI) (u:AC×AC×AC)=>[]) [5] (λx3 u=>(oTj x3 s8 s9 s10 s11 u.1 u.2.1 u.2.2 [.box 0 (gTj x3 s8 s9 s10 s11 u.1 u.2.1 u.2.2)])) Q (iL aG [5] Q<|λhF=>bd hF λx4 hA1 hF=>bd hF λx5 hA2 hF=>bd hF λx6 hA3 hF=>(by repeat' first|refine fC Q2 ?_ ?_|refine aTG Q Q ?_ ?_ ?_|refine QI hA1 Q (λh=>hU (h.a h5)) λs18=>?_|refine QI hA2 Q (λh=>hU (h.a h6)) λs19=>?_|refine QI hA3 Q (λh=>hU (h.a h7)) λs20=>?_|exact wi hF<|pC (p:=(({x2 with eO:=x4,bD:=x5,bU:=x6}:aI))) (s18,s19,s20) [0,1,2,3,6,7,8,4,5] Q2)) λx3 ⟨s12,s13,s14⟩=>iY (s8,s9,s10,s11,s12,s13,s14) [0,1,2,3,4,5,6] Q2
theorem aQ6{e_:J9}{s1 s2:AC}(h1:aR U s1 e_.bW)(h2:aR U s2 e_.iZ):VS prog U 95 (PR e_) [.g [I e_.Kind,I e_.Who,I e_.aO,I e_.Code,.h s1 e_.bW.length,.h s2 e_.iZ.length]] [] [] (λr (y:AC×AC)=>.g [I r.Kind,I r.Who,I r.aO,I r.Code,.h y.1 r.bW.length,.h y.2 r.iZ.length]) (λr y=>[ow y.1 r.bW,ow y.2 r.iZ]):=
 cC call95 func95 Q Q2<|eJ 0 2 (λ(p:(List kG)×(List iZ))=>NX e_ p.1 p.2) [1,2] (λ(p:(List kG)×(List iZ)) (u:AC×AC)=>[]) [1] (λp u=>[ow u.1 (p.1:List kG),ow u.2 (p.2:List iZ),.box 0 [I e_.Kind,I e_.Who,I e_.aO,I e_.Code,.h u.1 p.1.length,.h u.2 p.2.length]]) Q (iL aG [1] Q<|λhF=>bd hF λx3 hA1 hF=>bd hF λx4 hA2 hF=>fC Q2 ((by refine fC Q2 ?_ ?_<;>exact QI hA1 Q (λh=>v8 (h.a h1)) λs7=>QI hA2 Q (λh=>GB (h.a h2)) λs8=>wi hF<|pC (p:=(x3,x4)) (s7,s8) [2,3,0,1] Q2)) (QI hA1 Q (λh=>v8 (h.a h1)) λs11=>QI hA2 Q (λh=>GB (h.a h2)) λs12=>wi hF<|pC (p:=(x3,x4)) (s11,s12) [2,3,0,1] Q2)) λ⟨x1,x2⟩ ⟨s3,s4⟩=>iY (s3,s4) [0,1] Q2
theorem aKB{t:Table}{s1 s2 s3 s4 s5 s6 s7 s8 s9 s10 s11:AC}(h1:aR U s1 t.aA.Mem.Heap.Bytes)(h2:aR U s2 t.aA.Mem.Heap.Class)(h3:aR U s3 t.aA.Mem.aC.Global)(h4:aR U s4 t.aA.Mem.aC.Own)(h5:aR U s5 t.aA.aD.cG)(h6:aR U s6 t.aA.aM)(h7:aR U s7 t.aA.lX)(h8:aR U s8 t.bZ)(h9:aR U s9 t.aQ)(h10:aR U s10 t.dQ)(h11:aR U s11 t.Log):VS prog U 35 (IN t) [.g (FF t s1 s2 s3 s4 s5 s6 s7 s8 s9 s10 s11)] [] [] (λr (y:a8Q)=>.g (yTb r y)) (λr y=>(zTb r y [])):=
 cC call35 func35 Q Q2<|eJ 0 3 (IM t) [1,2] (λ(x1:Table) (u:A9C)=>[(3,.p 2 0)]) [0,1] (λx1 u=>(oBs x1.aA u.1 u.2.1 u.2.2.1 u.2.2.2.1 u.2.2.2.2.1 u.2.2.2.2.2.1 u.2.2.2.2.2.2.1 [ow u.2.2.2.2.2.2.2.1 (x1.bZ:List cQ),ow u.2.2.2.2.2.2.2.2 (x1.dQ:List aN),.box 2 [.h u.1 x1.aA.Mem.Heap.Bytes.length,.h u.2.1 x1.aA.Mem.Heap.Class.length,.h u.2.2.1 x1.aA.Mem.aC.Global.length,.h u.2.2.2.1 x1.aA.Mem.aC.Own.length,I x1.aA.aD.aJ,.h u.2.2.2.2.1 x1.aA.aD.cG.length,.h u.2.2.2.2.2.1 x1.aA.aM.length,.h u.2.2.2.2.2.2.1 x1.aA.lX.length,.h u.2.2.2.2.2.2.2.1 x1.bZ.length,.h ⟨none,0⟩ 0,.h u.2.2.2.2.2.2.2.2 x1.dQ.length,.h ⟨none,0⟩ 0,I x1.aO]])) Q (iL aG [0,1] Q<|λhF=>bd hF λx18 hA5 hF=>bd hF λx19 hA6 hF=>bd hF λx20 hA7 hF=>(by repeat' first|refine fC Q2 ?_ ?_|refine QI hA5 Q (λh=>aNJ (h.a h1) (h.a h2) (h.a h3) (h.a h4) (h.a h5) (h.a h6) (h.a h7)) λs56=>?_|refine QI hA6 Q (λh=>aGA (h.a h8)) λs57=>?_|refine QI hA7 Q (λh=>WN (h.a h10)) λs58=>?_|exact wi hF<|pC (p:=((⟨x18,x19,[],x20,[],t.aO⟩:Table))) (t7U s56 (s57,s58)) [2,3,4,5,6,7,8,9,10,11,0,1] Q2|exact wi hF<|pC (p:=((⟨x18,x19,[],x20,[],t.aO⟩:Table))) (t7U s56 (s57,s58)) [2,3,4,5,6,7,8,9,11,10,0,1] Q2|exact wi hF<|pC (p:=((⟨x18,x19,[],x20,[],t.aO⟩:Table))) (t7U s56 (s57,s58)) [2,3,4,5,6,7,8,10,11,9,0,1] Q2|exact wi hF<|pC (p:=((⟨x18,x19,[],x20,[],t.aO⟩:Table))) (t7U s56 (s57,s58)) [3,4,5,6,7,8,9,10,11,2,0,1] Q2)) λx1 ⟨s12,s13,s14,s15,s16,s17,s18,s19,s20⟩=>λhF=>nw aI Q<|wi hF<|G0 ⟨none,0⟩ [1,2,3,21,22] (λ(p:Int×Table) (s22:AC)=>[(23,I p.1)]) [0,1,2,3,4,5,6,7,12,8,9,10,11] [10,11] (λp s22=>(oBs p.2.aA s12 s13 s14 s15 s16 s17 s18 [ow s19 (p.2.bZ:List cQ),ow s22 (p.2.aQ:List aI),ow s20 (p.2.dQ:List aN),.box 2 [.h s12 p.2.aA.Mem.Heap.Bytes.length,.h s13 p.2.aA.Mem.Heap.Class.length,.h s14 p.2.aA.Mem.aC.Global.length,.h s15 p.2.aA.Mem.aC.Own.length,I p.2.aA.aD.aJ,.h s16 p.2.aA.aD.cG.length,.h s17 p.2.aA.aM.length,.h s18 p.2.aA.lX.length,.h s19 p.2.bZ.length,.h s22 p.2.aQ.length,.h s20 p.2.dQ.length,.h ⟨none,0⟩ 0,I p.2.aO]])) id [1,2,3] (λ(x6:Table) (s23:AC)=>[]) [10,11] (λx6 s23=>(oBs x6.aA s12 s13 s14 s15 s16 s17 s18 [ow s19 (x6.bZ:List cQ),ow s23 (x6.aQ:List aI),ow s20 (x6.dQ:List aN),.box 2 [.h s12 x6.aA.Mem.Heap.Bytes.length,.h s13 x6.aA.Mem.Heap.Class.length,.h s14 x6.aA.Mem.aC.Global.length,.h s15 x6.aA.Mem.aC.Own.length,I x6.aA.aD.aJ,.h s16 x6.aA.aD.cG.length,.h s17 x6.aA.aM.length,.h s18 x6.aA.lX.length,.h s19 x6.bZ.length,.h s23 x6.aQ.length,.h s20 x6.dQ.length,.h ⟨none,0⟩ 0,I x6.aO]])) Q Q (λhF2 ⟨x4,x5⟩ s22 hr2=>bE [24] Q2 (oK OY Q h9 Q λx15 s40 h13=>eJ 0 5 (IL x4) [1,2,3,21,22,23] (λ(x16:Table) (s41:AC)=>[]) [11,12] (λx16 s41=>(oBs x16.aA s12 s13 s14 s15 s16 s17 s18 [ow s19 (x16.bZ:List cQ),ow s41 (x16.aQ:List aI),ow s20 (x16.dQ:List aN),.box 2 [.h s12 x16.aA.Mem.Heap.Bytes.length,.h s13 x16.aA.Mem.Heap.Class.length,.h s14 x16.aA.Mem.aC.Global.length,.h s15 x16.aA.Mem.aC.Own.length,I x16.aA.aD.aJ,.h s16 x16.aA.aD.cG.length,.h s17 x16.aA.aM.length,.h s18 x16.aA.lX.length,.h s19 x16.bZ.length,.h s41 x16.aQ.length,.h s20 x16.dQ.length,.h ⟨none,0⟩ 0,I x16.aO]])) Q (iL aG [11,12,13,14] Q<|λhG2=>bd hG2 λx17 hA3 hG2=>nd hG2 λhA4 hG2=>(by repeat' first|refine fC Q2 ?_ ?_|refine QI hA3 Q (λh=>aNK (h.a h13.1) (h.a h13.2.1) (h.a h13.2.2.1) (h.a h13.2.2.2.1) (h.a h13.2.2.2.2.1) (h.a h13.2.2.2.2.2.1) (h.a h13.2.2.2.2.2.2)) λs45=>?_|refine ltN bA [15,16,17,18,19,20,21] (x17) s45 X9 Q13 λs46=>?_|refine have hq7:=rn hA4;apN 8 22 X9 Q Q Q9 hq7 λhq7 s47=>?_|exact wi hG2<|pC (p:=(({x5 with aQ:=x5.aQ++([x17]),Log:=[]}:Table))) s47 [0,1,2,3,4,5,6,7,23,9,10,11,12] Q2)) λx16 s41=>nxW s41 [0,1,2,3,4,5,6,7,8,9,10,11,12] Q)<|bkW s22 [0,1,2,3,4,5,6,7,8,9,10,11,12] Q) λx6 s23=>λhF=>nw J9 Q<|wi hF<|G0 ⟨none,0⟩ [2,3,36,37] (λ(p:Int×Table) (s25:AC)=>[(38,I p.1)]) [0,1,2,3,4,5,6,7,8,9,13,10,12] [12] (λp s25=>(SM p.2 s12 s13 s14 s15 s16 s17 s18 s19 s23 s20 s25 [.box 2 (FF p.2 s12 s13 s14 s15 s16 s17 s18 s19 s23 s20 s25)])) id [2,3] (λ(x11:Table) (s26:AC)=>[]) [12] (λx11 s26=>(SM x11 s12 s13 s14 s15 s16 s17 s18 s19 s23 s20 s26 [.box 2 (FF x11 s12 s13 s14 s15 s16 s17 s18 s19 s23 s20 s26)])) Q Q (λhF3 ⟨x9,x10⟩ s25 hr3=>bE [39] Q2 (oK bOP Q h11 Q λx12 s27 h12=>eJ 0 5 (IK x9) [2,3,36,37,38] (λ(x13:Table) (s28:AC)=>[]) [12] (λx13 s28=>(SM x13 s12 s13 s14 s15 s16 s17 s18 s19 s23 s20 s28 [.box 2 (FF x13 s12 s13 s14 s15 s16 s17 s18 s19 s23 s20 s28)])) Q (iL aG [12,13,14] Q<|λhG3=>bd hG3 λx14 hA1 hG3=>nd hG3 λhA2 hG3=>(by repeat' first|refine fC Q2 ?_ ?_|refine QI hA1 Q (λh=>aQ6 (h.a h12.1) (h.a h12.2)) λs32=>?_|refine ltN bDB [15,16] (x14) (s32.1,s32.2) oE Q13 λs33=>?_|refine have hq2:=rn hA2;apN 10 17 oE Q Q Q9 hq2 λhq2 s34=>?_|exact wi hG3<|pC (p:=(({x10 with Log:=x10.Log++([x14])}:Table))) s34 [0,1,2,3,4,5,6,7,8,9,18,11,12] Q2)) λx13 s28=>nxW s28 [0,1,2,3,4,5,6,7,8,9,10,11,12] Q)<|bkW s25 [0,1,2,3,4,5,6,7,8,9,10,11,12] Q) λx11 s26=>iY (s12,s13,s14,s15,s16,s17,s18,s19,s23,s20,s26) [0,1,2,3,4,5,6,7,8,9,10] Q2
theorem aQ7{h:Int}:V0 prog U 285 (PT h) [I h] .b:=
 cC call285 func285 Q Q2<|c0 Q (λ_=>yA) λx1=>cB Q2
theorem aXO{z:List Int}{s1:AC}(h1:aR U s1 z):V0 prog U 201 (XV z) [.h s1 z.length] .b:=
 cC call201 func201 Q Q2<|dF 0 0 LY [] 2 [] Q (cX [5,6] Q2 (c0 Q (λh=>fO (h.a h1) (aFV call285 λ_=>aQ7)) λx2=>bM [] Q2)<|bM [] Q2) λx1=>cB Q2
theorem aIH{r_:eB}{k0:aA}{s1 s2 s3 s4 s5 s6 s7:AC}{b0:Nat×Nat}(h1:aR U s1 k0.Mem.Heap.Bytes)(h2:aR U s2 k0.Mem.Heap.Class)(h3:aR U s3 k0.Mem.aC.Global)(h4:aR U s4 k0.Mem.aC.Own)(h5:aR U s5 k0.aD.cG)(h6:aR U s6 k0.aM)(h7:aR U s7 k0.lX):VS prog U 205 (E1 r_ k0) [.g [I r_.Handle,I r_.aJ],.p 0 0] [b0] [.ro 0 (gB k0 s1 s2 s3 s4 s5 s6 s7)] (λr (_:Unit)=>.b r) (λ_ _=>[]):=
 cC call205 func205 Q Q2<|dF 0 2 vQ [] 3 [] Q (c0 Q (λh=>xZ (h.a h1) (h.a h2) (h.a h3) (h.a h4)) λx2=>cX [9,10] Q2 (bM [] Q2)<|bM [] Q2) λx1=>cB Q2
theorem aNL{l:bT}{k0:aA}{s1:AC}{s2 s3 s4 s5 s6 s7 s8:AC}{b0:Nat×Nat}(h1:aR U s1 l.Rows)(h2:aR U s2 k0.Mem.Heap.Bytes)(h3:aR U s3 k0.Mem.Heap.Class)(h4:aR U s4 k0.Mem.aC.Global)(h5:aR U s5 k0.Mem.aC.Own)(h6:aR U s6 k0.aD.cG)(h7:aR U s7 k0.aM)(h8:aR U s8 k0.lX):VS prog U 203 (LZ l k0) [.g [.h s1 l.Rows.length],.p 0 0] [b0] [.ro 0 (gB k0 s2 s3 s4 s5 s6 s7 s8)] (λr (_:Unit)=>.b r) (λ_ _=>[]):=
 cC call203 func203 Q Q2<|λhF=>mf [0] Q Q Q<|wi hF<|aL2 [0] Q Q Q Q (λh=>λhB=>AS (h.a h1) (aL1 (cs:=[(0,(gB k0 s2 s3 s4 s5 s6 s7 s8))]) call205 hB Q λhk _=>aIH (rk hk (h.a h2)) (rk hk (h.a h3)) (rk hk (h.a h4)) (rk hk (h.a h5)) (rk hk (h.a h6)) (rk hk (h.a h7)) (rk hk (h.a h8)))) λx1=>cB Q2
theorem U4{b:aA}{s1 s2 s3 s4 s5 s6 s7:AC}(h1:aR U s1 b.Mem.Heap.Bytes)(h2:aR U s2 b.Mem.Heap.Class)(h3:aR U s3 b.Mem.aC.Global)(h4:aR U s4 b.Mem.aC.Own)(h5:aR U s5 b.aD.cG)(h6:aR U s6 b.aM)(h7:aR U s7 b.lX):V0 prog U 96 (GN b) [.g (gB b s1 s2 s3 s4 s5 s6 s7)] .b:=
 cC call96 func96 Q Q2<|dF 0 1 (tI b) [1] 24 [0] Q (c0 Q (λh=>JN (h.a h1) (h.a h2) (h.a h3) (h.a h4)) λx3=>cX [6,7] Q2 (bM [0] Q2)<|c0 Q (λh=>AT (h.a h5)) λx4=>cX [11,12,13] Q2 (bM [0] Q2)<|c0 Q (λh=>JL (h.a h6)) λx5=>cX [17,18,19] Q2 (bM [0] Q2)<|c0 Q (λh=>aXO (h.a h7)) λx6=>bM [0] Q2) λx1=>bE [24] Q2 (cB Q2)<|λhF=>mf [0] Q Q Q<|wi hF<|aL2 [0] Q Q Q Q (λh=>λhB=>y8 (h.a h6) (aL1 (cs:=[(0,(gB b s1 s2 s3 s4 s5 s6 s7))]) call203 hB Q λhk hy=>aNL hy (rk hk (h.a h1)) (rk hk (h.a h2)) (rk hk (h.a h3)) (rk hk (h.a h4)) (rk hk (h.a h5)) (rk hk (h.a h6)) (rk hk (h.a h7)))) λx2=>cB Q2
theorem YH{s:List cQ}{f:(cQ->Option Bool)}{s1:AC}{g_f:FuncId}{cap_f:List Value}(h1:aR U s1 s)(h_f:Fu1 prog U (a3I:GI cQ) .b g_f cap_f f):V0 prog U 206 (MX s f) [.h s1 s.length,.k (.func (.func g_f) #[] cap_f.toArray)] I:=
 cC call206 func206 Q Q2<|GX 8 [0,1,7] [] Out.brk [] [] Q Q (λhF1 x2 hr1=>bE [9] Q2 (oK a3I Q h1 Q λx3 _ _=>λhG1=>fa1 h_f x3 () Q Q Q Q Q trivial hG1 λx4 _ hG1=>wi hG1<|bE [16] Q2 (zC hr1 hF1<|cB Q2)<|xO [] Q)<|sO [] Q)<|cB Q2
theorem SS{s:List cQ}{f:(cQ->Option Bool)}{s1:AC}{g_f:FuncId}{cap_f:List Value}(h1:aR U s1 s)(h_f:Fu1 prog U (a3I:GI cQ) .b g_f cap_f f):V0 prog U 97 (tK s f) [.h s1 s.length,.k (.func (.func g_f) #[] cap_f.toArray)] .b:=
 cC call97 func97 Q Q2<|c0 Q (λh=>YH (h.a h1) (h.u1 h_f)) λx1=>cB Q2
theorem aXP{b:cQ}:V0 prog U 99 (aFY b) [.g [I b.Head,I b.jS,I b.g9]] .b:=
 cC call99 func99 Q Q2<|dF 0 1 L4 [] 2 [] Q (c0 Q (λ_=>yA) λx2=>cX [5,6] Q2 (c0 Q (λ_=>bG) λx3=>cX [9,10,11] Q2 (c0 Q (λ_=>bG) λx4=>bM [] Q2)<|bM [] Q2)<|bM [] Q2) λx1=>cB Q2
theorem aKC{b:cQ}:V0 prog U 98 (RG b) [.g [I b.Head,I b.jS,I b.g9]] .b:=
 cC call98 func98 Q Q2<|c0 Q (λ_=>aXP) λx1=>cB Q2
theorem WS{s:List aI}{f:(aI->Option Bool)}{s1:AC}{g_f:FuncId}{cap_f:List Value}(h1:aR U s1 s)(h_f:Fu1 prog U (OY:GI aI) .b g_f cap_f f):V0 prog U 208 (KI s f) [.h s1 s.length,.k (.func (.func g_f) #[] cap_f.toArray)] I:=
 cC call208 func208 Q Q2<|GX 8 [0,1,7] [] Out.brk [] [] Q Q (λhF1 x2 hr1=>bE [9] Q2 (oK OY Q h1 Q λx3 s2 h2=>λhG1=>fa1 h_f x3 s2 Q Q Q Q Q ⟨h2.1,h2.2.1,h2.2.2.1,h2.2.2.2.1,h2.2.2.2.2.1,h2.2.2.2.2.2.1,h2.2.2.2.2.2.2⟩ hG1 λx4 _ hG1=>wi hG1<|bE [16] Q2 (zC hr1 hF1<|cB Q2)<|xO [] Q)<|sO [] Q)<|cB Q2
theorem kQ{s:List aI}{f:(aI->Option Bool)}{s1:AC}{g_f:FuncId}{cap_f:List Value}(h1:aR U s1 s)(h_f:Fu1 prog U (OY:GI aI) .b g_f cap_f f):V0 prog U 100 (iE s f) [.h s1 s.length,.k (.func (.func g_f) #[] cap_f.toArray)] .b:=
 cC call100 func100 Q Q2<|c0 Q (λh=>WS (h.a h1) (h.u1 h_f)) λx1=>cB Q2
theorem aGB{l1 l2:List kG}{s1:AC}{s2:AC}(h1:aR U s1 l1)(h2:aR U s2 l2):V0 prog U 343 (KX l1 l2) [.h s1 l1.length,.h s2 l2.length] .b:=
 cC call343 func343 Q Q2<|bE [10] Q2 (cB Q2)<|GX 13 [0,1,12] [] Out.brk [] [] Q Q (λhF1 x2 hr1=>bE [14] Q2 (iL aG [] Q<|oK aXF Q h1 Q λx3 _ _=>oK aXF Q h2 Q λx4 _ _=>λhG1=>neS eqGuardType128 stoodInHeld128 underlying128 (aLC 9997 x3 x4) Q Q Q Q Q Q<|wi hG1<|bE [24] Q2 (zC hr1 hF1<|cB Q2)<|xO [] Q)<|sO [] Q)<|cB Q2
theorem aKD{a_ b:Batch}{s1:AC}{s2:AC}(h1:aR U s1 a_.bW)(h2:aR U s2 b.bW):V0 prog U 288 (IQ a_ b) [.g [.b a_.Collect,.h s1 a_.bW.length],.g [.b b.Collect,.h s2 b.bW.length]] .b:=
 cC call288 func288 Q Q2<|dF 0 2 IP [] 4 [] Q (cX [9,10] Q2 (c0 Q (λh=>aGB (h.a h1) (h.a h2)) λx2=>bM [] Q2)<|bM [] Q2) λx1=>cB Q2
theorem aEE{l1 l2:List Seen}{s1:AC}{s2:AC}(h1:aR U s1 l1)(h2:aR U s2 l2):V0 prog U 289 (yV l1 l2) [.h s1 l1.length,.h s2 l2.length] .b:=
 cC call289 func289 Q Q2<|bE [10] Q2 (cB Q2)<|GX 13 [0,1,12] [] Out.brk [] [] Q Q (λhF1 x2 hr1=>bE [14] Q2 (iL aG [] Q<|oK aE2 Q h1 Q λx3 _ _=>oK aE2 Q h2 Q λx4 _ _=>λhG1=>neS eqGuardType150 stoodInHeld150 underlying150 (aLD 9997 x3 x4) Q Q Q Q Q Q<|wi hG1<|bE [24] Q2 (zC hr1 hF1<|cB Q2)<|xO [] Q)<|sO [] Q)<|cB Q2
theorem aCA{l1 l2:List aX}{s1:AC}{s2:AC}(h1:aR U s1 l1)(h2:aR U s2 l2):V0 prog U 290 (vR l1 l2) [.h s1 l1.length,.h s2 l2.length] .b:=
 cC call290 func290 Q Q2<|bE [10] Q2 (cB Q2)<|GX 13 [0,1,12] [] Out.brk [] [] Q Q (λhF1 x2 hr1=>bE [14] Q2 (iL aG [] Q<|oK yH Q h1 Q λx3 _ _=>oK yH Q h2 Q λx4 _ _=>λhG1=>neS eqGuardType152 stoodInHeld152 underlying152 (aLE 9997 x3 x4) Q Q Q Q Q Q<|wi hG1<|bE [24] Q2 (zC hr1 hF1<|cB Q2)<|xO [] Q)<|sO [] Q)<|cB Q2
theorem aGC{l1 l2:List iZ}{s1:AC}{s2:AC}(h1:aR U s1 l1)(h2:aR U s2 l2):V0 prog U 291 (BK l1 l2) [.h s1 l1.length,.h s2 l2.length] .b:=
 cC call291 func291 Q Q2<|bE [10] Q2 (cB Q2)<|GX 13 [0,1,12] [] Out.brk [] [] Q Q (λhF1 x2 hr1=>bE [14] Q2 (iL aG [] Q<|oK bDA Q h1 Q λx3 _ _=>oK bDA Q h2 Q λx4 _ _=>λhG1=>neS eqGuardType196 stoodInHeld196 underlying196 (aLF 9997 x3 x4) Q Q Q Q Q Q<|wi hG1<|bE [24] Q2 (zC hr1 hF1<|cB Q2)<|xO [] Q)<|sO [] Q)<|cB Q2
theorem GC{l1 l2:List Int}{s1:AC}{s2:AC}(h1:aR U s1 l1)(h2:aR U s2 l2):V0 prog U 292 (oQ l1 l2) [.h s1 l1.length,.h s2 l2.length] .b:=
 cC call292 func292 Q Q2<|bE [10] Q2 (cB Q2)<|GX 13 [0,1,12] [] Out.brk [] [] Q Q (λhF1 x2 hr1=>bE [14] Q2 (iL aG [] Q<|Y7 Q h1 Q λx3=>Y7 Q h2 Q λx4=>bE [24] Q2 (zC hr1 hF1<|cB Q2)<|xO [] Q)<|sO [] Q)<|cB Q2
theorem aNM{a_ b:aI}{s1 s2 s3 s4 s5 s6 s7:AC}{s8 s9 s10 s11 s12 s13 s14:AC}(h1:aR U s1 a_.Batch.bW)(h2:aR U s2 a_.Reads)(h3:aR U s3 a_.aH)(h4:aR U s4 a_.iZ)(h5:aR U s5 a_.eO)(h6:aR U s6 a_.bD)(h7:aR U s7 a_.bU)(h8:aR U s8 b.Batch.bW)(h9:aR U s9 b.Reads)(h10:aR U s10 b.aH)(h11:aR U s11 b.iZ)(h12:aR U s12 b.eO)(h13:aR U s13 b.bD)(h14:aR U s14 b.bU):V0 prog U 209 (L5 a_ b) [.g (gTj a_ s1 s2 s3 s4 s5 s6 s7),.g (gTj b s8 s9 s10 s11 s12 s13 s14)] .b:=
 cC call209 func209 Q Q2<|dF 0 2 cH [] 4 [] Q (cX [9,10] Q2 (c0 Q (λh=>aKD (h.a h1) (h.a h8)) λx2=>cX [15,16,17] Q2 (cX [22,23,24] Q2 (cX [29,30,31] Q2 (cX [36,37,38] Q2 (cX [43,44,45] Q2 (cX [50,51,52] Q2 (cX [57,58,59] Q2 (cX [64,65,66] Q2 (cX [71,72,73] Q2 (λhF=>eqS eqGuardType86 stoodInHeld86 underlying86 (aQN 9997 a_.Node b.Node) Q Q Q Q Q Q<|wi hF<|cX [78,79,80] Q2 (cX [85,86,87] Q2 (cX [92,93,94] Q2 (λhF=>eqS eqGuardType88 stoodInHeld88 underlying88 (aQO 9997 a_.Sub b.Sub) Q Q Q Q Q Q<|wi hF<|cX [99,100,101] Q2 (c0 Q (λh=>aEE (h.a h2) (h.a h9)) λx3=>cX [106,107,108] Q2 (c0 Q (λh=>aCA (h.a h3) (h.a h10)) λx4=>cX [113,114,115] Q2 (c0 Q (λh=>aGC (h.a h4) (h.a h11)) λx5=>cX [120,121,122] Q2 (c0 Q (λh=>GC (h.a h5) (h.a h12)) λx6=>cX [127,128,129] Q2 (c0 Q (λh=>GC (h.a h6) (h.a h13)) λx7=>cX [134,135,136] Q2 (c0 Q (λh=>GC (h.a h7) (h.a h14)) λx8=>bM [] Q2)<|bM [] Q2)<|bM [] Q2)<|bM [] Q2)<|bM [] Q2)<|bM [] Q2)<|bM [] Q2)<|bM [] Q2)<|bM [] Q2)<|bM [] Q2)<|bM [] Q2)<|bM [] Q2)<|bM [] Q2)<|bM [] Q2)<|bM [] Q2)<|bM [] Q2)<|bM [] Q2)<|bM [] Q2)<|bM [] Q2)<|bM [] Q2) λx1=>cB Q2
theorem YI{b:Int}:V0 prog U 210 (KY b) [I b] .b:=
 cC call210 func210 Q Q2<|c0 Q (λ_=>bG) λx1=>cB Q2
theorem aEF{h:Int}:V0 prog U 293 (yW h) [I h] .b:=
 cC call293 func293 Q Q2<|c0 Q (λ_=>jM) λx1=>cB Q2
theorem T6{list:List Int}{s1:AC}(h1:aR U s1 list):V0 prog U 211 (wT list) [.h s1 list.length] .b:=
 cC call211 func211 Q Q2<|dF 0 0 F9 [] 2 [] Q (cX [5,6] Q2 (c0 Q (λh=>fO (h.a h1) (aFV call293 λ_=>aEF)) λx2=>bM [] Q2)<|bM [] Q2) λx1=>cB Q2
theorem aNN{s:Seen}:V0 prog U 212 (UW s) [.g [I s.cQ,I s.jS]] .b:=
 cC call212 func212 Q Q2<|c0 Q (λ_=>YI) λx1=>cB Q2
theorem aNO{list:List aX}{s1:AC}(h1:aR U s1 list):V0 prog U 213 (L6 list) [.h s1 list.length] .b:=
 cC call213 func213 Q Q2<|GX 7 [0,5,6] [] Out.brk [0] [] Q Q (λhF1 x2 hr1=>bE [8] Q2 (oK yH Q h1 Q λx3 _ _=>dF 0 2 (lP x2) [0,5,6,7] 36 [] Q (iL aG [0,1] Q<|c0 Q (λ_=>bG) λx5=>cX [15,16] Q2 (bM [] Q2)<|c0 Q (λ_=>bG) λx6=>cX [20,21,22] Q2 (bM [] Q2)<|cX [24,25] Q2 (oK yH Q h1 Q λx7 _ _=>bM [] Q2)<|bM [] Q2) λx4=>bE [36] Q2 (zC hr1 hF1<|cB Q2)<|xO [] Q)<|sO [] Q)<|cB Q2
theorem aFC{j:aI}{s1 s2 s3 s4 s5 s6 s7:AC}(h1:aR U s1 j.Batch.bW)(h2:aR U s2 j.Reads)(h3:aR U s3 j.aH)(h4:aR U s4 j.iZ)(h5:aR U s5 j.eO)(h6:aR U s6 j.bD)(h7:aR U s7 j.bU):V0 prog U 102 (uR j) [.g (gTj j s1 s2 s3 s4 s5 s6 s7)] .b:=
 cC call102 func102 Q Q2<|bE [7] Q2 (c0 Q (λh=>aNM (b:=zL0) (h.a h1) (h.a h2) (h.a h3) (h.a h4) (h.a h5) (h.a h6) (h.a h7) lS lS lS lS lS lS lS) λx1=>cB Q2)<|GX 14 [1,12,13] [0] Out.brk [1] [0] Q Q (λhF1 x3 hr1=>bE [15] Q2 (Y7 Q h6 Q λx15=>dF 0 2 (IS x3) [1,12,13,14] 29 [0] Q (c0 Q (λ_=>YI) λx17=>cX [21,22] Q2 (bM [0] Q2)<|λhG1=>a5Z Q Q Q Q Q h6 Q Q hG1 λhG1 s8 h8=>wi hG1<|c0 Q (λh=>pH (h.a h8)) λx18=>bM [0] Q2) λx16=>bE [29] Q2 (zC hr1 hF1<|cB Q2)<|xO [0] Q)<|sO [0] Q)<|dF 0 1 iT [] 2 [] Q (c0 Q (λh=>aB0 (h.a h1)) λx5=>cX [33,34] Q2 (c0 Q (λ_=>yA) λx6=>cX [37,38,39] Q2 (c0 Q (λ_=>yA) λx7=>cX [42,43,44] Q2 (c0 Q (λ_=>YI) λx8=>cX [47,48,49] Q2 (c0 Q (λ_=>bG) λx9=>cX [56,57,58] Q2 (c0 Q (λ_=>bG) λx10=>cX [61,62,63] Q2 (c0 Q (λh=>T6 (h.a h5)) λx11=>cX [66,67,68] Q2 (c0 Q (λh=>T6 (h.a h7)) λx12=>cX [71,72,73] Q2 (c0 Q (λh=>AW (h.a h2) (aFV call212 λ_=>aNN)) λx13=>cX [77,78,79] Q2 (c0 Q (λh=>aNO (h.a h3)) λx14=>bM [] Q2)<|bM [] Q2)<|bM [] Q2)<|bM [] Q2)<|bM [] Q2)<|bM [] Q2)<|bM [] Q2)<|bM [] Q2)<|bM [] Q2)<|bM [] Q2) λx4=>cB Q2
theorem aKE{j:aI}{s1 s2 s3 s4 s5 s6 s7:AC}(h1:aR U s1 j.Batch.bW)(h2:aR U s2 j.Reads)(h3:aR U s3 j.aH)(h4:aR U s4 j.iZ)(h5:aR U s5 j.eO)(h6:aR U s6 j.bD)(h7:aR U s7 j.bU):V0 prog U 101 (RH j) [.g (gTj j s1 s2 s3 s4 s5 s6 s7)] .b:=
 cC call101 func101 Q Q2<|c0 Q (λh=>aFC (h.a h1) (h.a h2) (h.a h3) (h.a h4) (h.a h5) (h.a h6) (h.a h7)) λx1=>cB Q2
theorem uF{t:Table}{s1 s2 s3 s4 s5 s6 s7 s8 s9 s10 s11:AC}(h1:aR U s1 t.aA.Mem.Heap.Bytes)(h2:aR U s2 t.aA.Mem.Heap.Class)(h3:aR U s3 t.aA.Mem.aC.Global)(h4:aR U s4 t.aA.Mem.aC.Own)(h5:aR U s5 t.aA.aD.cG)(h6:aR U s6 t.aA.aM)(h7:aR U s7 t.aA.lX)(h8:aR U s8 t.bZ)(h9:aR U s9 t.aQ)(h10:aR U s10 t.dQ)(h11:aR U s11 t.Log):V0 prog U 36 (nU t) [.g (FF t s1 s2 s3 s4 s5 s6 s7 s8 s9 s10 s11)] .b:=
 cC call36 func36 Q Q2<|dF 0 1 kX [] 2 [] Q (c0 Q (λh=>U4 (h.a h1) (h.a h2) (h.a h3) (h.a h4) (h.a h5) (h.a h6) (h.a h7)) λx2=>cX [5,6] Q2 (cX [10,11,12] Q2 (c0 Q (λh=>SS (h.a h8) (aFV call98 λ_=>aKC)) λx3=>cX [16,17,18] Q2 (cX [22,23,24] Q2 (c0 Q (λh=>kQ (h.a h9) (aFV call101 λhy=>aKE hy.1 hy.2.1 hy.2.2.1 hy.2.2.2.1 hy.2.2.2.2.1 hy.2.2.2.2.2.1 hy.2.2.2.2.2.2)) λx4=>cX [28,29,30] Q2 (c0 Q (λh=>aB1 (h.a h10)) λx5=>cX [33,34,35] Q2 (c0 Q (λ_=>bG) λx6=>bM [] Q2)<|bM [] Q2)<|bM [] Q2)<|bM [] Q2)<|bM [] Q2)<|bM [] Q2)<|bM [] Q2) λx1=>cB Q2
theorem aGD{j:aI}{s1 s2 s3 s4 s5 s6 s7:AC}(h1:aR U s1 j.Batch.bW)(h2:aR U s2 j.Reads)(h3:aR U s3 j.aH)(h4:aR U s4 j.iZ)(h5:aR U s5 j.eO)(h6:aR U s6 j.bD)(h7:aR U s7 j.bU):V0 prog U 214 (KZ j) [.g (gTj j s1 s2 s3 s4 s5 s6 s7)] .b:=
 cC call214 func214 Q Q2<|cB Q2
theorem aGE{q:aN}{s1:AC}(h1:aR U s1 q.List):V0 prog U 215 (K0 q) [.g [.h s1 q.List.length]] .b:=
 cC call215 func215 Q Q2<|cB Q2
theorem aKF{t:Table}{s1 s2 s3 s4 s5 s6 s7 s8 s9 s10 s11:AC}(h1:aR U s1 t.aA.Mem.Heap.Bytes)(h2:aR U s2 t.aA.Mem.Heap.Class)(h3:aR U s3 t.aA.Mem.aC.Global)(h4:aR U s4 t.aA.Mem.aC.Own)(h5:aR U s5 t.aA.aD.cG)(h6:aR U s6 t.aA.aM)(h7:aR U s7 t.aA.lX)(h8:aR U s8 t.bZ)(h9:aR U s9 t.aQ)(h10:aR U s10 t.dQ)(h11:aR U s11 t.Log):V0 prog U 103 (IU t) [.g (FF t s1 s2 s3 s4 s5 s6 s7 s8 s9 s10 s11)] .b:=
 cC call103 func103 Q Q2<|dF 0 1 IT [] 2 [] Q (c0 Q (λh=>kQ (h.a h9) (aFV call214 λhy=>aGD hy.1 hy.2.1 hy.2.2.1 hy.2.2.2.1 hy.2.2.2.2.1 hy.2.2.2.2.2.1 hy.2.2.2.2.2.2)) λx2=>cX [6,7] Q2 (c0 Q (λh=>xJ (h.a h10) (aFV call215 λhy=>aGE hy)) λx3=>bM [] Q2)<|bM [] Q2) λx1=>cB Q2
theorem NA{j:aI}{s1 s2 s3 s4 s5 s6 s7:AC}(h1:aR U s1 j.Batch.bW)(h2:aR U s2 j.Reads)(h3:aR U s3 j.aH)(h4:aR U s4 j.iZ)(h5:aR U s5 j.eO)(h6:aR U s6 j.bD)(h7:aR U s7 j.bU):V0 prog U 104 (vS j) [.g (gTj j s1 s2 s3 s4 s5 s6 s7)] .b:=
 cC call104 func104 Q Q2<|c0 Q (λh=>aFC (h.a h1) (h.a h2) (h.a h3) (h.a h4) (h.a h5) (h.a h6) (h.a h7)) λx1=>cB Q2
theorem aGF{t:Table}{n:Int}{finish:Bool}{s1 s2 s3 s4 s5 s6 s7 s8 s9 s10 s11:AC}{b0:Nat×Nat}:VS prog U 37 (K1 t n finish) [.p 0 0,I n,.b finish] [b0] ([.box 0 (FF t s1 s2 s3 s4 s5 s6 s7 s8 s9 s10 s11)]++(SM t s1 s2 s3 s4 s5 s6 s7 s8 s9 s10 s11 [])) (λr (y:A7C)=>.t []) (λr y=>([.box 0 (FF r y.1 y.2.1 y.2.2.1 y.2.2.2.1 y.2.2.2.2.1 y.2.2.2.2.2.1 s7 s8 s9 s10 y.2.2.2.2.2.2)]++(SM r y.1 y.2.1 y.2.2.1 y.2.2.2.1 y.2.2.2.2.1 y.2.2.2.2.2.1 s7 s8 s9 s10 y.2.2.2.2.2.2 []))):=
 cC call37 func37 Q Q2<|G0 (s1,s2,s3,s4,s5,s6,s11) [0,2,7] (λ(p:Int×Table) (u:A7C)=>[(8,I p.1)]) [1,2,3,4,5,6,7,8,9,10,11,0] [] (λp u=>(SM p.2 u.1 u.2.1 u.2.2.1 u.2.2.2.1 u.2.2.2.2.1 u.2.2.2.2.2.1 s7 s8 s9 s10 u.2.2.2.2.2.2 [.box 0 (FF p.2 u.1 u.2.1 u.2.2.1 u.2.2.2.1 u.2.2.2.2.1 u.2.2.2.2.2.1 s7 s8 s9 s10 u.2.2.2.2.2.2)])) Out.brk [0] (λ(x5:Table) (u:A7C)=>[]) [] (λx5 u=>(SM x5 u.1 u.2.1 u.2.2.1 u.2.2.2.1 u.2.2.2.2.1 u.2.2.2.2.2.1 s7 s8 s9 s10 u.2.2.2.2.2.2 [.box 0 (FF x5 u.1 u.2.1 u.2.2.1 u.2.2.2.1 u.2.2.2.2.1 u.2.2.2.2.2.1 s7 s8 s9 s10 u.2.2.2.2.2.2)])) Q Q (λhF1 ⟨x3,x4⟩ ⟨s19,s20,s21,s22,s23,s24,s25⟩ hr1=>bE [9] Q2 (eJ 0 1 (λ(p:Bool×Table)=>nL x3 p.1 p.2) [0,2,6,7,8] (λ(p:Bool×Table) (_:Unit)=>[(24,.b p.1)]) [] (λp _=>(SM p.2 s19 s20 s21 s22 s23 s24 s7 s8 s9 s10 s25 [.box 0 (FF p.2 s19 s20 s21 s22 s23 s24 s7 s8 s9 s10 s25)])) Q (cX [11,12] Q2 (c0 Q (λh=>aKF (h.o 0 Q) (h.o 1 Q) (h.o 2 Q) (h.o 3 Q) (h.o 4 Q) (h.o 5 Q) (h.o 6 Q) (h.o 7 Q) (h.o 8 Q) (h.o 9 Q) (h.o 10 Q)) λx9=>cX [16,17,18] Q2 (bM (p:=(true,x4)) [0,1,2,3,4,5,6,7,8,9,10,11] Q2)<|c0 Q (λh=>kQ (h.o 8 Q) (aFV call104 λhy=>NA hy.1 hy.2.1 hy.2.2.1 hy.2.2.2.1 hy.2.2.2.2.1 hy.2.2.2.2.2.1 hy.2.2.2.2.2.2)) λx10=>bM (p:=(x10,x4)) [0,1,2,3,4,5,6,7,8,9,10,11] Q2)<|c0 Q (λh=>kQ (h.o 8 Q) (aFV call104 λhy=>NA hy.1 hy.2.1 hy.2.2.1 hy.2.2.2.1 hy.2.2.2.2.1 hy.2.2.2.2.2.1 hy.2.2.2.2.2.2)) λx11=>bM (p:=(x11,x4)) [0,1,2,3,4,5,6,7,8,9,10,11] Q2) λ⟨x6,x7⟩ _=>bE [24] Q2 (zC hr1 hF1<|iY (s19,s20,s21,s22,s23,s24,s25) [11,0,1,2,3,4,5,6,7,8,9,10] Q2)<|fK 11 0 0 13 [0,1,2,3,4,5,6,7,8,9,10] Q5 (λ_=>T5) λx8 s33=>nxW s33 [12,13,14,15,16,17,18,19,20,21,22,11] Q)<|bkW (s19,s20,s21,s22,s23,s24,s25) [0,1,2,3,4,5,6,7,8,9,10,11] Q) λx5 ⟨s26,s27,s28,s29,s30,s31,s32⟩=>J4 (s26,s27,s28,s29,s30,s31,s32) [11,0,1,2,3,4,5,6,7,8,9,10] Q Q
theorem aGG{t:Table}{s1 s2 s3 s4 s5 s6 s7 s8 s9 s10 s11:AC}(h1:aR U s1 t.aA.Mem.Heap.Bytes)(h2:aR U s2 t.aA.Mem.Heap.Class)(h3:aR U s3 t.aA.Mem.aC.Global)(h4:aR U s4 t.aA.Mem.aC.Own)(h5:aR U s5 t.aA.aD.cG)(h6:aR U s6 t.aA.aM)(h7:aR U s7 t.aA.lX)(h8:aR U s8 t.bZ)(h9:aR U s9 t.aQ)(h10:aR U s10 t.dQ)(h11:aR U s11 t.Log):VS prog U 11 (tM t) [.g (FF t s1 s2 s3 s4 s5 s6 s7 s8 s9 s10 s11)] [] [] (λr (y:a8Q)=>.g (yTb r y)) (λr y=>(zTb r y [])):=
 cC call11 func11 Q Q2<|c1 Q (λh=>aKB (h.a h1) (h.a h2) (h.a h3) (h.a h4) (h.a h5) (h.a h6) (h.a h7) (h.a h8) (h.a h9) (h.a h10) (h.a h11)) λx1 s12=>eJ 1 3 C0 [2,3] (λ(x2:Table) (u:A7C)=>[]) [1] (λx2 u=>(SM x2 u.1 u.2.1 u.2.2.1 u.2.2.2.1 u.2.2.2.2.1 u.2.2.2.2.2.1 s12.2.2.2.2.2.2.1 s12.2.2.2.2.2.2.2.1 s12.2.2.2.2.2.2.2.2.1 s12.2.2.2.2.2.2.2.2.2.1 u.2.2.2.2.2.2 [.box 2 (FF x2 u.1 u.2.1 u.2.2.1 u.2.2.2.1 u.2.2.2.2.1 u.2.2.2.2.2.1 s12.2.2.2.2.2.2.1 s12.2.2.2.2.2.2.2.1 s12.2.2.2.2.2.2.2.2.1 s12.2.2.2.2.2.2.2.2.2.1 u.2.2.2.2.2.2)])) Q (c0 Q (λh=>uF (h.a h1) (h.a h2) (h.a h3) (h.a h4) (h.a h5) (h.a h6) (h.a h7) (h.a h8) (h.a h9) (h.a h10) (h.a h11)) λx3=>bE [7] Q2 (fK 13 2 0 13 [2,3,4,5,6,7,8,9,10,11,12] Q5 (λ_=>aGF) λx4 s20=>pC s20 [14,15,16,17,18,19,20,21,22,23,24,13,1] Q2)<|pC (s12.1,s12.2.1,s12.2.2.1,s12.2.2.2.1,s12.2.2.2.2.1,s12.2.2.2.2.2.1,s12.2.2.2.2.2.2.2.2.2.2) [2,3,4,5,6,7,8,9,10,11,12,13,1] Q2) λx2 ⟨s13,s14,s15,s16,s17,s18,s19⟩=>iY (s13,s14,s15,s16,s17,s18,s12.2.2.2.2.2.2.1,s12.2.2.2.2.2.2.2.1,s12.2.2.2.2.2.2.2.2.1,s12.2.2.2.2.2.2.2.2.2.1,s19) [0,1,2,3,4,5,6,7,8,9,10] Q2
theorem kZ{h:Int}:V0 prog U 117 (jK h) [I h] .b:=
 cC call117 func117 Q Q2<|dF 0 0 BL [] 2 [] Q (c0 Q (λ_=>b8) λx2=>cX [4,5] Q2 (bM [] Q2)<|bM [] Q2) λx1=>cB Q2
theorem jC{h:Int}:V0 prog U 50 (fU h) [I h] I:=
 cC call50 func50 Q Q2<|c0 Q (λ_=>kZ) λx1=>bE [5] Q2 (cB Q2)<|cB Q2
theorem U5{slot:Int}:V0 prog U 297 (GP slot) [I slot] I:=
 cC call297 func297 Q Q2<|c0 Q (λ_=>b8) λx1=>bE [5] Q2 (cB Q2)<|cB Q2
theorem RX{slot:Int}:V0 prog U 298 (BM slot) [I slot] I:=
 cC call298 func298 Q Q2<|c0 Q (λ_=>b8) λx1=>bE [5] Q2 (cB Q2)<|cB Q2
theorem aFD{c:Int}:V0 prog U 301 (GQ c) [I c] I:=
 cC call301 func301 Q Q2<|bE [4,5] Q2 (cB Q2)<|bE [6,7] Q2 (cB Q2)<|bE [8,9] Q2 (cB Q2)<|cB Q2
theorem Z4{c:Int}:V0 prog U 300 (DN c) [I c] I:=
 cC call300 func300 Q Q2<|c0 Q (λ_=>b8) λx1=>bE [5] Q2 (cB Q2)<|c0 Q (λ_=>aFD) λx2=>cB Q2
theorem JQ{c:Int}:V0 prog U 299 (nV c) [I c] I:=
 cC call299 func299 Q Q2<|c0 Q (λ_=>b8) λx1=>bE [5] Q2 (cB Q2)<|c0 Q (λ_=>Z4) λx2=>λhF=>bNW Q Q Q Q hF λhF=>wi hF<|cB Q2
theorem AY{h:Heap}{slot:Int}{s1 s2:AC}(h1:aR U s1 h.Bytes)(h2:aR U s2 h.Class):V0 prog U 222 (nW h slot) [.g [.h s1 h.Bytes.length,.h s2 h.Class.length],I slot] I:=
 cC call222 func222 Q Q2<|c0 Q (λ_=>U5) λx1=>dF 0 1 (wU h x1) [2,5] 28 [0] Q (iL aG [0] Q<|cX [9,10] Q2 (bM [0] Q2)<|Y7 Q h2 Q λx4=>cX [16,17,18] Q2 (bM [0] Q2)<|Y7 Q h2 Q λx5=>c0 Q (λ_=>RX) λx6=>c0 Q (λ_=>JQ) λx7=>bM [0] Q2) λx2=>bE [28] Q2 (cB Q2)<|Y7 Q h2 Q λx3=>cB Q2
theorem D9{b:List Int}{at_ width:Int}{s1:AC}(h1:aR U s1 b):V0 prog U 224 (uS b at_ width) [.h s1 b.length,I at_,I width] I:=
 cC call224 func224 Q Q2<|G0 () [0,1,2] (λ(p:Int×Int) (_:Unit)=>[(7,I p.1),(8,I p.2)]) [] [] (λp _=>[]) id [] (λ(x5:Int) (_:Unit)=>[(7,I x5)]) [] (λx5 _=>[]) Q Q (λhF1 ⟨x3,x4⟩ _ hr1=>bE [11] Q2 (Y7 Q h1 Q λx6=>xO [] Q)<|sO [] Q) λx5 _=>cB Q2
theorem YJ{slot c:Int}:V0 prog U 225 (z7 slot c) [I slot,I c] I:=
 cC call225 func225 Q Q2<|dF 0 0 (L7 slot c) [0,1] 16 [] Q (c0 Q (λ_=>U5) λx5=>cX [7,8] Q2 (bM [] Q2)<|c0 Q (λ_=>RX) λx6=>c0 Q (λ_=>JQ) λx7=>c0 Q (λ_=>b8) λx8=>bM [] Q2) λx1=>bE [16] Q2 (cB Q2)<|c0 Q (λ_=>U5) λx2=>c0 Q (λ_=>RX) λx3=>c0 Q (λ_=>Z4) λx4=>cB Q2
theorem YK{h:Heap}{slot:Int}{s1 s2:AC}(h1:aR U s1 h.Bytes)(h2:aR U s2 h.Class):V0 prog U 119 (z8 h slot) [.g [.h s1 h.Bytes.length,.h s2 h.Class.length],I slot] I:=
 cC call119 func119 Q Q2<|iL aG [0] Q<|c0 Q (λh=>AY (h.a h1) (h.a h2)) λx1=>c0 Q (λ_=>YJ) λx2=>c0 Q (λh=>D9 (h.a h1)) λx3=>cB Q2
theorem B6{l:List Int}{x:Int}{s1:AC}(h1:aR U s1 l):V0 prog U 48 (vT l x) [.h s1 l.length,I x] .b:=
 cC call48 func48 Q Q2<|GX 5 [0,1] [] Out.brk [] [] Q Q (λhF1 x2 hr1=>bE [9] Q2 (Y7 Q h1 Q λx3=>bE [17] Q2 (zC hr1 hF1<|cB Q2)<|xO [] Q)<|sO [] Q)<|cB Q2
theorem aII{l:aC}{s1 s2:AC}(h1:aR U s1 l.Global)(h2:aR U s2 l.Own):VS prog U 296 (RI l) [.g [.h s1 l.Global.length,.h s2 l.Own.length]] [] [] (λr (y:AC)=>.h y r.length) (λr y=>[ow y r]):=
 cC call296 func296 Q Q2<|λhF=>lt0 (O:=Int) aS Q4 λs3=>wi hF<|G0 s3 [1] (λ(p:(List Int)×Int) (s5:AC)=>[(3,.h s5 p.1.length),(4,I p.2)]) [1,0] [0] (λp s5=>[ow s5 (p.1:List Int)]) id [1] (λ(x5:(List Int)) (s6:AC)=>[(3,.h s6 x5.length)]) [0] (λx5 s6=>[ow s6 (x5:List Int)]) Q Q (λhF1 ⟨x3,x4⟩ s5 hr1=>bE [11] Q2 (oK JG Q h1 Q λx12 s12 h4=>λhG1=>ap 0 aS Q Q Q Q Q Q Q (λh=>(h.a h4)) Q Q hG1 λhG1 s13=>wi hG1<|nxW s13 [0,1] Q)<|bkW s5 [0,1] Q) λx5 s6=>G0 s6 [1] (λ(p:(List Int)×Int) (s8:AC)=>[(3,.h s8 p.1.length),(5,I p.2)]) [0,1] [1] (λp s8=>[ow s8 (p.1:List Int)]) id [] (λ(x10:(List Int)) (s9:AC)=>[(3,.h s9 x10.length)]) [] (λx10 s9=>[ow s9 (x10:List Int)]) Q Q (λhF2 ⟨x8,x9⟩ s8 hr2=>bE [26] Q2 (oK JG Q h2 Q λx11 s10 h3=>λhG2=>ap 0 aS Q Q Q Q Q Q Q (λh=>(h.a h3)) Q Q hG2 λhG2 s11=>wi hG2<|nxW s11 [0,1] Q)<|bkW s8 [0] Q) λx10 s9=>iY s9 [0] Q2
theorem aUD{l:aC}{slot:Int}{s1 s2:AC}(h1:aR U s1 l.Global)(h2:aR U s2 l.Own):V0 prog U 223 (TN l slot) [.g [.h s1 l.Global.length,.h s2 l.Own.length],I slot] .b:=
 cC call223 func223 Q Q2<|c1 Q (λh=>aII (h.a h1) (h.a h2)) λx1 s3=>c0 Q (λh=>B6 (h.o 1 Q)) λx2=>cB Q2
theorem aCB{m:Mem}{slot:Int}{s1 s2 s3 s4:AC}(h1:aR U s1 m.Heap.Bytes)(h2:aR U s2 m.Heap.Class)(h3:aR U s3 m.aC.Global)(h4:aR U s4 m.aC.Own):V0 prog U 118 (IV m slot) [.g (gM m s1 s2 s3 s4),I slot] I:=
 cC call118 func118 Q Q2<|c0 Q (λh=>AY (h.a h1) (h.a h2)) λx1=>bE [5,10] Q2 (cB Q2)<|c0 Q (λh=>aUD (h.a h3) (h.a h4)) λx2=>bE [11,15] Q2 (cB Q2)<|c0 Q (λh=>YK (h.a h1) (h.a h2)) λx3=>bE [16,21] Q2 (cB Q2)<|cB Q2
theorem aKG{h:Int}:V0 prog U 120 (IW h) [I h] I:=
 cC call120 func120 Q Q2<|c0 Q (λ_=>kZ) λx1=>bE [5] Q2 (cB Q2)<|cB Q2
theorem JR{m:Mem}{h:Int}{s1 s2 s3 s4:AC}(h1:aR U s1 m.Heap.Bytes)(h2:aR U s2 m.Heap.Class)(h3:aR U s3 m.aC.Global)(h4:aR U s4 m.aC.Own):V0 prog U 45 (rD m h) [.g (gM m s1 s2 s3 s4),I h] .b:=
 cC call45 func45 Q Q2<|dF 0 1 wV [] 4 [] Q (iL aG [0] Q<|c0 Q (λ_=>kZ) λx2=>cX [6,7] Q2 (c0 Q (λ_=>jC) λx3=>c0 Q (λh=>aCB (h.a h1) (h.a h2) (h.a h3) (h.a h4)) λx4=>cX [12,13,14] Q2 (c0 Q (λ_=>jC) λx5=>c0 Q (λh=>YK (h.a h1) (h.a h2)) λx6=>c0 Q (λ_=>aKG) λx7=>bM [] Q2)<|bM [] Q2)<|bM [] Q2) λx1=>cB Q2
theorem U6{l:List bT}{s1:AC}(h1:aR U s1 l):VS prog U 67 (GR l) [.h s1 l.length] [] [] (λr (y:AC)=>.h y r.length) (λr y=>[ow y r]):=
 cC call67 func67 Q Q2<|λhF=>lt0 (O:=eB) AP Q4 λs2=>wi hF<|G0 s2 [0] (λ(p:(List eB)×Int) (s4:AC)=>[(3,.h s4 p.1.length),(4,I p.2)]) [0] [] (λp s4=>[ow s4 (p.1:List eB)]) id [] (λ(x5:(List eB)) (s5:AC)=>[(3,.h s5 x5.length)]) [] (λx5 s5=>[ow s5 (x5:List eB)]) Q Q (λhF1 ⟨x3,x4⟩ s4 hr1=>bE [9] Q2 (oK YA Q h1 Q λx6 s6 h2=>λhG1=>ap 0 AP Q Q Q Q Q Q Q (λh=>(h.a h2)) Q Q hG1 λhG1 s7=>wi hG1<|nxW s7 [0] Q)<|bkW s4 [0] Q) λx5 s5=>iY s5 [0] Q2
theorem aQ8{b:List Int}{s1:AC}(h1:aR U s1 b):V0 prog U 344 (PU b) [.h s1 b.length] .b:=
 cC call344 func344 Q Q2<|GX 3 [0] [] Out.brk [0] [] Q Q (λhF1 x2 hr1=>bE [7] Q2 (Y7 Q h1 Q λx3=>c0 Q (λ_=>b8) λx4=>bE [15] Q2 (zC hr1 hF1<|cB Q2)<|xO [] Q)<|sO [] Q)<|cB Q2
theorem aQ9{h:Heap}{s1 s2:AC}(h1:aR U s1 h.Bytes)(h2:aR U s2 h.Class):V0 prog U 294 (PW h) [.g [.h s1 h.Bytes.length,.h s2 h.Class.length]] .b:=
 cC call294 func294 Q Q2<|dF 0 1 (wW h) [1] 19 [0] Q (cX [7,8] Q2 (bM [0] Q2)<|cX [12,13,14] Q2 (bM [0] Q2)<|c0 Q (λh=>aQ8 (h.a h1)) λx6=>bM [0] Q2) λx1=>bE [19] Q2 (cB Q2)<|GX 3 [1] [0] Out.brk [] [] Q Q (λhF2 x3 hr2=>bE [21] Q2 (Y7 Q h2 Q λx4=>c0 Q (λ_=>b8) λx5=>bE [30] Q2 (zC hr2 hF2<|cB Q2)<|xO [0] Q)<|sO [] Q)<|cB Q2
theorem aUE{page index:Int}:V0 prog U 345 (uT page index) [I page,I index] I:=
 cC call345 func345 Q Q2<|dF 0 0 (AB page index) [0,1] 12 [] Q (c0 Q (λ_=>b8) λx2=>cX [7,8] Q2 (bM [] Q2)<|c0 Q (λ_=>b8) λx3=>bM [] Q2) λx1=>bE [12] Q2 (cB Q2)<|cB Q2
theorem aUF{h:Heap}{p:Int}{s1 s2:AC}(h1:aR U s1 h.Bytes)(h2:aR U s2 h.Class):V0 prog U 295 (TO h p) [.g [.h s1 h.Bytes.length,.h s2 h.Class.length],I p] .b:=
 cC call295 func295 Q Q2<|Y7 Q h2 Q λx1=>bE [18] Q2 (GX 7 [2,5] [0] Out.brk [] [] Q Q (λhF1 x3 hr1=>bE [23] Q2 (Y7 Q h1 Q λx4=>bE [31] Q2 (zC hr1 hF1<|cB Q2)<|xO [0] Q)<|sO [] Q)<|cB Q2)<|dF 0 2 (mC h p x1) [1,2,5,6] 58 [0] Q (iL aG [0,1] Q<|Y7 Q h1 Q λx16=>cX [37,38] Q2 (bM [0] Q2)<|Y7 Q h1 Q λx17=>cX [46,47,48] Q2 (bM [0] Q2)<|Y7 Q h1 Q λx18=>c0 Q (λ_=>JQ) λx19=>bM [0] Q2) λx5=>bE [58] Q2 (cB Q2)<|GX 8 [1,2,5,6] [0] Out.brk [1,2,6] [0] Q Q (λhF3 x7 hr3=>bE [64] Q2 (Y7 Q h1 Q λx15=>bE [72] Q2 (zC hr3 hF3<|cB Q2)<|xO [0] Q)<|sO [0] Q)<|GX 9 [1,2,6] [0] Out.brk [] [] Q Q (λhF4 x9 hr4=>c0 Q (λ_=>JQ) λx10=>bE [76] Q2 (iL aG [0] Q<|c0 Q (λ_=>aUE) λx11=>c0 Q (λ_=>YJ) λx12=>c0 Q (λh=>D9 (h.a h1)) λx13=>c0 Q (λ_=>b8) λx14=>bE [88] Q2 (zC hr4 hF4<|cB Q2)<|xO [0] Q)<|sO [] Q)<|cB Q2
theorem aUG{h:Heap}{s1 s2:AC}(h1:aR U s1 h.Bytes)(h2:aR U s2 h.Class):V0 prog U 216 (TP h) [.g [.h s1 h.Bytes.length,.h s2 h.Class.length]] .b:=
 cC call216 func216 Q Q2<|c0 Q (λh=>aQ9 (h.a h1) (h.a h2)) λx1=>bE [6] Q2 (cB Q2)<|GX 3 [1] [0] Out.brk [] [] Q Q (λhF1 x3 hr1=>bE [8] Q2 (c0 Q (λh=>aUF (h.a h1) (h.a h2)) λx4=>bE [14] Q2 (zC hr1 hF1<|cB Q2)<|xO [0] Q)<|sO [] Q)<|cB Q2
theorem aRA{l:aC}{s1 s2:AC}(h1:aR U s1 l.Global)(h2:aR U s2 l.Own):V0 prog U 217 (PX l) [.g [.h s1 l.Global.length,.h s2 l.Own.length]] .b:=
 cC call217 func217 Q Q2<|dF 0 1 (E3 l) [1] 15 [0] Q (cX [9,10] Q2 (bM [0] Q2)<|bM [0] Q2) λx1=>bE [15] Q2 (cB Q2)<|GX 3 [1] [0] Out.brk [1] [0] Q Q (λhF2 x3 hr2=>bE [20] Q2 (oK JG Q h2 Q λx11 s4 h8=>bE [30] Q2 (zC hr2 hF2<|cB Q2)<|xO [0] Q)<|sO [0] Q)<|c1 Q (λh=>aII (h.a h1) (h.a h2)) λx4 s3=>GX 5 [4] [1] Out.brk [] [] Q Q (λhF3 x6 hr3=>bE [36] Q2 (dF 0 1 (E2 x6) [4,5] 54 [0] Q (iL aG [] Q<|pI oI 0 Q3 λx8 h3 _ h4=>λhG3=>lJ 1 h4 h3 Q5<|wi hG3<|c0 Q (λ_=>b8) λx9=>cX [44,45] Q2 (λhG3=>sF Q<|jR oI 1 [] h3 () Q7<|mQ () [4] hG3 Q)<|λhG3=>cqS oI 1 [] h3 () Q9<|cpc 4 Q Q λhc1=>aTI hc1 Q Q Q Q Q Q hG3 λhG3 h5=>have hq1:=rb h3;wi hq1<|pI oI 4 Q3 λu1 h6 _ h7=>λhq1=>lJ 2 h7 h6 Q5<|match u1,hq1 with|_,rfl=>cqS oI 5 [] h6 () Q9<|wi hG3<|c0 Q (λh=>B6 ((h.o 8 Q).sub (OL h5.1 h5.2) h5)) λx10=>bM [8] Q2) λx7=>bE [54] Q2 (zC hr3 hF3<|cB Q2)<|xO [0] Q)<|sO [] Q)<|cB Q2
theorem Z5{h:Heap}{l:List Int}{c:Int}{s1 s2:AC}{s3:AC}(h1:aR U s1 h.Bytes)(h2:aR U s2 h.Class)(h3:aR U s3 l):V0 prog U 218 (DQ h l c) [.g [.h s1 h.Bytes.length,.h s2 h.Class.length],.h s3 l.length,I c] .b:=
 cC call218 func218 Q Q2<|GX 7 [1,2,3] [0] Out.brk [] [] Q Q (λhF1 x2 hr1=>bE [11] Q2 (dF 0 1 (BN x2) [1,2,3,7] 30 [0] Q (iL aG [0] Q<|Y7 Q h3 Q λx4=>c0 Q (λh=>AY (h.a h1) (h.a h2)) λx5=>cX [21,22] Q2 (bM [0] Q2)<|Y7 Q h3 Q λx6=>c0 Q (λh=>YK (h.a h1) (h.a h2)) λx7=>bM [0] Q2) λx3=>bE [30] Q2 (zC hr1 hF1<|cB Q2)<|xO [0] Q)<|sO [] Q)<|cB Q2
theorem aXQ{w_ c:Int}:V0 prog U 219 (AE w_ c) [I w_,I c] I:=
 cC call219 func219 Q Q2<|dF 0 0 (DR w_ c) [0,1] 12 [] Q (c0 Q (λ_=>b8) λx2=>cX [7,8] Q2 (bM [] Q2)<|c0 Q (λ_=>b8) λx3=>bM [] Q2) λx1=>bE [12] Q2 (cB Q2)<|cB Q2
theorem aXR{m:Mem}{s1 s2 s3 s4:AC}(h1:aR U s1 m.Heap.Bytes)(h2:aR U s2 m.Heap.Class)(h3:aR U s3 m.aC.Global)(h4:aR U s4 m.aC.Own):V0 prog U 105 (XW m) [.g (gM m s1 s2 s3 s4)] .b:=
 cC call105 func105 Q Q2<|dF 0 1 (L8 m) [1] 14 [0] Q (c0 Q (λh=>aUG (h.a h1) (h.a h2)) λx11=>bQU [8,9] Q Q (λhb6=>bM [0] Q2) λhb6=>c0 Q (λh=>aRA (h.a h3) (h.a h4)) λx12=>bM [0] Q2) λx1=>a27 [14] Q Q (λhb1=>cB Q2) λhb1=>GX 3 [1] [0] Out.brk [] [] Q Q (λhF2 x3 hr2=>a27 [16] Q Q (λhb2=>iL aG [0] Q<|oK JG Q h3 Q λx4 s5 h5=>c0 Q (λh=>Z5 (h.a h1) (h.a h2) (h.a h5)) λx5=>a27 [30] Q Q (λhb3=>zC hr2 hF2<|cB Q2) λhb3=>GX 4 [1,3] [0] Out.brk [1,3] [0] Q Q (λhF3 x7 hr3=>a27 [32] Q Q (λhb4=>iL aG [0] Q<|c0 Q (λ_=>aXQ) λx8=>oK JG Q h4 Q λx9 s6 h6=>c0 Q (λh=>Z5 (h.a h1) (h.a h2) (h.a h6)) λx10=>a27 [48] Q Q (λhb5=>zC hr3 hF3<|zC hr2 hF2<|cB Q2) λhb5=>xO [0] Q) λhb4=>sO [0] Q)<|xO [0] Q) λhb2=>sO [] Q)<|cB Q2
theorem aRB{c:aD}{s1:AC}(h1:aR U s1 c.cG):V0 prog U 106 (rE c) [.g [I c.aJ,.h s1 c.cG.length]] .b:=
 cC call106 func106 Q Q2<|dF 0 1 (qC c) [1] 14 [0] Q (c0 Q (λ_=>b8) λx10=>cX [8,9] Q2 (bM [0] Q2)<|bM [0] Q2) λx1=>bE [14] Q2 (cB Q2)<|GX 3 [1] [0] Out.brk [] [] Q Q (λhF2 x3 hr2=>bE [16] Q2 (oK a0E Q h1 Q λx4 _ _=>dF 0 3 (nA x3) [1,3] 45 [0] Q (cX [26,27] Q2 (λhG2=>neS eqGuardType157 stoodInHeld157 underlying157 (aLB 9997 x4 zL3) Q Q Q Q Q Q<|wi hG2<|cX [30,31,32] Q2 (bM [0] Q2)<|c0 Q (λ_=>b8) λx6=>cX [38,39,40] Q2 (bM [0] Q2)<|c0 Q (λ_=>b8) λx7=>bM [0] Q2)<|c0 Q (λ_=>b8) λx8=>cX [38,39,40] Q2 (bM [0] Q2)<|c0 Q (λ_=>b8) λx9=>bM [0] Q2) λx5=>bE [45] Q2 (zC hr2 hF2<|cB Q2)<|xO [0] Q)<|sO [] Q)<|cB Q2
theorem aRC{l:List bT}{s1:AC}(h1:aR U s1 l):V0 prog U 107 (PY l) [.h s1 l.length] .b:=
 cC call107 func107 Q Q2<|c1 Q (λh=>U6 (h.a h1)) λx1 s2=>dF 0 0 (E4 x1) [3] 16 [0] Q (cX [11,12] Q2 (bM [0] Q2)<|bM [0] Q2) λx2=>bE [16] Q2 (cB Q2)<|λhF=>lt0 (O:=Int) aS Q4 λs3=>wi hF<|G0 s3 [3] (λ(p:(List Int)×Int) (s5:AC)=>[(4,.h s5 p.1.length),(5,I p.2)]) [1,0] [0] (λp s5=>[ow s5 (p.1:List Int)]) Out.brk [] (λ(_:Unit) (_:Unit)=>[]) [] (λ_ _=>[]) Q Q (λhF2 ⟨x5,x6⟩ s5 hr2=>bE [21] Q2 (pI KK 1 Q3 λx7 h2 _ h3=>λhG2=>lJ 0 h3 h2 Q5<|wi hG2<|c0 Q (λ_=>jC) λx8=>eJ 0 1 (wY x5 x6 x8) [3,4,5,6] (λ(x9:Bool) (_:Unit)=>[(45,.b x9)]) [0] (λx9 _=>[ow s2 (x1:List eB)]) Q (cX [31,32] Q2 (λhG2=>sF Q<|jR KK 2 [] h2 () Q7<|mQ () [5,0] hG2 Q)<|λhG2=>lJ 0 h3 h2 Q5<|wi hG2<|c0 Q (λ_=>b8) λx10=>cX [39,40,41] Q2 (λhG2=>sF Q<|jR KK 2 [] h2 () Q7<|mQ () [5,0] hG2 Q)<|c0 Q (λh=>B6 (h.o 0 Q)) λx11=>λhG2=>sF Q<|jR KK 2 [] h2 () Q7<|mQ () [5,0] hG2 Q) λx9 _=>bE [45] Q2 (zC hr2 hF2<|cB Q2)<|λhG2=>lt1 Q aS Q4 λs6=>ap 1 aS Q Q Q Q Q Q Q (λh=>(h.o 2 Q)) Q Q hG2 λhG2 s7=>wi hG2<|nxW s7 [1,0] Q)<|sO [] Q) λ() _=>cB Q2
theorem aXS{z:List Int}{s1:AC}(h1:aR U s1 z):V0 prog U 108 (XX z) [.h s1 z.length] .b:=
 cC call108 func108 Q Q2<|GX 3 [0] [] Out.brk [0] [] Q Q (λhF1 x2 hr1=>bE [7] Q2 (dF 0 0 (L9 x2) [0,3] 22 [] Q (Y7 Q h1 Q λx4=>cX [14,15] Q2 (Y7 Q h1 Q λx5=>c0 Q (λ_=>kZ) λx6=>bM [] Q2)<|bM [] Q2) λx3=>bE [22] Q2 (zC hr1 hF1<|cB Q2)<|xO [] Q)<|sO [] Q)<|cB Q2
theorem aFE{b:aA}{s1 s2 s3 s4 s5 s6 s7:AC}(h1:aR U s1 b.Mem.Heap.Bytes)(h2:aR U s2 b.Mem.Heap.Class)(h3:aR U s3 b.Mem.aC.Global)(h4:aR U s4 b.Mem.aC.Own)(h5:aR U s5 b.aD.cG)(h6:aR U s6 b.aM)(h7:aR U s7 b.lX):V0 prog U 38 (MZ b) [.g (gB b s1 s2 s3 s4 s5 s6 s7)] .b:=
 cC call38 func38 Q Q2<|dF 0 1 (tQ b) [1] 26 [0] Q (c0 Q (λh=>aXR (h.a h1) (h.a h2) (h.a h3) (h.a h4)) λx8=>cX [8,9] Q2 (bM [0] Q2)<|c0 Q (λh=>aRB (h.a h5)) λx9=>cX [13,14,15] Q2 (bM [0] Q2)<|c0 Q (λh=>aRC (h.a h6)) λx10=>cX [19,20,21] Q2 (bM [0] Q2)<|c0 Q (λh=>aXS (h.a h7)) λx11=>bM [0] Q2) λx1=>bE [26] Q2 (cB Q2)<|c1 Q (λh=>U6 (h.a h6)) λx2 s8=>GX 4 [1,3] [1,0] Out.brk [] [] Q Q (λhF2 x4 hr2=>bE [33] Q2 (dF 0 1 (IX x4) [1,3,4] 55 [0,1] Q (iL aG [1] Q<|pI KK 0 Q3 λx6 h8 _ h9=>λhG2=>lJ 1 h9 h8 Q5<|wi hG2<|c0 Q (λh=>JR (h.a h1) (h.a h2) (h.a h3) (h.a h4)) λx7=>cX [44,45] Q2 (λhG2=>sF Q<|jR KK 2 [] h8 () Q7<|mQ () [5,1] hG2 Q)<|λhG2=>lJ 1 h9 h8 Q5<|sF Q<|jR KK 2 [] h8 () Q7<|mQ () [5,1] hG2 Q) λx5=>bE [55] Q2 (zC hr2 hF2<|cB Q2)<|xO [0,1] Q)<|sO [] Q)<|cB Q2
theorem JS{h:Int}:V0 prog U 110 (vU h) [I h] .b:=
 cC call110 func110 Q Q2<|dF 0 0 E5 [] 2 [] Q (cX [4,5] Q2 (bM [] Q2)<|c0 Q (λ_=>kZ) λx2=>bM [] Q2) λx1=>cB Q2
theorem aXT{b:cQ}:V0 prog U 41 (XY b) [.g [I b.Head,I b.jS,I b.g9]] .b:=
 cC call41 func41 Q Q2<|dF 0 1 DV [] 2 [] Q (c0 Q (λ_=>JS) λx2=>cX [5,6] Q2 (c0 Q (λ_=>b8) λx3=>cX [9,10,11] Q2 (c0 Q (λ_=>b8) λx4=>bM [] Q2)<|bM [] Q2)<|bM [] Q2) λx1=>cB Q2
theorem T7{l:List Int}{s1:AC}(h1:aR U s1 l):V0 prog U 111 (xA l) [.h s1 l.length] .b:=
 cC call111 func111 Q Q2<|GX 3 [0] [] Out.brk [0] [] Q Q (λhF1 x2 hr1=>bE [7] Q2 (Y7 Q h1 Q λx3=>c0 Q (λ_=>kZ) λx4=>bE [15] Q2 (zC hr1 hF1<|cB Q2)<|xO [] Q)<|sO [] Q)<|cB Q2
theorem aNP{j:aI}{s1 s2 s3 s4 s5 s6 s7:AC}(h1:aR U s1 j.Batch.bW)(h2:aR U s2 j.Reads)(h3:aR U s3 j.aH)(h4:aR U s4 j.iZ)(h5:aR U s5 j.eO)(h6:aR U s6 j.bD)(h7:aR U s7 j.bU):V0 prog U 42 (MA j) [.g (gTj j s1 s2 s3 s4 s5 s6 s7)] .b:=
 cC call42 func42 Q Q2<|dF 0 1 (fV j) [1] 61 [0] Q (c0 Q (λh=>aBY (h.a h1)) λx22=>cX [9,10] Q2 (bM [0] Q2)<|c0 Q (λ_=>JS) λx23=>cX [14,15,16] Q2 (bM [0] Q2)<|c0 Q (λ_=>JS) λx24=>cX [20,21,22] Q2 (bM [0] Q2)<|c0 Q (λ_=>b8) λx25=>cX [26,27,28] Q2 (bM [0] Q2)<|c0 Q (λ_=>b8) λx26=>cX [36,37,38] Q2 (bM [0] Q2)<|c0 Q (λ_=>b8) λx27=>cX [42,43,44] Q2 (bM [0] Q2)<|c0 Q (λh=>T7 (h.a h5)) λx28=>cX [48,49,50] Q2 (bM [0] Q2)<|c0 Q (λh=>T7 (h.a h7)) λx29=>cX [54,55,56] Q2 (bM [0] Q2)<|bM [0] Q2) λx1=>bE [61] Q2 (cB Q2)<|GX 3 [1] [0] Out.brk [1] [0] Q Q (λhF2 x3 hr2=>bE [66] Q2 (dF 0 1 (BO x3) [1,3] 87 [0] Q (iL aG [0] Q<|Y7 Q h6 Q λx18=>c0 Q (λ_=>b8) λx19=>cX [75,76] Q2 (bM [0] Q2)<|λhG2=>a5Z Q Q Q Q Q h6 Q Q hG2 λhG2 s8 h8=>wi hG2<|Y7 Q h6 Q λx20=>c0 Q (λh=>B6 (h.a h8)) λx21=>bM [0] Q2) λx17=>bE [87] Q2 (zC hr2 hF2<|cB Q2)<|xO [0] Q)<|sO [0] Q)<|GX 4 [1] [0] Out.brk [1] [0] Q Q (λhF3 x5 hr3=>bE [92] Q2 (oK aE2 Q h2 Q λx15 _ _=>c0 Q (λ_=>b8) λx16=>bE [102] Q2 (zC hr3 hF3<|cB Q2)<|xO [0] Q)<|sO [0] Q)<|GX 5 [1] [0] Out.brk [] [] Q Q (λhF4 x7 hr4=>bE [107] Q2 (dF 0 1 (oS x7) [1,5] 147 [0] Q (iL aG [0] Q<|oK yH Q h3 Q λx9 _ _=>c0 Q (λ_=>b8) λx10=>cX [117,118] Q2 (bM [0] Q2)<|oK yH Q h3 Q λx11 _ _=>c0 Q (λ_=>b8) λx12=>cX [126,127,128] Q2 (bM [0] Q2)<|cX [130,131] Q2 (oK yH Q h3 Q λx13 _ _=>oK yH Q h3 Q λx14 _ _=>bM [0] Q2)<|bM [0] Q2) λx8=>bE [147] Q2 (zC hr4 hF4<|cB Q2)<|xO [0] Q)<|sO [] Q)<|cB Q2
theorem aGH{a_ b:List kG}{s1:AC}{s2:AC}(h1:aR U s1 a_)(h2:aR U s2 b):V0 prog U 221 (tU a_ b) [.h s1 a_.length,.h s2 b.length] .b:=
 cC call221 func221 Q Q2<|bE [10] Q2 (cB Q2)<|GX 5 [0,1] [] Out.brk [] [] Q Q (λhF1 x2 hr1=>bE [14] Q2 (iL aG [] Q<|oK aXF Q h1 Q λx3 _ _=>oK aXF Q h2 Q λx4 _ _=>λhG1=>neS eqGuardType128 stoodInHeld128 underlying128 (aLC 9997 x3 x4) Q Q Q Q Q Q<|wi hG1<|bE [25] Q2 (zC hr1 hF1<|cB Q2)<|xO [] Q)<|sO [] Q)<|cB Q2
theorem aEG{a_ b:Batch}{s1:AC}{s2:AC}(h1:aR U s1 a_.bW)(h2:aR U s2 b.bW):V0 prog U 112 (yX a_ b) [.g [.b a_.Collect,.h s1 a_.bW.length],.g [.b b.Collect,.h s2 b.bW.length]] .b:=
 cC call112 func112 Q Q2<|dF 0 2 AG [] 4 [] Q (cX [9,10] Q2 (c0 Q (λh=>aGH (h.a h1) (h.a h2)) λx2=>bM [] Q2)<|bM [] Q2) λx1=>cB Q2
theorem aGI{a_ b:aI}{s1 s2 s3 s4 s5 s6 s7:AC}{s8 s9 s10 s11 s12 s13 s14:AC}(h1:aR U s1 a_.Batch.bW)(h2:aR U s2 a_.Reads)(h3:aR U s3 a_.aH)(h4:aR U s4 a_.iZ)(h5:aR U s5 a_.eO)(h6:aR U s6 a_.bD)(h7:aR U s7 a_.bU)(h8:aR U s8 b.Batch.bW)(h9:aR U s9 b.Reads)(h10:aR U s10 b.aH)(h11:aR U s11 b.iZ)(h12:aR U s12 b.eO)(h13:aR U s13 b.bD)(h14:aR U s14 b.bU):V0 prog U 113 (BP a_ b) [.g (gTj a_ s1 s2 s3 s4 s5 s6 s7),.g (gTj b s8 s9 s10 s11 s12 s13 s14)] .b:=
 cC call113 func113 Q Q2<|dF 0 2 (sK a_ b) [2,3] 22 [0,1] Q (cX [13,14] Q2 (bM [0,1] Q2)<|bM [0,1] Q2) λx1=>bE [22] Q2 (cB Q2)<|GX 5 [2,3] [0,1] Out.brk [2,3] [0,1] Q Q (λhF2 x3 hr2=>bE [27] Q2 (iL aG [0,1] Q<|oK aE2 Q h2 Q λx8 _ _=>oK aE2 Q h9 Q λx9 _ _=>λhG2=>neS eqGuardType150 stoodInHeld150 underlying150 (aLD 9997 x8 x9) Q Q Q Q Q Q<|wi hG2<|bE [40] Q2 (zC hr2 hF2<|cB Q2)<|xO [0,1] Q)<|sO [0,1] Q)<|GX 6 [2,3] [0,1] Out.brk [] [] Q Q (λhF3 x5 hr3=>bE [45] Q2 (iL aG [0,1] Q<|oK yH Q h3 Q λx6 _ _=>oK yH Q h10 Q λx7 _ _=>λhG3=>neS eqGuardType152 stoodInHeld152 underlying152 (aLE 9997 x6 x7) Q Q Q Q Q Q<|wi hG3<|bE [58] Q2 (zC hr3 hF3<|cB Q2)<|xO [0,1] Q)<|sO [] Q)<|cB Q2
theorem aIJ{a_ b:List iZ}{s1:AC}{s2:AC}(h1:aR U s1 a_)(h2:aR U s2 b):V0 prog U 114 (E6 a_ b) [.h s1 a_.length,.h s2 b.length] .b:=
 cC call114 func114 Q Q2<|bE [10] Q2 (cB Q2)<|GX 5 [0,1] [] Out.brk [] [] Q Q (λhF1 x2 hr1=>bE [14] Q2 (iL aG [] Q<|oK bDA Q h1 Q λx3 _ _=>oK bDA Q h2 Q λx4 _ _=>λhG1=>neS eqGuardType196 stoodInHeld196 underlying196 (aLF 9997 x3 x4) Q Q Q Q Q Q<|wi hG1<|bE [25] Q2 (zC hr1 hF1<|cB Q2)<|xO [] Q)<|sO [] Q)<|cB Q2
theorem K9{a_ b:List Int}{s1:AC}{s2:AC}(h1:aR U s1 a_)(h2:aR U s2 b):V0 prog U 115 (tV a_ b) [.h s1 a_.length,.h s2 b.length] .b:=
 cC call115 func115 Q Q2<|bE [10] Q2 (cB Q2)<|GX 5 [0,1] [] Out.brk [] [] Q Q (λhF1 x2 hr1=>bE [14] Q2 (iL aG [] Q<|Y7 Q h1 Q λx3=>Y7 Q h2 Q λx4=>bE [25] Q2 (zC hr1 hF1<|cB Q2)<|xO [] Q)<|sO [] Q)<|cB Q2
theorem T8{a_ b:aI}{s1 s2 s3 s4 s5 s6 s7:AC}{s8 s9 s10 s11 s12 s13 s14:AC}(h1:aR U s1 a_.Batch.bW)(h2:aR U s2 a_.Reads)(h3:aR U s3 a_.aH)(h4:aR U s4 a_.iZ)(h5:aR U s5 a_.eO)(h6:aR U s6 a_.bD)(h7:aR U s7 a_.bU)(h8:aR U s8 b.Batch.bW)(h9:aR U s9 b.Reads)(h10:aR U s10 b.aH)(h11:aR U s11 b.iZ)(h12:aR U s12 b.eO)(h13:aR U s13 b.bD)(h14:aR U s14 b.bU):V0 prog U 43 (qD a_ b) [.g (gTj a_ s1 s2 s3 s4 s5 s6 s7),.g (gTj b s8 s9 s10 s11 s12 s13 s14)] .b:=
 cC call43 func43 Q Q2<|dF 0 2 b7 [] 4 [] Q (cX [9,10] Q2 (c0 Q (λh=>aEG (h.a h1) (h.a h8)) λx2=>cX [15,16,17] Q2 (cX [22,23,24] Q2 (cX [29,30,31] Q2 (cX [36,37,38] Q2 (cX [43,44,45] Q2 (cX [50,51,52] Q2 (cX [57,58,59] Q2 (cX [64,65,66] Q2 (cX [71,72,73] Q2 (λhF=>eqS eqGuardType86 stoodInHeld86 underlying86 (aQN 9997 a_.Node b.Node) Q Q Q Q Q Q<|wi hF<|cX [78,79,80] Q2 (cX [85,86,87] Q2 (cX [92,93,94] Q2 (λhF=>eqS eqGuardType88 stoodInHeld88 underlying88 (aQO 9997 a_.Sub b.Sub) Q Q Q Q Q Q<|wi hF<|cX [99,100,101] Q2 (c0 Q (λh=>aGI (h.a h1) (h.a h2) (h.a h3) (h.a h4) (h.a h5) (h.a h6) (h.a h7) (h.a h8) (h.a h9) (h.a h10) (h.a h11) (h.a h12) (h.a h13) (h.a h14)) λx3=>cX [104,105,106] Q2 (c0 Q (λh=>aIJ (h.a h4) (h.a h11)) λx4=>cX [111,112,113] Q2 (c0 Q (λh=>K9 (h.a h5) (h.a h12)) λx5=>cX [118,119,120] Q2 (c0 Q (λh=>K9 (h.a h6) (h.a h13)) λx6=>cX [125,126,127] Q2 (c0 Q (λh=>K9 (h.a h7) (h.a h14)) λx7=>bM [] Q2)<|bM [] Q2)<|bM [] Q2)<|bM [] Q2)<|bM [] Q2)<|bM [] Q2)<|bM [] Q2)<|bM [] Q2)<|bM [] Q2)<|bM [] Q2)<|bM [] Q2)<|bM [] Q2)<|bM [] Q2)<|bM [] Q2)<|bM [] Q2)<|bM [] Q2)<|bM [] Q2)<|bM [] Q2)<|bM [] Q2) λx1=>cB Q2
theorem uG{t:Table}{s1 s2 s3 s4 s5 s6 s7 s8 s9 s10 s11:AC}(h1:aR U s1 t.aA.Mem.Heap.Bytes)(h2:aR U s2 t.aA.Mem.Heap.Class)(h3:aR U s3 t.aA.Mem.aC.Global)(h4:aR U s4 t.aA.Mem.aC.Own)(h5:aR U s5 t.aA.aD.cG)(h6:aR U s6 t.aA.aM)(h7:aR U s7 t.aA.lX)(h8:aR U s8 t.bZ)(h9:aR U s9 t.aQ)(h10:aR U s10 t.dQ)(h11:aR U s11 t.Log):V0 prog U 12 (nX t) [.g (FF t s1 s2 s3 s4 s5 s6 s7 s8 s9 s10 s11)] .b:=
 cC call12 func12 Q Q2<|dF 0 1 (kY t) [1] 32 [0] Q (c0 Q (λh=>aFE (h.a h1) (h.a h2) (h.a h3) (h.a h4) (h.a h5) (h.a h6) (h.a h7)) λx18=>cX [8,9] Q2 (bM [0] Q2)<|cX [13,14,15] Q2 (bM [0] Q2)<|cX [19,20,21] Q2 (bM [0] Q2)<|c0 Q (λh=>aBZ (h.a h10)) λx19=>cX [25,26,27] Q2 (bM [0] Q2)<|c0 Q (λ_=>b8) λx20=>bM [0] Q2) λx1=>bE [32] Q2 (cB Q2)<|GX 3 [1] [0] Out.brk [1] [0] Q Q (λhF2 x3 hr2=>bE [34] Q2 (oK a3I Q h8 Q λx16 _ _=>c0 Q (λ_=>aXT) λx17=>bE [43] Q2 (zC hr2 hF2<|cB Q2)<|xO [0] Q)<|sO [0] Q)<|GX 4 [1] [0] Out.brk [] [] Q Q (λhF3 x5 hr3=>bE [45] Q2 (dF 0 1 (nB x5) [1,4] 81 [0] Q (oK OY Q h9 Q λx7 s12 h12=>cX [53,54] Q2 (oK OY Q h9 Q λx8 s13 h13=>c0 Q (λh=>aNP (h.a h13.1) (h.a h13.2.1) (h.a h13.2.2.1) (h.a h13.2.2.2.1) (h.a h13.2.2.2.2.1) (h.a h13.2.2.2.2.2.1) (h.a h13.2.2.2.2.2.2)) λx9=>cX [61,62,63] Q2 (bM [0] Q2)<|oK OY Q h9 Q λx10 s14 h14=>cX [70,71] Q2 (oK OY Q h9 Q λx11 s15 h15=>c0 Q (λh=>T8 (b:=zL0) (h.a h15.1) (h.a h15.2.1) (h.a h15.2.2.1) (h.a h15.2.2.2.1) (h.a h15.2.2.2.2.1) (h.a h15.2.2.2.2.2.1) (h.a h15.2.2.2.2.2.2) lS lS lS lS lS lS lS) λx12=>bM [0] Q2)<|bM [0] Q2)<|oK OY Q h9 Q λx13 s16 h16=>cX [70,71] Q2 (oK OY Q h9 Q λx14 s17 h17=>c0 Q (λh=>T8 (b:=zL0) (h.a h17.1) (h.a h17.2.1) (h.a h17.2.2.1) (h.a h17.2.2.2.1) (h.a h17.2.2.2.2.1) (h.a h17.2.2.2.2.2.1) (h.a h17.2.2.2.2.2.2) lS lS lS lS lS lS lS) λx15=>bM [0] Q2)<|bM [0] Q2) λx6=>bE [81] Q2 (zC hr3 hF3<|cB Q2)<|xO [0] Q)<|sO [] Q)<|cB Q2
theorem U7{l:List Int}{x:Int}{s1:AC}:VS prog U 116 (uU l x) [.h s1 l.length,I x] [] [ow s1 (l:List Int)] (λr (y:AC)=>.h y r.length) (λr y=>[ow y r]):=
 cC call116 func116 Q Q2<|λhF=>lt0 (O:=Int) aS Q4 λs2=>wi hF<|G0 s2 [0,1] (λ(p:(List Int)×Bool×Int) (s4:AC)=>[(5,.h s4 p.1.length),(6,.b p.2.1),(7,I p.2.2)]) [1,0] [0] (λp s4=>[ow s4 (p.1:List Int)]) Out.brk [1] (λ(p:(List Int)×Bool) (s5:AC)=>[(5,.h s5 p.1.length),(6,.b p.2)]) [] (λp s5=>[ow s5 (p.1:List Int)]) Q Q (λhF1 ⟨x4,x5,x6⟩ s4 hr1=>bE [12] Q2 (pI oI 1 Q3 λx10 h1 _ h2=>λhG1=>lJ 0 h2 h1 Q5<|wi hG1<|bE [20] Q2 (λhG1=>sR Q<|jR oI 2 [] h1 () Q7<|oF s1 [5] (re hG1 Q hr1 hF1) Q2 Q4)<|eJ 1 1 (λ(p:(List Int)×Bool)=>tW l x6 p.1 p.2) [0,1,7] (λ(p:(List Int)×Bool) (s9:AC)=>[(5,.h s9 p.1.length),(6,.b p.2)]) [] (λp s9=>[ow s1 (l:List Int),ow s9 (p.1:List Int)]) Q (eJ 0 1 (tX l x x4 x5 x6) [0,1,5,6,7] (λ(x14:Bool) (_:Unit)=>[(31,.b x14)]) [0] (λx14 _=>[ow s1 (l:List Int)]) Q (cX [23,24] Q2 (λhG1=>lJ 0 h2 h1 Q5<|sF Q<|jR oI 2 [] h1 () Q7<|mQ () [5,0] hG1 Q)<|λhG1=>sF Q<|jR oI 2 [] h1 () Q7<|mQ () [5,0] hG1 Q) λx14 _=>bE [31] Q2 (λhG1=>lt1 Q aS Q4 λs12=>ap 1 aS Q Q Q Q Q Q Q (λh=>(h.o 2 Q)) Q Q hG1 λhG1 s13=>wi hG1<|pC (p:=(x4++([x]),true)) s13 [0,1] Q2)<|pC (p:=(x4,x5)) s4 [0,1] Q2) λ⟨x11,x12⟩ s9=>pI oI 0 Q3 λx13 h3 _ h4=>λhG1=>lJ 1 h4 h3 Q5<|lt1 Q aS Q4 λs10=>ap 1 aS Q Q Q Q Q Q Q (λh=>(h.o 5 Q)) Q Q hG1 λhG1 s11=>sF Q<|jR oI 2 [] h3 () Q7<|nxR s11 [1,6] hG1 Q)<|bkW s4 [0] Q) λ⟨x7,x8⟩ s5=>eJ 0 0 AI [] (λ(x9:(List Int)) (s6:AC)=>[(5,.h s6 x9.length)]) [] (λx9 s6=>[ow s6 (x9:List Int)]) Q (bE [44] Q2 (λhF=>lt1 Q aS Q4 λs7=>ap 0 aS Q Q Q Q Q Q Q (λh=>(h.o 1 Q)) Q Q hF λhF s8=>wi hF<|pC s8 [0] Q2)<|pC s5 [0] Q2) λx9 s6=>iY s6 [0] Q2
theorem aEH{t:Table}{s1 s2 s3 s4 s5 s6 s7 s8 s9 s10 s11:AC}(h1:aR U s1 t.aA.Mem.Heap.Bytes)(h2:aR U s2 t.aA.Mem.Heap.Class)(h3:aR U s3 t.aA.Mem.aC.Global)(h4:aR U s4 t.aA.Mem.aC.Own)(h5:aR U s5 t.aA.aD.cG)(h6:aR U s6 t.aA.aM)(h7:aR U s7 t.aA.lX)(h8:aR U s8 t.bZ)(h9:aR U s9 t.aQ)(h10:aR U s10 t.dQ)(h11:aR U s11 t.Log):VS prog U 44 (yY t) [.g (FF t s1 s2 s3 s4 s5 s6 s7 s8 s9 s10 s11)] [] [] (λr (y:AC)=>.h y r.length) (λr y=>[ow y r]):=
 cC call44 func44 Q Q2<|λhF=>lt0 (O:=Int) aS Q4 λs12=>wi hF<|c0 Q (λh=>uG (h.a h1) (h.a h2) (h.a h3) (h.a h4) (h.a h5) (h.a h6) (h.a h7) (h.a h8) (h.a h9) (h.a h10) (h.a h11)) λx1=>G0 s12 [1,4] (λ(p:(List Int)×Int) (s14:AC)=>[(3,.h s14 p.1.length),(5,I p.2)]) [1,0] [0] (λp s14=>[ow s14 (p.1:List Int)]) id [] (λ(x6:(List Int)) (s15:AC)=>[(3,.h s15 x6.length)]) [] (λx6 s15=>[ow s15 (x6:List Int)]) Q Q (λhF1 ⟨x4,x5⟩ s14 hr1=>dF 0 1 (mD t x4 x5) [1,3,4,5] 15 [0,1] Q (cX [12,13] Q2 (bM [0,1] Q2)<|bM [0,1] Q2) λx7=>bE [15] Q2 (eJ 2 1 (rF x5) [1,4,5] (λ(x8:(List Int)) (s16:AC)=>[(3,.h s16 x8.length)]) [1] (λx8 s16=>[ow s16 (x8:List Int)]) Q (oK OY Q h9 Q λx9 s17 h12=>oK a0E Q h5 Q λx10 _ _=>eJ 0 5 (λ(p:Bool×aI)=>eU x4 x5 p.1 p.2) [1,3,4,5,6] (λ(p:Bool×aI) (_:Unit)=>[(55,.b p.1)]) [0,1] (λp _=>[.box 2 [.b p.2.cR,.b p.2.Batch.Collect,.h s17.1 x9.Batch.bW.length,I p.2.aO,I p.2.Pc,I p.2.At,I p.2.K,I p.2.cQ,I p.2.jS,I p.2.H,I p.2.gN,I p.2.Node.Key,I p.2.Node.fT,I p.2.Node.Next,.b p.2.Found,I p.2.Code,I p.2.Sub.Kind,I p.2.Sub.A,I p.2.Sub.Pc,I p.2.Sub.E,I p.2.Sub.Row,I p.2.Sub.B,I p.2.Sub.H,I p.2.Sub.Out,I p.2.Sub.Code,.b p.2.Sub.iB,.h s17.2.1 x9.Reads.length,.h s17.2.2.1 x9.aH.length,.h s17.2.2.2.1 x9.iZ.length,.h s17.2.2.2.2.1 x9.eO.length,.h s17.2.2.2.2.2.1 x9.bD.length,.h s17.2.2.2.2.2.2 x9.bU.length]]) Q (cX [31,32] Q2 (cX [35,36] Q2 (cX [45,46,47] Q2 (cX [49,50,51] Q2 (bM (p:=(!x10.gG,x9)) [3,0,1] Q2)<|bM (p:=(false,x9)) [3,0,1] Q2)<|bM (p:=(false,x9)) [3,0,1] Q2)<|cX [39,40,41,42] Q2 (cX [45,46,47] Q2 (cX [49,50,51] Q2 (bM (p:=(!x10.gG,x9)) [3,0,1] Q2)<|bM (p:=(false,x9)) [3,0,1] Q2)<|bM (p:=(false,x9)) [3,0,1] Q2)<|bM (p:=(false,x9)) [3,0,1] Q2)<|bM (p:=(false,x9)) [3,0,1] Q2) λ⟨x11,x12⟩ _=>bE [55] Q2 (J8 [1] Q4 (λ_=>U7) λx13 s18=>pC s18 [3,2] Q2)<|pC s14 [1,2] Q2) λx8 s16=>nxW s16 [0,1] Q)<|bkW s14 [0] Q) λx6 s15=>iY s15 [0] Q2
theorem aKH{t:Table}{s1 s2 s3 s4 s5 s6 s7 s8 s9 s10 s11:AC}(h1:aR U s1 t.aA.Mem.Heap.Bytes)(h2:aR U s2 t.aA.Mem.Heap.Class)(h3:aR U s3 t.aA.Mem.aC.Global)(h4:aR U s4 t.aA.Mem.aC.Own)(h5:aR U s5 t.aA.aD.cG)(h6:aR U s6 t.aA.aM)(h7:aR U s7 t.aA.lX)(h8:aR U s8 t.bZ)(h9:aR U s9 t.aQ)(h10:aR U s10 t.dQ)(h11:aR U s11 t.Log):V0 prog U 13 (IY t) [.g (FF t s1 s2 s3 s4 s5 s6 s7 s8 s9 s10 s11)] .b:=
 cC call13 func13 Q Q2<|c1 Q (λh=>aEH (h.a h1) (h.a h2) (h.a h3) (h.a h4) (h.a h5) (h.a h6) (h.a h7) (h.a h8) (h.a h9) (h.a h10) (h.a h11)) λx1 s12=>GX 4 [1,3] [1,0] Out.brk [1] [0] Q Q (λhF1 x3 hr1=>bE [10] Q2 (iL aG [1] Q<|pI oI 0 Q3 λx5 h12 _ h13=>λhG1=>lJ 1 h13 h12 Q5<|wi hG1<|c0 Q (λh=>JR (h.a h1) (h.a h2) (h.a h3) (h.a h4)) λx6=>bE [21] Q2 (λhG1=>sR Q<|jR oI 2 [] h12 () Q7<|oF () [] (re hG1 Q hr1 hF1) Q2 Q4)<|λhG1=>sF Q<|jR oI 2 [] h12 () Q7<|nxR () [5,1] hG1 Q)<|sO [1] Q)<|c0 Q (λh=>uG (h.a h1) (h.a h2) (h.a h3) (h.a h4) (h.a h5) (h.a h6) (h.a h7) (h.a h8) (h.a h9) (h.a h10) (h.a h11)) λx4=>cB Q2
theorem aCC{l:List bT}{slot:Int}{s1:AC}(h1:aR U s1 l):V0 prog U 49 (BQ l slot) [.h s1 l.length,I slot] .b:=
 cC call49 func49 Q Q2<|c1 Q (λh=>U6 (h.a h1)) λx1 s2=>GX 6 [1,5] [0] Out.brk [] [] Q Q (λhF1 x3 hr1=>bE [12] Q2 (dF 0 0 (xD x3) [1,5,6] 30 [0] Q (pI KK 0 Q3 λx5 h2 _ h3=>λhG1=>lJ 0 h3 h2 Q5<|wi hG1<|c0 Q (λ_=>kZ) λx6=>cX [20,21] Q2 (λhG1=>lJ 0 h3 h2 Q5<|wi hG1<|c0 Q (λ_=>jC) λx7=>λhG1=>sF Q<|jR KK 1 [] h2 () Q7<|mQ () [4] hG1 Q)<|λhG1=>sF Q<|jR KK 1 [] h2 () Q7<|mQ () [4] hG1 Q) λx4=>bE [30] Q2 (zC hr1 hF1<|cB Q2)<|xO [0] Q)<|sO [] Q)<|cB Q2
theorem aNQ{b:aA}{slot:Int}{s1 s2 s3 s4 s5 s6 s7:AC}(h1:aR U s1 b.Mem.Heap.Bytes)(h2:aR U s2 b.Mem.Heap.Class)(h3:aR U s3 b.Mem.aC.Global)(h4:aR U s4 b.Mem.aC.Own)(h5:aR U s5 b.aD.cG)(h6:aR U s6 b.aM)(h7:aR U s7 b.lX):V0 prog U 68 (MB b slot) [.g (gB b s1 s2 s3 s4 s5 s6 s7),I slot] I:=
 cC call68 func68 Q Q2<|c0 Q (λh=>aCB (h.a h1) (h.a h2) (h.a h3) (h.a h4)) λx1=>dF 0 1 (BR x1) [5] 18 [] Q (cX [11,12] Q2 (c0 Q (λh=>aCC (h.a h6)) λx3=>bM [] Q2)<|bM [] Q2) λx2=>bE [18] Q2 (cB Q2)<|cB Q2
theorem aXU{b:aA}{s1 s2 s3 s4 s5 s6 s7:AC}(h1:aR U s1 b.Mem.Heap.Bytes)(h2:aR U s2 b.Mem.Heap.Class)(h3:aR U s3 b.Mem.aC.Global)(h4:aR U s4 b.Mem.aC.Own)(h5:aR U s5 b.aD.cG)(h6:aR U s6 b.aM)(h7:aR U s7 b.lX):VS prog U 22 (XZ b) [.g (gB b s1 s2 s3 s4 s5 s6 s7)] [] [] (λr (y:AC)=>.h y r.length) (λr y=>[ow y r]):=
 cC call22 func22 Q Q2<|λhF=>mks (0:Int) aS (λw=>UG Q w) Q7 hF λhF s8=>wi hF<|c0 Q (λh=>aFE (h.a h1) (h.a h2) (h.a h3) (h.a h4) (h.a h5) (h.a h6) (h.a h7)) λx1=>G0 () [1,4] (λ(p:(List Int)×Int) (_:Unit)=>[(3,.h s8 p.1.length),(5,I p.2)]) [1,0] [0] (λp _=>[ow s8 (p.1:List Int)]) id [] (λ(x6:(List Int)) (_:Unit)=>[(3,.h s8 x6.length)]) [] (λx6 _=>[ow s8 (x6:List Int)]) Q Q (λhF1 ⟨x4,x5⟩ _ hr1=>dF 0 1 (DW b x4 x5) [1,3,4,5] 14 [0,1] Q (cX [11,12] Q2 (bM [0,1] Q2)<|bM [0,1] Q2) λx7=>bE [14] Q2 (c0 Q (λh=>aNQ (h.a h1) (h.a h2) (h.a h3) (h.a h4) (h.a h5) (h.a h6) (h.a h7)) λx8=>pI oI 0 Q3 λx9 h8 _ h9=>λhG1=>lJ 1 h9 h8 Q5<|lJ 1 h9 h8 Q5<|sF Q<|oT oI 2 [] [3,20,22] (aY (x9+1)) () Q8<|nxR () [5,1] hG1 Q)<|sO [0] Q) λx6 _=>iY s8 [0] Q2
theorem aRD{slot c:Int}:V0 prog U 302 (PZ slot c) [I slot,I c] I:=
 cC call302 func302 Q Q2<|c0 Q (λ_=>YJ) λx1=>bE [10] Q2 (cB Q2)<|cB Q2
theorem aRE{m:Mem}{h:Int}{s1 s2 s3 s4:AC}(h1:aR U s1 m.Heap.Bytes)(h2:aR U s2 m.Heap.Class)(h3:aR U s3 m.aC.Global)(h4:aR U s4 m.aC.Own):V0 prog U 226 (P0 m h) [.g (gM m s1 s2 s3 s4),I h] (λr=>.t [I r.1,I r.2]):=
 cC call226 func226 Q Q2<|dF 0 1 (E7 m h) [1,2] 17 [0] Q (iL aG [0] Q<|c0 Q (λ_=>kZ) λx7=>cX [9,10] Q2 (bM [0] Q2)<|c0 Q (λ_=>jC) λx8=>c0 Q (λh=>AY (h.a h1) (h.a h2)) λx9=>bM [0] Q2) λx1=>bE [17] Q2 (cB Q2)<|iL aG [0] Q<|c0 Q (λ_=>jC) λx2=>c0 Q (λh=>AY (h.a h1) (h.a h2)) λx3=>c0 Q (λ_=>aFD) λx4=>bE [25] Q2 (cB Q2)<|c0 Q (λ_=>jC) λx5=>c0 Q (λ_=>aRD) λx6=>cB Q2
theorem aUH{n:gE}:V0 prog U 227 (TX n) [.g [I n.Key,I n.fT,I n.Next]] .b:=
 cC call227 func227 Q Q2<|dF 0 1 AK [] 2 [] Q (c0 Q (λ_=>b8) λx2=>cX [5,6] Q2 (c0 Q (λ_=>b8) λx3=>cX [9,10,11] Q2 (c0 Q (λ_=>JS) λx4=>bM [] Q2)<|bM [] Q2)<|bM [] Q2) λx1=>cB Q2
theorem aCD{m:Mem}{at_:Int}{s1 s2 s3 s4:AC}(h1:aR U s1 m.Heap.Bytes)(h2:aR U s2 m.Heap.Class)(h3:aR U s3 m.aC.Global)(h4:aR U s4 m.aC.Own):V0 prog U 228 (IZ m at_) [.g (gM m s1 s2 s3 s4),I at_] (λr=>.g [I r.Key,I r.fT,I r.Next]):=
 cC call228 func228 Q Q2<|iL aG [0] Q<|c0 Q (λh=>D9 (h.a h1)) λx1=>c0 Q (λh=>D9 (h.a h1)) λx2=>c0 Q (λh=>D9 (h.a h1)) λx3=>cB Q2
theorem aNR{m:Mem}{head:Int}{s1 s2 s3 s4:AC}(h1:aR U s1 m.Heap.Bytes)(h2:aR U s2 m.Heap.Class)(h3:aR U s3 m.aC.Global)(h4:aR U s4 m.aC.Own):VS prog U 121 (MC m head) [.g (gM m s1 s2 s3 s4),I head] [] [] (λr (y:AC)=>.t [.h y r.1.length,.b r.2]) (λr y=>[ow y r.1]):=
 cC call121 func121 Q Q2<|λhF=>lt0 (O:=Int) aS Q4 λs5=>wi hF<|G0 s5 [2] (λ(p:(List Int)×Int) (s7:AC)=>[(6,.h s7 p.1.length),(7,I p.2)]) [1,0] [0] (λp s7=>[ow s7 (p.1:List Int)]) Out.brk [] (λ(x5:(List Int)) (s8:AC)=>[(6,.h s8 x5.length)]) [] (λx5 s8=>[ow s8 (x5:List Int)]) Q Q (λhF1 ⟨x3,x4⟩ s7 hr1=>bE [13] Q2 (dF 0 1 (BT m x3 x4) [2,6,7] 22 [0,1] Q (c0 Q (λh=>JR (h.a h1) (h.a h2) (h.a h3) (h.a h4)) λx12=>cX [17,18] Q2 (bM [0,1] Q2)<|c0 Q (λh=>B6 (h.o 0 Q)) λx13=>bM [0,1] Q2) λx6=>bE [22] Q2 (λhG1=>lt0 (O:=Int) aS Q4 λs9=>wi hG1<|zC hr1 hF1<|iY s9 [2] Q2)<|c0 Q (λh=>aRE (h.a h1) (h.a h2) (h.a h3) (h.a h4)) λx7=>dF 0 1 (BS m x3 x4 x7) [2,6,7,8] 38 [0,1] Q (cX [31,32] Q2 (bM [0,1] Q2)<|c0 Q (λh=>aCD (h.a h1) (h.a h2) (h.a h3) (h.a h4)) λx10=>c0 Q (λ_=>aUH) λx11=>bM [0,1] Q2) λx8=>bE [38] Q2 (λhG1=>lt0 (O:=Int) aS Q4 λs10=>wi hG1<|zC hr1 hF1<|iY s10 [2] Q2)<|λhG1=>lt1 Q aS Q4 λs11=>ap 0 aS Q Q Q Q Q Q Q (λh=>(h.o 2 Q)) Q Q hG1 λhG1 s12=>wi hG1<|c0 Q (λh=>aCD (h.a h1) (h.a h2) (h.a h3) (h.a h4)) λx9=>bLQ underlying86 Q Q Q Q Q Q Q<|nxW s12 [0,1] Q)<|bkW s7 [0] Q) λx5 s8=>iY s8 [0] Q2
theorem aUI{t:Table}{s1 s2 s3 s4 s5 s6 s7 s8 s9 s10 s11:AC}(h1:aR U s1 t.aA.Mem.Heap.Bytes)(h2:aR U s2 t.aA.Mem.Heap.Class)(h3:aR U s3 t.aA.Mem.aC.Global)(h4:aR U s4 t.aA.Mem.aC.Own)(h5:aR U s5 t.aA.aD.cG)(h6:aR U s6 t.aA.aM)(h7:aR U s7 t.aA.lX)(h8:aR U s8 t.bZ)(h9:aR U s9 t.aQ)(h10:aR U s10 t.dQ)(h11:aR U s11 t.Log):VS prog U 46 (TY t) [.g (FF t s1 s2 s3 s4 s5 s6 s7 s8 s9 s10 s11)] [] [] (λr (y:AC)=>.h y r.length) (λr y=>[ow y r]):=
 cC call46 func46 Q Q2<|λhF=>lt0 (O:=Int) aS Q4 λs12=>wi hF<|c0 Q (λh=>uG (h.a h1) (h.a h2) (h.a h3) (h.a h4) (h.a h5) (h.a h6) (h.a h7) (h.a h8) (h.a h9) (h.a h10) (h.a h11)) λx1=>bE [11] Q2 (iY s12 [1] Q2)<|G0 s12 [1] (λ(p:(List Int)×Int) (s14:AC)=>[(3,.h s14 p.1.length),(4,I p.2)]) [1,0] [0] (λp s14=>[ow s14 (p.1:List Int)]) Out.brk [] (λ(x6:(List Int)) (s15:AC)=>[(3,.h s15 x6.length)]) [] (λx6 s15=>[ow s15 (x6:List Int)]) Q Q (λhF1 ⟨x4,x5⟩ s14 hr1=>bE [14] Q2 (iL aG [1] Q<|oK a3I Q h8 Q λx7 _ _=>c1 Q (λh=>aNR (h.a h1) (h.a h2) (h.a h3) (h.a h4)) λx8 s16=>bE [31] Q2 (λhG1=>lt0 (O:=Int) aS Q4 λs17=>wi hG1<|zC hr1 hF1<|iY s17 [4] Q2)<|G0 s14 [1,4,5] (λ(p:(List Int)×Int) (s19:AC)=>[(3,.h s19 p.1.length),(7,I p.2)]) [0,3,1] [3,1] (λp s19=>[ow s19 (p.1:List Int)]) id [1,4] (λ(x13:(List Int)) (s20:AC)=>[(3,.h s20 x13.length)]) [1] (λx13 s20=>[ow s20 (x13:List Int)]) Q Q (λhF2 ⟨x11,x12⟩ s19 hr2=>bE [36] Q2 (pI oI 1 Q3 λx14 h12 _ h13=>λhG2=>lJ 2 h13 h12 Q5<|wi hG2<|J8 [0] Q4 (λ_=>U7) λx15 s21=>λhG2=>sF Q<|jR oI 3 [] h12 () Q7<|nxR s21 [6,7,2] hG2 Q)<|bkW s19 [0,2] Q) λx13 s20=>nxW s20 [0,1] Q)<|bkW s14 [0] Q) λx6 s15=>iY s15 [0] Q2
theorem a0J{l:List aX}{n:Int}{s1:AC}(h1:aR U s1 l):V0 prog U 229 (aDL l n) [.h s1 l.length,I n] I:=
 cC call229 func229 Q Q2<|G0 () [0,1] (λ(p:Int×Int) (_:Unit)=>[(5,I p.1),(6,I p.2)]) [] [] (λp _=>[]) id [] (λ(x5:Int) (_:Unit)=>[(5,I x5)]) [] (λx5 _=>[]) Q Q (λhF1 ⟨x3,x4⟩ _ hr1=>dF 0 0 (I0 l x3 x4) [0,1,5,6] 15 [] Q (cX [10,11] Q2 (bM [] Q2)<|bM [] Q2) λx6=>bE [15] Q2 (eJ 2 0 (P1 x4) [0,1,6] (λ(x7:Int) (_:Unit)=>[(5,I x7)]) [] (λx7 _=>[]) Q (oK yH Q h1 Q λx8 _ _=>bE [23] Q2 (bM [] Q2)<|bM [] Q2) λx7 _=>xO [] Q)<|sO [] Q) λx5 _=>cB Q2
theorem rU{b:List Int}{s1:AC}(h1:aR U s1 b):VS prog U 230 (oD b) [.h s1 b.length] [] [] (λr (y:AC)=>.h y r.length) (λr y=>[ow y r]):=
 cC call230 func230 Q Q2<|λhF=>lt0 (O:=Int) aS Q4 λs2=>ap 0 aS Q Q Q Q Q Q Q (λh=>(h.a h1)) Q Q hF λhF s3=>wi hF<|iY s3 [0] Q2
theorem aIK{j:aI}{s1 s2 s3 s4 s5 s6 s7:AC}(h1:aR U s1 j.Batch.bW)(h2:aR U s2 j.Reads)(h3:aR U s3 j.aH)(h4:aR U s4 j.iZ)(h5:aR U s5 j.eO)(h6:aR U s6 j.bD)(h7:aR U s7 j.bU):VS prog U 122 (E8 j) [.g (gTj j s1 s2 s3 s4 s5 s6 s7)] [] [] (λr (y:AC)=>.h y r.length) (λr y=>[ow y r]):=
 cC call122 func122 Q Q2<|λhF=>lt0 (O:=Int) aS Q4 λs8=>lt0 (O:=Int) aS Q4 λs9=>wi hF<|c0 Q (λ_=>b8) λx1=>cX [10,11] Q2 (c1 Q (λh=>rU (h.a h5)) λx2 s10=>λhF=>ap 3 aS Q Q Q Q Q Q Q (λh=>(h.o 2 Q)) Q Q hF λhF s11=>wi hF<|iY s11 [3] Q2)<|cX [14,15,16] Q2 (c1 Q (λh=>rU (h.a h5)) λx3 s12=>λhF=>ap 3 aS Q Q Q Q Q Q Q (λh=>(h.o 2 Q)) Q Q hF λhF s13=>wi hF<|iY s13 [3] Q2)<|bE [7,19,20] Q2 (c1 Q (λh=>rU (h.a h5)) λx4 s14=>λhF=>ap 3 aS Q Q Q Q Q Q Q (λh=>(h.o 2 Q)) Q Q hF λhF s15=>wi hF<|iY s15 [3] Q2)<|c0 Q (λ_=>b8) λx5=>bE [23,26] Q2 (iL aG [0] Q<|c0 Q (λh=>a0J (h.a h3)) λx6=>λhF=>aZP Q Q Q Q<|bJO Q Q Q Q Q h5 Q Q hF λhF s16 h8=>wi hF<|c1 Q (λh=>rU (h.a h8)) λx7 s17=>λhF=>ap 3 aS Q Q Q Q Q Q Q (λh=>(h.a h7)) Q Q hF λhF s18=>wi hF<|iY s18 [3] Q2)<|bE [41,44] Q2 (c1 Q (λh=>rU (h.o 1 Q)) λx8 s19=>λhF=>ap 3 aS Q Q Q Q Q Q Q (λh=>(h.a h7)) Q Q hF λhF s20=>wi hF<|iY s20 [3] Q2)<|bE [47,50] Q2 (λhF=>aZP Q Q Q Q<|bJO Q Q Q Q Q h7 Q Q hF λhF s21 h9=>wi hF<|c1 Q (λh=>rU (h.o 1 Q)) λx9 s22=>λhF=>ap 3 aS Q Q Q Q Q Q Q (λh=>(h.a h9)) Q Q hF λhF s23=>wi hF<|iY s23 [3] Q2)<|c1 Q (λh=>rU (h.o 1 Q)) λx10 s24=>λhF=>ap 3 aS Q Q Q Q Q Q Q (λh=>(h.o 2 Q)) Q Q hF λhF s25=>wi hF<|iY s25 [3] Q2
theorem aRF{t:Table}{s1 s2 s3 s4 s5 s6 s7 s8 s9 s10 s11:AC}(h1:aR U s1 t.aA.Mem.Heap.Bytes)(h2:aR U s2 t.aA.Mem.Heap.Class)(h3:aR U s3 t.aA.Mem.aC.Global)(h4:aR U s4 t.aA.Mem.aC.Own)(h5:aR U s5 t.aA.aD.cG)(h6:aR U s6 t.aA.aM)(h7:aR U s7 t.aA.lX)(h8:aR U s8 t.bZ)(h9:aR U s9 t.aQ)(h10:aR U s10 t.dQ)(h11:aR U s11 t.Log):VS prog U 47 (P2 t) [.g (FF t s1 s2 s3 s4 s5 s6 s7 s8 s9 s10 s11)] [] [] (λr (y:AC)=>.h y r.length) (λr y=>[ow y r]):=
 cC call47 func47 Q Q2<|λhF=>lt0 (O:=Int) aS Q4 λs12=>wi hF<|c0 Q (λh=>uG (h.a h1) (h.a h2) (h.a h3) (h.a h4) (h.a h5) (h.a h6) (h.a h7) (h.a h8) (h.a h9) (h.a h10) (h.a h11)) λx1=>G0 s12 [1,4] (λ(p:(List Int)×Int) (s14:AC)=>[(3,.h s14 p.1.length),(5,I p.2)]) [1,0] [0] (λp s14=>[ow s14 (p.1:List Int)]) id [] (λ(x6:(List Int)) (s15:AC)=>[(3,.h s15 x6.length)]) [] (λx6 s15=>[ow s15 (x6:List Int)]) Q Q (λhF1 ⟨x4,x5⟩ s14 hr1=>dF 0 1 (xE t x4 x5) [1,3,4,5] 15 [0,1] Q (cX [12,13] Q2 (bM [0,1] Q2)<|bM [0,1] Q2) λx7=>bE [15] Q2 (oK OY Q h9 Q λx8 s16 h12=>c1 Q (λh=>aIK (h.a h12.1) (h.a h12.2.1) (h.a h12.2.2.1) (h.a h12.2.2.2.1) (h.a h12.2.2.2.2.1) (h.a h12.2.2.2.2.2.1) (h.a h12.2.2.2.2.2.2)) λx9 s17=>G0 s14 [1,4,5,6] (λ(p:(List Int)×Int) (s19:AC)=>[(3,.h s19 p.1.length),(7,I p.2)]) [0,3,1] [3,1] (λp s19=>[ow s19 (p.1:List Int)]) id [1,4,5] (λ(x14:(List Int)) (s20:AC)=>[(3,.h s20 x14.length)]) [1] (λx14 s20=>[ow s20 (x14:List Int)]) Q Q (λhF3 ⟨x12,x13⟩ s19 hr3=>dF 0 2 (E9 x9 x12 x13) [1,3,4,5,6,7] 35 [0,1,2] Q (cX [27,28] Q2 (oK OY Q h9 Q λx18 s22 h15=>bM [0,1,2] Q2)<|bM [0,1,2] Q2) λx15=>bE [35] Q2 (pI oI 1 Q3 λx16 h13 _ h14=>λhG3=>lJ 2 h14 h13 Q5<|wi hG3<|J8 [0] Q4 (λ_=>U7) λx17 s21=>λhG3=>sF Q<|jR oI 3 [] h13 () Q7<|nxR s21 [6,7,2] hG3 Q)<|bkW s19 [0,2] Q) λx14 s20=>nxW s20 [0,1] Q)<|bkW s14 [0] Q) λx6 s15=>iY s15 [0] Q2
theorem KL{t:Table}{s1 s2 s3 s4 s5 s6 s7 s8 s9 s10 s11:AC}(h1:aR U s1 t.aA.Mem.Heap.Bytes)(h2:aR U s2 t.aA.Mem.Heap.Class)(h3:aR U s3 t.aA.Mem.aC.Global)(h4:aR U s4 t.aA.Mem.aC.Own)(h5:aR U s5 t.aA.aD.cG)(h6:aR U s6 t.aA.aM)(h7:aR U s7 t.aA.lX)(h8:aR U s8 t.bZ)(h9:aR U s9 t.aQ)(h10:aR U s10 t.dQ)(h11:aR U s11 t.Log):V0 prog U 14 (nN t) [.g (FF t s1 s2 s3 s4 s5 s6 s7 s8 s9 s10 s11)] .b:=
 cC call14 func14 Q Q2<|iL aG [0] Q<|c1 Q (λh=>aUI (h.a h1) (h.a h2) (h.a h3) (h.a h4) (h.a h5) (h.a h6) (h.a h7) (h.a h8) (h.a h9) (h.a h10) (h.a h11)) λx1 s12=>c1 Q (λh=>aRF (h.a h1) (h.a h2) (h.a h3) (h.a h4) (h.a h5) (h.a h6) (h.a h7) (h.a h8) (h.a h9) (h.a h10) (h.a h11)) λx2 s13=>λhF=>ap 1 aS Q Q Q Q Q Q Q (λh=>(h.o 2 Q)) Q Q hF λhF s14=>wi hF<|GX 4 [1,3] [1,0] Out.brk [1,3] [1,0] Q Q (λhF1 x4 hr1=>bE [13] Q2 (dF 0 1 (kO x4) [1,3,4] 45 [0,1] Q (iL aG [1] Q<|λhG1=>cpc 0 Q Q λhc1=>aTI hc1 Q Q Q Q Q Q hG1 λhG1 h14=>wi hG1<|pI oI 0 Q3 λx10 h15 _ h16=>λhG1=>lJ 1 h16 h15 Q5<|cqS oI 2 [] h15 () Q9<|wi hG1<|c0 Q (λh=>B6 ((h.o 5 Q).sub (OL h14.1 h14.2) h14)) λx11=>cX [23,24] Q2 (bM [5,1] Q2)<|λhG1=>have hq1:=rb h15;wi hq1<|pI oI 5 Q3 λu1 h17 _ h18=>λhq1=>lJ 2 h18 h17 Q5<|match u1,hq1 with|_,rfl=>wi hG1<|c0 Q (λh=>JR (h.a h1) (h.a h2) (h.a h3) (h.a h4)) λx12=>cX [33,34,35] Q2 (λhG1=>sF Q<|jR oI 6 [] h17 () Q7<|fR Q2<|mQ () [9,1] hG1 Q)<|λhG1=>lJ 2 h18 h17 Q5<|wi hG1<|c0 Q (λ_=>jC) λx13=>c0 Q (λh=>aCC (h.a h6)) λx14=>λhG1=>sF Q<|jR oI 6 [] h17 () Q7<|fR Q2<|mQ () [9,1] hG1 Q) λx9=>bE [45] Q2 (zC hr1 hF1<|cB Q2)<|xO [0,1] Q)<|sO [0,1] Q)<|dF 0 1 nY [] 2 [] Q (c0 Q (λh=>uG (h.a h1) (h.a h2) (h.a h3) (h.a h4) (h.a h5) (h.a h6) (h.a h7) (h.a h8) (h.a h9) (h.a h10) (h.a h11)) λx6=>cX [47,48] Q2 (c1 Q (λh=>aXU (h.a h1) (h.a h2) (h.a h3) (h.a h4) (h.a h5) (h.a h6) (h.a h7)) λx7 s15=>pI oI 2 Q3 λx8 h12 _ h13=>λhF=>lJ 1 h13 h12 Q5<|sF Q<|jR oI 3 [] h12 () Q7<|fR Q2<|mQ () [] hF Q)<|bM [] Q2) λx5=>cB Q2
theorem WT{s:List Int}{del:(Int->Option Bool)}{s1:AC}{g_del:FuncId}{cap_del:List Value}(h_del:Fu1 prog U (cI:GI Int) .b g_del cap_del del):VS prog U 129 (pE s del) [.h s1 s.length,.k (.func (.func g_del) #[] cap_del.toArray)] [] [ow s1 (s:List Int)] (λr (y:AC)=>.h y r.length) (λr y=>[ow y r]):=
 cC call129 func129 Q Q2<|c0 Q (λh=>JJ (h.o 0 Q) (h.u1 h_del)) λx1=>bE [12] Q2 (iY s1 [0] Q2)<|G0 () [1] (λ(p:(List Int)×Int×Int) (_:Unit)=>[(0,.h s1 p.1.length),(5,I p.2.1),(6,I p.2.2)]) [0] [] (λp _=>[ow s1 (p.1:List Int)]) id [] (λ(p:(List Int)×Int) (_:Unit)=>[(0,.h s1 p.1.length),(5,I p.2)]) [] (λp _=>[ow s1 (p.1:List Int)]) Q Q (λhF1 ⟨x5,x6,x7⟩ _ hr1=>bE [19] Q2 (eJ 2 0 (λ(p:(List Int)×Int)=>jL x7 p.1 p.2) [1,6] (λ(p:(List Int)×Int) (_:Unit)=>[(0,.h s1 p.1.length),(5,I p.2)]) [] (λp _=>[ow s1 (p.1:List Int)]) Q (pI oI 0 Q3 λx12 h3 _ h4=>λhG1=>lJ 0 h4 h3 Q5<|fa1 h_del x12 () Q Q Q Q Q trivial hG1 λx13 _ hG1=>wi hG1<|bE [29] Q2 (λhG1=>cqS oI 1 [] h3 () Q9<|wi hG1<|pI oI 4 Q3 λx14 h5 _ h6=>λhG1=>lJ 1 h6 h5 Q5<|sF Q<|oT oI 5 [] [0,17,22,30] x12 () Q8<|mQ (p:=(x5.set x6.toNat x12,aY (x6+1))) () [8] hG1 Q)<|λhG1=>sF Q<|jR oI 1 [] h3 () Q7<|mQ (p:=(x5,x6)) () [4] hG1 Q) λ⟨x10,x11⟩ _=>xO [0] Q)<|sO [0] Q) λ⟨x8,x9⟩ _=>λhF=>cpc 0 Q Q λhc1=>aL0 hc1 Q6 hF λhF h1=>clr 0 x9.toNat x8.length (0:Int) h1 aS Q (λ_=>Q) Q Q Q Q Q Q Q Q<|rr s1 (fI (xs:=List.replicate (x8.length-x9.toNat) 0) (qK h1.1 h1.2)).symm [0,36] [] [] Q Q Q Q<|cpc 0 Q Q λhc2=>aTI hc2 Q Q Q Q Q Q hF λhF h2=>sR Q<|poR 0 0 x9.toNat Q Q h2 Q<|oF (AC.sub s1 1 0) [0] hF Q2 Q4
theorem aGJ{n:Int}:V0 prog U 131 (K4 n) [I n] .b:=
 cC call131 func131 Q Q2<|cB Q2
theorem B7{list:List Int}{s1:AC}(h1:aR U s1 list):VS prog U 56 (mF list) [.h s1 list.length] [] [] (λr (y:AC)=>.h y r.length) (λr y=>[ow y r]):=
 cC call56 func56 Q Q2<|c1 Q (λh=>hU (h.a h1)) λx1 s2=>J8 [0] Q4 (λ_=>WT (bQW call131 λ_=>aGJ)) λx2 s3=>J8 [1] Q4 (λ_=>T4) λx3 _=>λhF=>un 2 [3,6,7] [] [] Q6 λhl1=>wi hF<|J8 [2] Q4 (λ_=>M9) λx4 s4=>iY s4 [3] Q2
theorem aEI{t:Table}{s1 s2 s3 s4 s5 s6 s7 s8 s9 s10 s11:AC}(h1:aR U s1 t.aA.Mem.Heap.Bytes)(h2:aR U s2 t.aA.Mem.Heap.Class)(h3:aR U s3 t.aA.Mem.aC.Global)(h4:aR U s4 t.aA.Mem.aC.Own)(h5:aR U s5 t.aA.aD.cG)(h6:aR U s6 t.aA.aM)(h7:aR U s7 t.aA.lX)(h8:aR U s8 t.bZ)(h9:aR U s9 t.aQ)(h10:aR U s10 t.dQ)(h11:aR U s11 t.Log):VS prog U 52 (yZ t) [.g (FF t s1 s2 s3 s4 s5 s6 s7 s8 s9 s10 s11)] [] [] (λr (y:AC)=>.h y r.length) (λr y=>[ow y r]):=
 cC call52 func52 Q Q2<|λhF=>lt0 (O:=Int) aS Q4 λs12=>wi hF<|c0 Q (λh=>uF (h.a h1) (h.a h2) (h.a h3) (h.a h4) (h.a h5) (h.a h6) (h.a h7) (h.a h8) (h.a h9) (h.a h10) (h.a h11)) λx1=>bE [9] Q2 (iY s12 [1] Q2)<|G0 s12 [1,12,13] (λ(p:(List Int)×Int) (s14:AC)=>[(3,.h s14 p.1.length),(14,I p.2)]) [1,0] [0] (λp s14=>[ow s14 (p.1:List Int)]) id [] (λ(x6:(List Int)) (s15:AC)=>[(3,.h s15 x6.length)]) [] (λx6 s15=>[ow s15 (x6:List Int)]) Q Q (λhF1 ⟨x4,x5⟩ s14 hr1=>bE [15] Q2 (eJ 2 1 (rH x5) [1,12,13,14] (λ(x8:(List Int)) (s17:AC)=>[(3,.h s17 x8.length)]) [1] (λx8 s17=>[ow s17 (x8:List Int)]) Q (oK OY Q h9 Q λx9 s18 h12=>eJ 0 3 (λ(p:Bool×aI)=>mG x4 x5 p.1 p.2) [1,3,5,12,13,14] (λ(p:Bool×aI) (_:Unit)=>[(35,.b p.1)]) [0,1] (λp _=>[.box 2 [.b p.2.cR,.b p.2.Batch.Collect,.h s18.1 x9.Batch.bW.length,I p.2.aO,I p.2.Pc,I p.2.At,I p.2.K,I p.2.cQ,I p.2.jS,I p.2.H,I p.2.gN,I p.2.Node.Key,I p.2.Node.fT,I p.2.Node.Next,.b p.2.Found,I p.2.Code,I p.2.Sub.Kind,I p.2.Sub.A,I p.2.Sub.Pc,I p.2.Sub.E,I p.2.Sub.Row,I p.2.Sub.B,I p.2.Sub.H,I p.2.Sub.Out,I p.2.Sub.Code,.b p.2.Sub.iB,.h s18.2.1 x9.Reads.length,.h s18.2.2.1 x9.aH.length,.h s18.2.2.2.1 x9.iZ.length,.h s18.2.2.2.2.1 x9.eO.length,.h s18.2.2.2.2.2.1 x9.bD.length,.h s18.2.2.2.2.2.2 x9.bU.length]]) Q (cX [20,21] Q2 (c0 Q (λ_=>bG) λx12=>cX [24,25,26] Q2 (oK a0E Q h5 Q λx13 _ _=>c0 Q (λ_=>M8) λx14=>bM (p:=(x14,x9)) [3,0,1] Q2)<|bM (p:=(false,x9)) [3,0,1] Q2)<|bM (p:=(false,x9)) [3,0,1] Q2) λ⟨x10,x11⟩ _=>bE [35] Q2 (λhG1=>lt1 Q aS Q4 λs19=>ap 1 aS Q Q Q Q Q Q Q (λh=>(h.o 3 Q)) Q Q hG1 λhG1 s20=>wi hG1<|pC s20 [1,2] Q2)<|pC s14 [1,2] Q2) λx8 s17=>nxW s17 [0,1] Q)<|bkW s14 [0] Q) λx6 s15=>c1 Q (λh=>B7 (h.o 0 Q)) λx7 s16=>iY s16 [1] Q2
theorem aGK{h:Int}{k0:Table}{s1 s2 s3 s4 s5 s6 s7 s8 s9 s10 s11:AC}{b0:Nat×Nat}(h1:aR U s1 k0.aA.Mem.Heap.Bytes)(h2:aR U s2 k0.aA.Mem.Heap.Class)(h3:aR U s3 k0.aA.Mem.aC.Global)(h4:aR U s4 k0.aA.Mem.aC.Own)(h5:aR U s5 k0.aA.aD.cG)(h6:aR U s6 k0.aA.aM)(h7:aR U s7 k0.aA.lX)(h8:aR U s8 k0.bZ)(h9:aR U s9 k0.aQ)(h10:aR U s10 k0.dQ)(h11:aR U s11 k0.Log):VS prog U 53 (BV h k0) [I h,.p 0 0] [b0] [.ro 0 (FF k0 s1 s2 s3 s4 s5 s6 s7 s8 s9 s10 s11)] (λr (_:Unit)=>.b r) (λ_ _=>[]):=
 cC call53 func53 Q Q2<|c0 Q (λh=>xZ (h.a h1) (h.a h2) (h.a h3) (h.a h4)) λx1=>cB Q2
theorem aKI{t:Table}{s1 s2 s3 s4 s5 s6 s7 s8 s9 s10 s11:AC}(h1:aR U s1 t.aA.Mem.Heap.Bytes)(h2:aR U s2 t.aA.Mem.Heap.Class)(h3:aR U s3 t.aA.Mem.aC.Global)(h4:aR U s4 t.aA.Mem.aC.Own)(h5:aR U s5 t.aA.aD.cG)(h6:aR U s6 t.aA.aM)(h7:aR U s7 t.aA.lX)(h8:aR U s8 t.bZ)(h9:aR U s9 t.aQ)(h10:aR U s10 t.dQ)(h11:aR U s11 t.Log):V0 prog U 15 (I4 t) [.g (FF t s1 s2 s3 s4 s5 s6 s7 s8 s9 s10 s11)] .b:=
 cC call15 func15 Q Q2<|dF 0 1 y5 [] 2 [] Q (λhF=>shS [0] Q Q<|wi hF<|c0 Q (λh=>uF (h.a h1) (h.a h2) (h.a h3) (h.a h4) (h.a h5) (h.a h6) (h.a h7) (h.a h8) (h.a h9) (h.a h10) (h.a h11)) λx2=>cX [4,5] Q2 (c1 Q (λh=>aEI (h.a h1) (h.a h2) (h.a h3) (h.a h4) (h.a h5) (h.a h6) (h.a h7) (h.a h8) (h.a h9) (h.a h10) (h.a h11)) λx3 s12=>λhF=>mf [0] Q Q Q<|wi hF<|aL2 [0] Q Q Q Q (λh=>λhB=>fO (h.o 1 Q) (aL1 (cs:=[(0,(FF t s1 s2 s3 s4 s5 s6 s7 s8 s9 s10 s11))]) call53 hB Q λhk _=>aGK (rk hk (h.a h1)) (rk hk (h.a h2)) (rk hk (h.a h3)) (rk hk (h.a h4)) (rk hk (h.a h5)) (rk hk (h.a h6)) (rk hk (h.a h7)) (rk hk (h.a h8)) (rk hk (h.a h9)) (rk hk (h.a h10)) (rk hk (h.a h11)))) λx4=>bM [] Q2)<|bM [] Q2) λx1=>cB Q2
theorem a3M{n:Int}:VS prog U 128 (aG6 Int n) [.h ⟨none,0⟩ 0,I n] [] [] (λr (y:AC)=>.h y r.length) (λr y=>[ow y r]):=
 cC call128 func128 Q Q2<|λhF=>nd hF λhn hF=>wi hF<|bE [6] Q2 (λhF=>nomatch hF)<|λhF=>qcn Q Q Q Q<|wi hF<|a27 [16] Q Q (λhb=>λhF=>qcn Q Q Q Q<|qn0 Q Q Q Q Q Q<|apZ (bJY hn hb) aS Q Q Q Q Q Q Q Q λs1=>rn0 Int 0 Q Q Q Q Q Q Q Q Q λs2=>wi hF<|iY s2 [0] Q2) λhb=>λhF=>sR Q<|J3 Int<|oF ⟨none,0⟩ [0] hF Q2 Q4
theorem C4{slices:List (List Int)}{s1:AC}(h1:aR U s1 slices):VS prog U 55 (mY slices) [.h s1 slices.length] [] [] (λr (y:AC)=>.h y r.length) (λr y=>[ow y r]):=
 cC call55 func55 Q Q2<|G0 () [0,9,10] (λ(p:Int×Int) (_:Unit)=>[(3,I p.1),(11,I p.2)]) [] [] (λp _=>[]) id [0] (λ(x5:Int) (_:Unit)=>[(3,I x5)]) [] (λx5 _=>[]) Q Q (λhF1 ⟨x3,x4⟩ _ hr1=>bE [12] Q2 (oK cL Q h1 Q λx13 s8 h3=>bE [20] Q2 (λhG1=>nomatch hG1)<|xO [] Q)<|sO [] Q) λx5 _=>c1 Q (λ_=>a3M) λx6 s2=>G0 s2 [25,26] (λ(p:(List Int)×Int) (s4:AC)=>[(6,.h s4 p.1.length),(27,I p.2)]) [0] [] (λp s4=>[ow s4 (p.1:List Int)]) id [] (λ(x11:(List Int)) (s5:AC)=>[(6,.h s5 x11.length)]) [] (λx11 s5=>[ow s5 (x11:List Int)]) Q Q (λhF2 ⟨x9,x10⟩ s4 hr2=>bE [28] Q2 (oK cL Q h1 Q λx12 s6 h2=>λhG2=>ap 0 aS Q Q Q Q Q Q Q (λh=>(h.a h2)) Q Q hG2 λhG2 s7=>wi hG2<|nxW s7 [0] Q)<|bkW s4 [0] Q) λx11 s5=>iY s5 [0] Q2
theorem aRG{j:aI}{s1 s2 s3 s4 s5 s6 s7:AC}{κ0:Ctx}(h1:aR U s1 j.Batch.bW)(h2:aR U s2 j.Reads)(h3:aR U s3 j.aH)(h4:aR U s4 j.iZ)(h5:aR U s5 j.eO)(h6:aR U s6 j.bD)(h7:aR U s7 j.bU)(k1:aR κ0 s5 j.eO)(k2:aR κ0 s6 j.bD)(k3:aR κ0 s7 j.bU):VS prog U 58 (P3 j) [.g (gTj j s1 s2 s3 s4 s5 s6 s7)] [] [] (λr (y:AC)=>.h y r.length) (λr y=>[.o (cBr κ0 y r)]):=
 cC call58 func58 Q Q2<|c0 Q (λ_=>bG) λx1=>cX [6,7] Q2 (λhF=>sR Q<|a8K k1<|oF s5 [1] hF Q2 Q4)<|cX [10,11,12] Q2 (λhF=>sR Q<|a8K k1<|oF s5 [1] hF Q2 Q4)<|bE [3,15,16] Q2 (λhF=>sR Q<|a8K k1<|oF s5 [1] hF Q2 Q4)<|c0 Q (λ_=>bG) λx2=>bE [19,22] Q2 (iL aG [0] Q<|c0 Q (λh=>AV (h.a h3)) λx3=>λhF=>aZP Q Q Q Q<|aL0 (aW0 h5) Q6 hF λhF h8=>ltK oAH () [⟨(AC.sub s5 1 ((if(j.eO.length:Int)<x3 then(j.eO.length:Int) else x3).toNat)),((j.eO.take j.eO.length).drop ((if(j.eO.length:Int)<x3 then(j.eO.length:Int) else x3).toNat)).length⟩,⟨s7,j.bU.length⟩] RS Q10 (λ_=>Q) λs8=>brL (ds:=([(j.eO.take j.eO.length).drop ((if(j.eO.length:Int)<x3 then(j.eO.length:Int) else x3).toNat),j.bU]:List (List Int))) 1 (ah2 ⟨Q,(h5.sub (OL h8.1 h8.2) h8)⟩ ⟨Q,h7⟩) Q Q Q<|wi hF<|c1 Q (λh=>C4 (h.b 1 Q)) λx4 s9=>λhF=>sR Q<|bQ7 2 Q<|oF s9 [2] hF Q2 Q4)<|bE [39,42] Q2 (λhF=>sR Q<|a8K k3<|oF s7 [1] hF Q2 Q4)<|bE [45,48] Q2 (λhF=>aZP Q Q Q Q<|aL0 (aW0 h7) Q6 hF λhF h9=>sR Q<|a8K (k3.sub (OL h9.1 h9.2) h9)<|oF (AC.sub s7 1 ((if(j.bU.length:Int)<j.K then(j.bU.length:Int) else j.K).toNat)) [1] hF Q2 Q4)<|λhF=>sR Q<|a8K bOL<|oF ⟨none,0⟩ [1] hF Q2 Q4
theorem aCE{t:Table}{s1 s2 s3 s4 s5 s6 s7 s8 s9 s10 s11:AC}(h1:aR U s1 t.aA.Mem.Heap.Bytes)(h2:aR U s2 t.aA.Mem.Heap.Class)(h3:aR U s3 t.aA.Mem.aC.Global)(h4:aR U s4 t.aA.Mem.aC.Own)(h5:aR U s5 t.aA.aD.cG)(h6:aR U s6 t.aA.aM)(h7:aR U s7 t.aA.lX)(h8:aR U s8 t.bZ)(h9:aR U s9 t.aQ)(h10:aR U s10 t.dQ)(h11:aR U s11 t.Log):VS prog U 17 (I5 t) [.g (FF t s1 s2 s3 s4 s5 s6 s7 s8 s9 s10 s11)] [] [] (λr (y:AC)=>.h y r.length) (λr y=>[ow y r]):=
 cC call17 func17 Q Q2<|λhF=>lt0 (O:=Int) aS Q4 λs12=>wi hF<|c0 Q (λh=>uF (h.a h1) (h.a h2) (h.a h3) (h.a h4) (h.a h5) (h.a h6) (h.a h7) (h.a h8) (h.a h9) (h.a h10) (h.a h11)) λx1=>bE [9] Q2 (iY s12 [1] Q2)<|G0 s12 [12,13] (λ(p:(List Int)×Int) (s14:AC)=>[(3,.h s14 p.1.length),(14,I p.2)]) [1] [] (λp s14=>[ow s14 (p.1:List Int)]) id [] (λ(x6:(List Int)) (s15:AC)=>[(3,.h s15 x6.length)]) [] (λx6 s15=>[ow s15 (x6:List Int)]) Q Q (λhF1 ⟨x4,x5⟩ s14 hr1=>bE [15] Q2 (eJ 2 1 (FA x5) [12,13,14] (λ(x8:(List Int)) (s17:AC)=>[(3,.h s17 x8.length)]) [] (λx8 s17=>[ow s17 (x8:List Int)]) Q (oK OY Q h9 Q λx9 s18 h12=>bE [19] Q2 (c1 Q (λh=>aRG (h.a h12.1) (h.a h12.2.1) (h.a h12.2.2.1) (h.a h12.2.2.2.1) (h.a h12.2.2.2.2.1) (h.a h12.2.2.2.2.2.1) (h.a h12.2.2.2.2.2.2) h12.2.2.2.2.1 h12.2.2.2.2.2.1 h12.2.2.2.2.2.2) λx10 s19=>λhG1=>ap 0 aS Q Q Q Q Q Q Q (λh=>(h.b 3 Q)) Q Q hG1 λhG1 s20=>wi hG1<|pC s20 [0] Q2)<|pC s14 [0] Q2) λx8 s17=>nxW s17 [0] Q)<|bkW s14 [0] Q) λx6 s15=>c1 Q (λh=>B7 (h.o 0 Q)) λx7 s16=>iY s16 [1] Q2
theorem aRH{m:Mem}{head:Int}{s1 s2 s3 s4:AC}(h1:aR U s1 m.Heap.Bytes)(h2:aR U s2 m.Heap.Class)(h3:aR U s3 m.aC.Global)(h4:aR U s4 m.aC.Own):VS prog U 143 (I6 m head) [.g (gM m s1 s2 s3 s4),I head] [] [] (λr (y:AC)=>.t [.h y r.1.length,.b r.2]) (λr y=>[ow y r.1]):=
 cC call143 func143 Q Q2<|λhF=>lt0 (O:=Int) aS Q4 λs5=>wi hF<|c0 Q (λh=>JN (h.a h1) (h.a h2) (h.a h3) (h.a h4)) λx1=>bE [12] Q2 (iY s5 [1] Q2)<|G0 s5 [2] (λ(p:(List Int)×Int) (s7:AC)=>[(6,.h s7 p.1.length),(7,I p.2)]) [1,0] [0] (λp s7=>[ow s7 (p.1:List Int)]) Out.brk [] (λ(x6:(List Int)) (s8:AC)=>[(6,.h s8 x6.length)]) [] (λx6 s8=>[ow s8 (x6:List Int)]) Q Q (λhF1 ⟨x4,x5⟩ s7 hr1=>bE [16] Q2 (dF 0 1 (FB m x4 x5) [2,6,7] 25 [0,1] Q (c0 Q (λh=>N8 (h.a h1) (h.a h2) (h.a h3) (h.a h4)) λx10=>cX [20,21] Q2 (bM [0,1] Q2)<|c0 Q (λh=>pH (h.o 0 Q)) λx11=>bM [0,1] Q2) λx7=>bE [25] Q2 (λhG1=>sR Q<|J3 Int<|oF ⟨none,0⟩ [2] (re hG1 Q hr1 hF1) Q2 Q4)<|c0 Q (λh=>aE9 (h.a h1) (h.a h2)) λx8=>c0 Q (λ_=>aFB) λx9=>bE [33] Q2 (λhG1=>sR Q<|J3 Int<|oF ⟨none,0⟩ [3] (re hG1 Q hr1 hF1) Q2 Q4)<|λhG1=>lt1 Q aS Q4 λs9=>ap 0 aS Q Q Q Q Q Q Q (λh=>(h.o 3 Q)) Q Q hG1 λhG1 s10=>wi hG1<|nxW s10 [0,1] Q)<|bkW s7 [0] Q) λx6 s8=>iY s8 [0] Q2
theorem aUJ{t:Table}{s1 s2 s3 s4 s5 s6 s7 s8 s9 s10 s11:AC}(h1:aR U s1 t.aA.Mem.Heap.Bytes)(h2:aR U s2 t.aA.Mem.Heap.Class)(h3:aR U s3 t.aA.Mem.aC.Global)(h4:aR U s4 t.aA.Mem.aC.Own)(h5:aR U s5 t.aA.aD.cG)(h6:aR U s6 t.aA.aM)(h7:aR U s7 t.aA.lX)(h8:aR U s8 t.bZ)(h9:aR U s9 t.aQ)(h10:aR U s10 t.dQ)(h11:aR U s11 t.Log):VS prog U 63 (TZ t) [.g (FF t s1 s2 s3 s4 s5 s6 s7 s8 s9 s10 s11)] [] [] (λr (y:AC)=>.t [.h y r.1.length,.b r.2]) (λr y=>[ow y r.1]):=
 cC call63 func63 Q Q2<|λhF=>lt0 (O:=List Int) RS Q4 λs12=>wi hF<|c0 Q (λh=>uF (h.a h1) (h.a h2) (h.a h3) (h.a h4) (h.a h5) (h.a h6) (h.a h7) (h.a h8) (h.a h9) (h.a h10) (h.a h11)) λx1=>bE [12] Q2 (iY s12 [1] Q2)<|G0 s12 [1,15,16] (λ(p:(List (List Int))×Int) (s14:AC)=>[(4,.h s14 p.1.length),(17,I p.2)]) [1,0] [0] (λp s14=>[ow s14 (p.1:List (List Int))]) Out.brk [] (λ(x6:(List (List Int))) (s15:AC)=>[(4,.h s15 x6.length)]) [] (λx6 s15=>[ow s15 (x6:List (List Int))]) Q Q (λhF1 ⟨x4,x5⟩ s14 hr1=>bE [18] Q2 (oK a3I Q h8 Q λx7 _ _=>c1 Q (λh=>aRH (h.a h1) (h.a h2) (h.a h3) (h.a h4)) λx8 s16=>bE [31] Q2 (λhG1=>sR Q<|J3 (List Int)<|oF ⟨none,0⟩ [5] (re hG1 Q hr1 hF1) Q2 Q4)<|λhG1=>ltN oL [4] (x8.1) s16 RS Q13 λs17=>apN 0 5 RS Q Q Q9 hG1 λhG1 s18=>wi hG1<|nxW s18 [6,1] Q)<|bkW s14 [0] Q) λx6 s15=>iY s15 [0] Q2
theorem aUK{t:Table}{s1 s2 s3 s4 s5 s6 s7 s8 s9 s10 s11:AC}(h1:aR U s1 t.aA.Mem.Heap.Bytes)(h2:aR U s2 t.aA.Mem.Heap.Class)(h3:aR U s3 t.aA.Mem.aC.Global)(h4:aR U s4 t.aA.Mem.aC.Own)(h5:aR U s5 t.aA.aD.cG)(h6:aR U s6 t.aA.aM)(h7:aR U s7 t.aA.lX)(h8:aR U s8 t.bZ)(h9:aR U s9 t.aQ)(h10:aR U s10 t.dQ)(h11:aR U s11 t.Log):VS prog U 23 (T0 t) [.g (FF t s1 s2 s3 s4 s5 s6 s7 s8 s9 s10 s11)] [] [] (λr (y:AC)=>.h y r.length) (λr y=>[ow y r]):=
 cC call23 func23 Q Q2<|c1 Q (λh=>aUJ (h.a h1) (h.a h2) (h.a h3) (h.a h4) (h.a h5) (h.a h6) (h.a h7) (h.a h8) (h.a h9) (h.a h10) (h.a h11)) λx1 s12=>c1 Q (λh=>C4 (h.o 1 Q)) λx2 s13=>c1 Q (λh=>B7 (h.o 2 Q)) λx3 s14=>iY s14 [3] Q2
theorem aIL{b:aA}{slot:Int}{s1 s2 s3 s4 s5 s6 s7:AC}(h1:aR U s1 b.Mem.Heap.Bytes)(h2:aR U s2 b.Mem.Heap.Class)(h3:aR U s3 b.Mem.aC.Global)(h4:aR U s4 b.Mem.aC.Own)(h5:aR U s5 b.aD.cG)(h6:aR U s6 b.aM)(h7:aR U s7 b.lX):V0 prog U 138 (RN b slot) [.g (gB b s1 s2 s3 s4 s5 s6 s7),I slot] I:=
 cC call138 func138 Q Q2<|c0 Q (λh=>aB3 (h.a h1) (h.a h2) (h.a h3) (h.a h4)) λx1=>bE [10,12] Q2 (cB Q2)<|c0 Q (λh=>JK (h.a h6)) λx2=>bE [14,18] Q2 (cB Q2)<|cB Q2
theorem aXV{b:aA}{s1 s2 s3 s4 s5 s6 s7:AC}(h1:aR U s1 b.Mem.Heap.Bytes)(h2:aR U s2 b.Mem.Heap.Class)(h3:aR U s3 b.Mem.aC.Global)(h4:aR U s4 b.Mem.aC.Own)(h5:aR U s5 b.aD.cG)(h6:aR U s6 b.aM)(h7:aR U s7 b.lX):VS prog U 134 (X0 b) [.g (gB b s1 s2 s3 s4 s5 s6 s7)] [] [] (λr (y:AC)=>.h y r.length) (λr y=>[ow y r]):=
 cC call134 func134 Q Q2<|λhF=>mks (0:Int) aS (λw=>UG Q w) Q7 hF λhF s8=>wi hF<|c0 Q (λh=>U4 (h.a h1) (h.a h2) (h.a h3) (h.a h4) (h.a h5) (h.a h6) (h.a h7)) λx1=>bE [8] Q2 (iY s8 [1] Q2)<|G0 () [1] (λ(p:(List Int)×Int) (_:Unit)=>[(3,.h s8 p.1.length),(10,I p.2)]) [1,0] [0] (λp _=>[ow s8 (p.1:List Int)]) id [] (λ(x6:(List Int)) (_:Unit)=>[(3,.h s8 x6.length)]) [] (λx6 _=>[ow s8 (x6:List Int)]) Q Q (λhF1 ⟨x4,x5⟩ _ hr1=>bE [11] Q2 (c0 Q (λh=>aIL (h.a h1) (h.a h2) (h.a h3) (h.a h4) (h.a h5) (h.a h6) (h.a h7)) λx7=>pI oI 0 Q3 λx8 h8 _ h9=>λhG1=>lJ 1 h9 h8 Q5<|lJ 1 h9 h8 Q5<|sF Q<|oT oI 2 [] [3,13] (aY (x8+1)) () Q8<|nxR () [5,1] hG1 Q)<|sO [0] Q) λx6 _=>iY s8 [0] Q2
theorem aRI{h:Int}{k0:aA}{s1 s2 s3 s4 s5 s6 s7:AC}{b0:Nat×Nat}(h1:aR U s1 k0.Mem.Heap.Bytes)(h2:aR U s2 k0.Mem.Heap.Class)(h3:aR U s3 k0.Mem.aC.Global)(h4:aR U s4 k0.Mem.aC.Own)(h5:aR U s5 k0.aD.cG)(h6:aR U s6 k0.aM)(h7:aR U s7 k0.lX):VS prog U 135 (I7 h k0) [I h,.p 0 0] [b0] [.ro 0 (gB k0 s1 s2 s3 s4 s5 s6 s7)] (λr (_:Unit)=>.b r) (λ_ _=>[]):=
 cC call135 func135 Q Q2<|dF 0 1 N2 [] 3 [] Q (c0 Q (λh=>xZ (h.a h1) (h.a h2) (h.a h3) (h.a h4)) λx2=>cX [8,9] Q2 (bM [] Q2)<|c0 Q (λh=>JK (h.a h6)) λx3=>bM [] Q2) λx1=>cB Q2
theorem aXW{b:aA}{list:List Int}{s1 s2 s3 s4 s5 s6 s7:AC}{s8:AC}(h1:aR U s1 b.Mem.Heap.Bytes)(h2:aR U s2 b.Mem.Heap.Class)(h3:aR U s3 b.Mem.aC.Global)(h4:aR U s4 b.Mem.aC.Own)(h5:aR U s5 b.aD.cG)(h6:aR U s6 b.aM)(h7:aR U s7 b.lX)(h8:aR U s8 list):V0 prog U 57 (X2 b list) [.g (gB b s1 s2 s3 s4 s5 s6 s7),.h s8 list.length] .b:=
 cC call57 func57 Q Q2<|dF 0 1 UX [] 4 [] Q (λhF=>shS [0] Q Q<|wi hF<|c1 Q (λh=>aXV (h.a h1) (h.a h2) (h.a h3) (h.a h4) (h.a h5) (h.a h6) (h.a h7)) λx2 s9=>pI oI 1 Q3 λx3 h9 _ h10=>λhF=>lJ 1 h10 h9 Q5<|wi hF<|cX [11,12] Q2 (λhF=>mf [0] Q Q Q<|wi hF<|aL2 [0] Q Q Q Q (λh=>λhB=>fO (h.a h8) (aL1 (cs:=[(0,(gB b s1 s2 s3 s4 s5 s6 s7))]) call135 hB Q λhk _=>aRI (rk hk (h.a h1)) (rk hk (h.a h2)) (rk hk (h.a h3)) (rk hk (h.a h4)) (rk hk (h.a h5)) (rk hk (h.a h6)) (rk hk (h.a h7)))) λx4=>λhF=>sF Q<|jR oI 2 [] h9 () Q7<|mQ () [] hF Q)<|λhF=>sF Q<|jR oI 2 [] h9 () Q7<|mQ () [] hF Q) λx1=>cB Q2
theorem aAN{t:Table}{s1 s2 s3 s4 s5 s6 s7 s8 s9 s10 s11:AC}(h1:aR U s1 t.aA.Mem.Heap.Bytes)(h2:aR U s2 t.aA.Mem.Heap.Class)(h3:aR U s3 t.aA.Mem.aC.Global)(h4:aR U s4 t.aA.Mem.aC.Own)(h5:aR U s5 t.aA.aD.cG)(h6:aR U s6 t.aA.aM)(h7:aR U s7 t.aA.lX)(h8:aR U s8 t.bZ)(h9:aR U s9 t.aQ)(h10:aR U s10 t.dQ)(h11:aR U s11 t.Log):V0 prog U 16 (sL t) [.g (FF t s1 s2 s3 s4 s5 s6 s7 s8 s9 s10 s11)] .b:=
 cC call16 func16 Q Q2<|iL aG [0] Q<|c1 Q (λh=>aUK (h.a h1) (h.a h2) (h.a h3) (h.a h4) (h.a h5) (h.a h6) (h.a h7) (h.a h8) (h.a h9) (h.a h10) (h.a h11)) λx1 s12=>c1 Q (λh=>aCE (h.a h1) (h.a h2) (h.a h3) (h.a h4) (h.a h5) (h.a h6) (h.a h7) (h.a h8) (h.a h9) (h.a h10) (h.a h11)) λx2 s13=>λhF=>ltM oL [1,2] [(x1,s12),(x2,s13)] RS Q Q Q Q Q Q Q Q Q Q Q Q Q λs14=>wi hF<|c1 Q (λh=>C4 (h.o 3 Q)) λx3 s15=>dF 0 1 nZ [] 2 [] Q (c0 Q (λh=>uF (h.a h1) (h.a h2) (h.a h3) (h.a h4) (h.a h5) (h.a h6) (h.a h7) (h.a h8) (h.a h9) (h.a h10) (h.a h11)) λx5=>cX [11,12] Q2 (c1 Q (λh=>B7 (h.o 4 Q)) λx6 s16=>cX [18,19,20] Q2 (c0 Q (λh=>aXW (h.a h1) (h.a h2) (h.a h3) (h.a h4) (h.a h5) (h.a h6) (h.a h7) (h.o 4 Q)) λx7=>bM [] Q2)<|bM [] Q2)<|bM [] Q2) λx4=>cB Q2
theorem aXX{a_ b:Span}:V0 prog U 59 (X3 a_ b) [.g [I a_.V2,I a_.To],.g [I b.V2,I b.To]] .b:=
 cC call59 func59 Q Q2<|dF 0 2 xY [] 4 [] Q (cX [9,10] Q2 (bM [] Q2)<|cX [15,16,17] Q2 (bM [] Q2)<|cX [22,23,24] Q2 (bM [] Q2)<|bM [] Q2) λx1=>cB Q2
theorem aNS{l:List Span}{s1:AC}(h1:aR U s1 l):V0 prog U 18 (D1 l) [.h s1 l.length] .b:=
 cC call18 func18 Q Q2<|GX 3 [0] [] Out.brk [] [] Q Q (λhF1 x2 hr1=>bE [8] Q2 (dF 0 0 (BW l x2) [0,3] 24 [] Q (oK a0G Q h1 Q λx9 _ _=>cX [16,17] Q2 (bM [] Q2)<|oK a0G Q h1 Q λx10 _ _=>bM [] Q2) λx3=>bE [24] Q2 (zC hr1 hF1<|cB Q2)<|GX 4 [0,3] [] Out.brk [0,3] [] Q Q (λhF3 x5 hr3=>bE [27] Q2 (iL aG [] Q<|oK a0G Q h1 Q λx6 _ _=>oK a0G Q h1 Q λx7 _ _=>c0 Q (λ_=>aXX) λx8=>bE [39] Q2 (zC hr3 hF3<|zC hr1 hF1<|cB Q2)<|xO [] Q)<|sO [] Q)<|xO [] Q)<|sO [] Q)<|cB Q2
theorem aXY{b:aA}{slot:Int}{s1 s2 s3 s4 s5 s6 s7:AC}(h1:aR U s1 b.Mem.Heap.Bytes)(h2:aR U s2 b.Mem.Heap.Class)(h3:aR U s3 b.Mem.aC.Global)(h4:aR U s4 b.Mem.aC.Own)(h5:aR U s5 b.aD.cG)(h6:aR U s6 b.aM)(h7:aR U s7 b.lX):V0 prog U 60 (X4 b slot) [.g (gB b s1 s2 s3 s4 s5 s6 s7),I slot] I:=
 cC call60 func60 Q Q2<|c0 Q (λh=>U4 (h.a h1) (h.a h2) (h.a h3) (h.a h4) (h.a h5) (h.a h6) (h.a h7)) λx1=>bE [7] Q2 (cB Q2)<|c0 Q (λh=>aIL (h.a h1) (h.a h2) (h.a h3) (h.a h4) (h.a h5) (h.a h6) (h.a h7)) λx2=>cB Q2
theorem aRJ{slot c:Int}:V0 prog U 61 (P4 slot c) [I slot,I c] (λr=>.g [I r.V2,I r.To]):=
 cC call61 func61 Q Q2<|c0 Q (λ_=>aB6) λx1=>bE [10] Q2 (cB Q2)<|c0 Q (λ_=>ME) λx2=>cB Q2
theorem aUL{b:aA}{s1 s2 s3 s4 s5 s6 s7:AC}(h1:aR U s1 b.Mem.Heap.Bytes)(h2:aR U s2 b.Mem.Heap.Class)(h3:aR U s3 b.Mem.aC.Global)(h4:aR U s4 b.Mem.aC.Own)(h5:aR U s5 b.aD.cG)(h6:aR U s6 b.aM)(h7:aR U s7 b.lX):VS prog U 19 (T1 b) [.g (gB b s1 s2 s3 s4 s5 s6 s7)] [] [] (λr (y:AC)=>.h y r.length) (λr y=>[ow y r]):=
 cC call19 func19 Q Q2<|λhF=>lt0 (O:=Span) aBU Q4 λs8=>wi hF<|G0 s8 [1] (λ(p:(List Span)×Int) (s10:AC)=>[(3,.h s10 p.1.length),(6,I p.2)]) [1,0] [0] (λp s10=>[ow s10 (p.1:List Span)]) id [] (λ(x5:(List Span)) (s11:AC)=>[(3,.h s11 x5.length)]) [] (λx5 s11=>[ow s11 (x5:List Span)]) Q Q (λhF1 ⟨x3,x4⟩ s10 hr1=>bE [7] Q2 (eJ 2 1 (I8 x4) [1,6] (λ(x6:(List Span)) (s12:AC)=>[(3,.h s12 x6.length)]) [1] (λx6 s12=>[ow s12 (x6:List Span)]) Q (c0 Q (λh=>aXY (h.a h1) (h.a h2) (h.a h3) (h.a h4) (h.a h5) (h.a h6) (h.a h7)) λx7=>bE [12] Q2 (c0 Q (λh=>mL (h.a h1) (h.a h2)) λx8=>c0 Q (λ_=>aRJ) λx9=>λhG1=>ltN bOR [] (x9) () aBU Q13 λs13=>ap 0 aBU Q Q Q Q Q Q Q (λh=>(h.o 2 Q)) Q Q hG1 λhG1 s14=>wi hG1<|pC s14 [0,1] Q2)<|pC s10 [0,1] Q2) λx6 s12=>nxW s12 [0,1] Q)<|bkW s10 [0] Q) λx5 s11=>iY s11 [0] Q2
theorem aGL{code:List UInt8}{s1:AC}(h1:aR U s1 code):V0 prog U 3 (K5 code) [.h s1 code.length] .b:=
 cC call3 func3 Q Q2<|c0 Q (λh=>a3K (h.a h1)) λx1=>bE [7] Q2 (cB Q2)<|c1 Q (λh=>aBX (h.a h1)) λx2 s2=>c0 Q (λh=>aT5 (h.o 0 Q) (h.o 1 Q)) λx3=>bE [12] Q2 (c1 Q (λh=>WR (h.o 0 Q) (h.o 1 Q)) λx4 s3=>bLQ underlying47 Q Q Q Q Q Q Q<|cB Q2)<|eJ 0 2 C1 [] (λ(x5:Table) (u:a8Q)=>[(4,.p 1 0)]) [] (λx5 u=>(zTb x5 u [.box 1 (yTb x5 u)])) Q (iL aG [2] Q<|λhF=>bd hF λx17 hA1 hF=>nd hF λhA2 hF=>bd hF λx18 hA3 hF=>(by repeat' first|refine fC Q2 ?_ ?_|refine KF hA1 Q (λh=>aXN (h.a h1))<|?_|refine have hq2:=rn hA2;wi hq2<|paW Q (λh=>aXM (x:=x2) (n:=x17) (h.o 0 Q) (h.o 1 Q)) λh3=>λhq2=>?_|refine QI hA3 Q (λh=>WR (x:=(⟨x2.dQ,(x2.eT.take ((if x17<(x2.eT.length:Int) then x17 else(x2.eT.length:Int)).toNat)).drop 0⟩:mR)) (h.o 0 Q) ((h.o 1 Q).sub (OL (bLR h3).1 (bLR h3).2) (bLR h3))) λs19=>?_|exact wi hF<|pC (p:=(x18)) s19 [3,4,5,6,7,8,9,10,11,12,13,14] Q2|exact wi hF<|pC (p:=(x18)) s19 [4,5,6,7,8,9,10,11,12,13,14,3] Q2)) λx5 ⟨s4,s5,s6,s7,s8,s9,s10,s11,s12,s13,s14⟩=>c1 Q (λh=>aGG (h.o 0 Q) (h.o 1 Q) (h.o 2 Q) (h.o 3 Q) (h.o 4 Q) (h.o 5 Q) (h.o 6 Q) (h.o 7 Q) (h.o 8 Q) (h.o 9 Q) (h.o 10 Q)) λx6 s15=>dF 0 3 gP [] 2 [] Q (c0 Q (λh=>uG (h.o 0 Q) (h.o 1 Q) (h.o 2 Q) (h.o 3 Q) (h.o 4 Q) (h.o 5 Q) (h.o 6 Q) (h.o 7 Q) (h.o 8 Q) (h.o 9 Q) (h.o 10 Q)) λx8=>cX [29,30] Q2 (c0 Q (λh=>aKH (h.o 0 Q) (h.o 1 Q) (h.o 2 Q) (h.o 3 Q) (h.o 4 Q) (h.o 5 Q) (h.o 6 Q) (h.o 7 Q) (h.o 8 Q) (h.o 9 Q) (h.o 10 Q)) λx9=>cX [32,33,34] Q2 (c0 Q (λh=>KL (h.o 0 Q) (h.o 1 Q) (h.o 2 Q) (h.o 3 Q) (h.o 4 Q) (h.o 5 Q) (h.o 6 Q) (h.o 7 Q) (h.o 8 Q) (h.o 9 Q) (h.o 10 Q)) λx10=>cX [36,37,38] Q2 (c0 Q (λh=>aKI (h.o 0 Q) (h.o 1 Q) (h.o 2 Q) (h.o 3 Q) (h.o 4 Q) (h.o 5 Q) (h.o 6 Q) (h.o 7 Q) (h.o 8 Q) (h.o 9 Q) (h.o 10 Q)) λx11=>cX [40,41,42] Q2 (c0 Q (λh=>aAN (h.o 0 Q) (h.o 1 Q) (h.o 2 Q) (h.o 3 Q) (h.o 4 Q) (h.o 5 Q) (h.o 6 Q) (h.o 7 Q) (h.o 8 Q) (h.o 9 Q) (h.o 10 Q)) λx12=>cX [44,45,46] Q2 (c0 Q (λh=>KL (h.o 12 Q) (h.o 13 Q) (h.o 14 Q) (h.o 15 Q) (h.o 16 Q) (h.o 17 Q) (h.o 18 Q) (h.o 19 Q) (h.o 20 Q) (h.o 21 Q) (h.o 22 Q)) λx13=>cX [48,49,50] Q2 (c1 Q (λh=>aCE (h.o 12 Q) (h.o 13 Q) (h.o 14 Q) (h.o 15 Q) (h.o 16 Q) (h.o 17 Q) (h.o 18 Q) (h.o 19 Q) (h.o 20 Q) (h.o 21 Q) (h.o 22 Q)) λx14 s16=>cX [54,55,56] Q2 (c1 Q (λh=>aUL (h.o 0 Q) (h.o 1 Q) (h.o 2 Q) (h.o 3 Q) (h.o 4 Q) (h.o 5 Q) (h.o 6 Q)) λx15 s17=>c0 Q (λh=>aNS (h.o 25 Q)) λx16=>bM [] Q2)<|bM [] Q2)<|bM [] Q2)<|bM [] Q2)<|bM [] Q2)<|bM [] Q2)<|bM [] Q2)<|bM [] Q2) λx7=>cB Q2
end
end Go.Proofs.YtonmnllkifmclaaGreat
end
noncomputable section
namespace Go.Gv
theorem dW{σ ρ:Type}{f:σ->Option (Step σ ρ)}(n:Nat)(S:Nat->σ)(r:ρ)(hs:∀k,k<n->f (S k)=some (.next (S (k+1))))(he:f (S n)=some (.stop r)):loop f (S 0)=some r:=by
  have key:∀d k,k+d=n->loop f (S k)=some r:=by
    intro d;induction d with
    | zero => intro k hk; obtain rfl : k = n := by omega
              exact bB he
    |succ d ih=>intro k hk;rw[bP (hs k (by omega))];exact ih (k+1) (by omega)
  exact key n 0 (by omega)
theorem a8S{σ ρ:Type}{f:σ->Option (Step σ ρ)}(n:Nat)(S:Nat->σ)(g:Nat->ρ)
  (h:∀k,k<=n->f (S k)=some (.stop (g k))\/(k<n/\f (S k)=some (.next (S (k+1)))/\g k=g (k+1))):∀k,k<=n->loop f (S k)=some (g k):=by
 have key:∀d k,k+d=n->loop f (S k)=some (g k):=by
  intro d;induction d with
  |zero=>
   intro k hk;rcases h k (by omega) with h1|⟨h1,_⟩
   ·exact bB h1
   ·omega
  |succ d ih=>
   intro k hk;rcases h k (by omega) with h1|⟨_,h2,h3⟩
   ·exact bB h1
   ·rw[bP h2,h3];exact ih (k+1) (by omega)
 intro k hk;exact key (n-k) k (by omega)
theorem AZ{σ ρ:Type}{f:σ->Option (Step σ ρ)}(n:Nat)(S:Nat->σ)(p:Nat->Prop)[DecidablePred p](yes no:ρ)
  (h1:∀k,k<n->p k->f (S k)=some (.next (S (k+1)))) (h2:∀k,k<n->¬p k->f (S k)=some (.stop no)) (h3:f (S n)=some (.stop yes)) :
  loop f (S 0)=some (if ∀k,k<n->p k then yes else no):=by
 classical
 have key:∀d k,k+d=n->loop f (S k)=some (if ∀j,k<=j->j<n->p j then yes else no):=by
  intro d;induction d with
  |zero=>
   intro k hk;obtain rfl:k=n:=by omega
   rw[bB h3,aL (λj a b=>by omega)]
  |succ d ih=>
   intro k hk;by_cases hp:p k
   ·rw[bP (h1 k (by omega) hp),ih (k+1) (by omega)];by_cases h:∀j,k+1<=j->j<n->p j
    ·rw[aL h,aL];intro j a b;by_cases e:j=k
     ·subst e;exact hp
     ·exact h j (by omega) b
    ·rw[aP h,aP];exact λq=>h λj a b=>q j (by omega) b
   ·rw[bB (h2 k (by omega) hp),aP];exact λq=>hp (q k (lR _) (by omega))
 have:=key n 0 (by omega);rw[this];by_cases h:∀k,k<n->p k
 ·rw[aL h,aL (λj _ b=>h j b)]
 ·rw[aP h,aP (λq=>h λk a=>q k (j9 _) a)]
theorem mZ{O σ ρ:Type}{f:σ->Option (Step σ ρ)}(l:List O)(S:Nat->σ)(p:O->Prop)[DecidablePred p](yes no:ρ)
  (h1:∀k (h:k<l.length),p l[k]->f (S k)=some (.next (S (k+1)))) (h2:∀k (h:k<l.length),¬p l[k]->f (S k)=some (.stop no)) (h3:f (S l.length)=some (.stop yes)) :
  loop f (S 0)=some (if ∀x∈l,p x then yes else no):=by
 classical
 have:=AZ (f:=f) l.length S (λk=>∀h:k<l.length,p l[k]) yes no (λk h hp=>h1 k h (hp h)) (λk h hp=>h2 k h (λq=>hp λ_=>q)) h3;rw[this];by_cases h:∀x∈l,p x
 ·rw[aL h,aL (λk hk _=>h _ (cZ hk))]
 ·rw[aP h,aP];intro q;refine h λx hx=>?_;obtain⟨k,hk,rfl⟩:=aER.1 hx;exact q k hk hk
theorem cA{x:Int}(h1:-9223372036854775808<=x)(h2:x<=9223372036854775807):aY x=x:=UE ⟨h1,h2⟩
theorem iC{O:Type}{l:List O}{i:Int}(h0:0<=i)(h1:i<l.length):idx l i=some (l[i.toNat]'(by omega)):=idx_eq h0 h1
theorem wrap_i64{x:Int}(h1:-9223372036854775808<=x)(h2:x<=9223372036854775807):IntKind.i64.wrap x=x:=UE ⟨h1,h2⟩
theorem a0K{x y:Int}(h1:0<=x):x.tdiv y=x/y:=Int.tdiv_eq_ediv_of_nonneg h1
theorem NB{x y:Int}(h1:0<=x):x.tmod y=x % y:=Int.tmod_eq_emod_of_nonneg h1
theorem a6O{x:Int}{k:Nat}(h1:0<=x)(hk:k<=63):qL .i64 x k=x/2 ^ k:=by
 unfold qL;have:min ((k:Int).toNat) IntKind.i64.bits=k:=by simp[IntKind.bits];omega
 rw[this,Int.fdiv_eq_ediv_of_nonneg _ (by exact Int.le_of_lt (Int.pow_pos (by omega)))]
theorem cY{c:Prop}[Decidable c]{O:Type}{a b:O}(h:c:=by simp;omega):ite c a b=a:=aL h
theorem eD{c:Prop}[Decidable c]{O:Type}{a b:O}(h:¬c:=by simp):ite c a b=b:=aP h
theorem nC{c:Prop}[Decidable c]{O:Type}{a b:O}(h:¬c:=by omega):ite c a b=b:=aP h
theorem SU{c:Prop}[Decidable c]{O:Type}{a b:O}(h:¬c:=by simp;omega):ite c a b=b:=aP h
theorem SW{p:Prop}[Decidable p]{O:Type}{k:Option O}(h:p:=by simp;omega):need p k=k:=b9 h k
theorem J5{p:Prop}[Decidable p]{O:Type}{k:Option O}(h:p:=by omega):need p k=k:=b9 h k
theorem RY{O:Type}{l:List O}{k:Nat}(h:k<l.length:=by omega):idx l (k:Int)=some l[k]:=aT h
theorem dM{x:Int}(h1:-9223372036854775808<=x:=by omega)(h2:x<=9223372036854775807:=by omega):aY x=x:=cA h1 h2
structure GOp where
 Kind:Int
 Cell:Int
 bS6:Int
 fT:Int
 deriving DecidableEq,Inhabited
structure Job where
 cR:Bool
 Op:GOp
 aO:Int
 Pc:Int
 Sub:Sub
 H:Int
 Old:Int
 fT:Int
 Code:Int
 deriving DecidableEq,Inhabited
section
variable {O:Type} {p:O->Bool}
theorem aCF{f:Int->Option (Step Int (Out Unit Int))}{s:List O}(hl:s.length<=4611686018427387904)
  (hf:∀k:Nat,f (k:Int)=if h:k<s.length then(if p s[k] then some (.stop (Out.ret (k:Int))) else some (.next ((k+1:Nat):Int))) else some (.stop (Out.brk ()))) :
  ∀d k,k+d=s.length->(∃j,∃h:j<s.length,k<=j/\(∀i (h:i<s.length),k<=i->i<j->p s[i]=false)/\p s[j]=true/\loop f (k:Int)=some (Out.ret (j:Int)))\/((∀i (h:i<s.length),k<=i->p s[i]=false)/\loop f (k:Int)=some (Out.brk ()))
 |0,k,hk=>.inr ⟨λi h h2=>by omega,bB (by grind)⟩
 |d + 1,k,hk=>by
  have hks:k<s.length:=by omega
  by_cases hp:p s[k]=true
  ·exact .inl ⟨k,hks,lR _,λi h h1 h2=>by omega,hp,bB (by rw[hf k,dif_pos hks,aL hp])⟩
  ·have hp:p s[k]=false:=by simpa using hp
   have hn:f (k:Int)=some (.next ((k+1:Nat):Int)):=by rw[hf k,dif_pos hks,aP (by simp[hp])]
   rcases aCF hl hf d (k+1) (by omega) with ⟨j,h,h1,h2,h3,h4⟩|⟨h1,h2⟩
   ·refine .inl ⟨j,h,by omega,λi hi a b=>?_,h3,by rw[bP hn];exact h4⟩;by_cases e:i=k
    ·subst e;exact hp
    ·exact h2 i hi (by omega) b
   ·refine .inr ⟨λi hi a=>?_,by rw[bP hn];exact h2⟩;by_cases e:i=k
    ·subst e;exact hp
    ·exact h1 i hi (by omega)
theorem aOT{f:List O×Int×Int->Option (Step (List O×Int×Int) (List O×Int))}{n:Nat}(hl:n<=4611686018427387904)
  (hf:∀(L:List O) (i j:Nat) (h:j<L.length),L.length=n->i<=j->f (L,(i:Int),(j:Int))=if p L[j] then some (.next (L,(i:Int),((j+1:Nat):Int))) else some (.next (L.set i L[j],((i+1:Nat):Int),((j+1:Nat):Int))))
  (he:∀(L:List O) (i j:Nat),j=L.length->f (L,(i:Int),(j:Int))=some (.stop (L,(i:Int)))) :
  ∀d (L:List O) (i j:Nat),j+d=L.length->L.length=n->i<=j->∃(M:List O) (k:Nat),loop f (L,(i:Int),(j:Int))=some (M,(k:Int))/\M.length=n/\k<=n/\M.take k=L.take i++(L.drop j).filter (λx=>!p x)
 |0,L,i,j,hj,hn,hi=>⟨L,i,bB (he L i j (by omega)),hn,by omega,by grind⟩
 |d + 1,L,i,j,hj,hn,hi=>by
  have hjl:j<L.length:=by omega
  have hd:L.drop j=L[j]::L.drop (j+1):=zF hjl;by_cases hp:p L[j]=true
  ·obtain⟨M,k,h1,h2,h3,h4⟩:=aOT hl hf he d L i (j+1) (by omega) hn (by omega);refine⟨M,k,by rw[bP (by rw[hf L i j hjl hn hi,aL hp])];exact h1,h2,h3,by grind⟩
  ·have hp:p L[j]=false:=by grind
   obtain⟨M,k,h1,h2,h3,h4⟩:=aOT hl hf he d (L.set i L[j]) (i+1) (j+1) (by simp;omega) (by grind) (by omega);refine⟨M,k,by rw[bP (by rw[hf L i j hjl hn hi,aP (by simp[hp])])];exact h1,h2,h3,?_⟩;rw[h4,hd,List.filter_cons_of_pos (by simp[hp])];have e1:(L.set i L[j]).take (i+1)=L.take i++[L[j]]:=by rw[QN (by simp;omega),List.take_set_of_le (lR _)];simp
   grind[List.drop_set_of_lt]
end
theorem aVF{O:Type}{l xs:List O}{a:Nat}(h:a<=l.length):((dA l a xs).take a).drop 0=l.take a:=by grind[dA]
theorem a0L{O:Type}{q:O->Bool}{s:List O}{j:Nat}(h:j<s.length)(h1:∀i (h:i<s.length),i<j->q s[i]=true)(h2:q s[j]=false):s.take j++(s.drop (j+1)).filter q=s.filter q:=by
 have e:s=s.take j++s[j]::s.drop (j+1):=by simp
 have e3:(s.take j).filter q=s.take j:=by grind[List.filter_eq_self,aAS]
 grind
theorem a3N{s:List Int}{p:Int->Bool}(hl:s.length<=4611686018427387904) :
  (∃j,∃h:j<s.length,(∀i (h:i<s.length),i<j->p s[i]=false)/\p s[j]=true/\fY s (λy=>some (p y))=some (j:Int))\/((∀i (h:i<s.length),p s[i]=false)/\fY s (λy=>some (p y))=some (-1)):=by
 rcases aCF (f:=dL s (λy=>some (p y))) (p:=p) hl (λk=>by
  simp only[dL];by_cases h:k<s.length
  ·rw[dif_pos h,cY,aT h,aE,aE,dM];rfl
  grind) s.length 0 (by omega) with ⟨j,h,_,h2,h3,h4⟩|⟨h1,h2⟩
 ·refine .inl ⟨j,h,λi hi a=>h2 i hi (j9 _) a,h3,?_⟩;unfold fY;rw[show(0:Int)=((0:Nat):Int) from rfl,h4];rfl
 ·refine .inr ⟨λi hi=>h1 i hi (j9 _),?_⟩;unfold fY;rw[show(0:Int)=((0:Nat):Int) from rfl,h2];rfl
theorem a0M{s:List Int}{p:Int->Bool}(hl:s.length<=4611686018427387904):pE s (λy=>some (p y))=some (s.filter λx=>!p x):=by
 unfold pE;rcases a3N (p:=p) hl with ⟨j,h,h1,h2,h3⟩|⟨h1,h3⟩
 ·have ne:¬(((j:Int) == -1)=true):=by simp
  rw[h3,aE,aP ne,dM];obtain⟨M,k,g1,g2,g3,g4⟩:=aOT (p:=p) (n:=s.length) (f:=lV (λy=>some (p y))) hl (λL i j h hn hi=>by
   simp only[lV];rw[cY,aT h,aE,aE];by_cases hp:p L[j]=true
   ·rw[aL hp,aP (by simp[hp])];grind[jL,cA]
   ·rw[aP hp,aL (by grind),RY,aE];grind[jL,cA]) (λL i j h=>by
   simp_all[lV]) (s.length-(j+1)) s j (j+1) (by omega) rfl (by omega)
  grind[DZ,DY,b9,fI,aVF,a0L]
 ·rw[h3,aE,aL (by rfl),List.filter_eq_self.2];grind[aAS]
theorem a0N(x y:Int):cmp_Less_int x y=some (decide (x<y)):=by simp[cmp_Less_int,cmp_isNaN_int,wP]
theorem aX0{A B:List Int}{x:Int}{k:Int}(h:k=(A.length:Int)):idx (A++x::B) k=some x:=by grind[aT]
theorem a0O{data:List Int}(hd:data.length<=4611686018427387904):∀(j:Nat) (A B C:List Int) (x:Int),A.length=j->(A++x::(B++C)).length=data.length->(A++B).Pairwise (·<=·)->(∀b∈B,x<=b) ->
  ∃M:List Int,loop (dY data 0) (A++x::(B++C),(j:Int))=some (M++C)/\M.Perm (A++x::B)/\M.Pairwise (·<=·)
 |0,A,B,C,x,hj,hn,hs,hx=>by obtain rfl:A=[]:=wE hj;refine⟨x::B,bB ?_,.refl _,aG0.2 ⟨hx,hs⟩⟩;simp only[dY,dX];rw[b9 hn,eD,b9 hn,eD];rfl
 |j + 1,A,B,C,x,hj,hn,hs,hx=>by
  obtain⟨A,y,rfl⟩:∃A' y,A=A'++[y]:=by
   rcases aGX A with h|⟨A',y,h⟩
   ·rw[h] at hj;cases hj
   ·exact⟨A',y,by rw[h,aUV]⟩
  have hjA:A.length=j:=by grind
  have e0:A++[y]++x::(B++C)=A++y::(x::(B++C)):=by simp
  have ew:aY (((j+1:Nat):Int)-1)=(j:Int):=by grind[cA]
  have i1:idx (A++y::(x::(B++C))) ((j+1:Nat):Int)=some x:=by grind[aX0]
  have i2:idx (A++y::(x::(B++C))) (j:Int)=some y:=aX0 (by omega);rw[e0] at hn ⊢;have hyB:∀b∈B,y<=b:=λb hb=>(List.pairwise_append.1 hs).2.2 y (by simp) b hb;by_cases hlt:x<y
  ·have st:dY data 0 (A++y::(x::(B++C)),((j+1:Nat):Int))=some (.next (A++x::((y::B)++C),(j:Int))):=by simp_all[dY,b9,a0N,dX,jV,aX0]
   obtain⟨M,h1,h2,h3⟩:=a0O hd j A (y::B) C x hjA (by grind) (by grind) (λb hb=>by
    grind)
   refine⟨M,by grind[bP],h2.trans ?_,h3⟩;grind
  ·refine⟨A++[y]++x::B,bB ?_,.refl _,?_⟩
   ·simp_all[dY,b9,a0N,dX,aP]
   grind
theorem aVG{data:List Int}(hd:data.length<=4611686018427387904):∀d (S R:List Int),R.length=d->S≠[]->(S++R).length=data.length->S.Pairwise (·<=·) ->
  ∃M:List Int,loop (dI data 0 (data.length:Int)) (S++R,(S.length:Int))=some M/\M.Perm (S++R)/\M.Pairwise (·<=·)
 |0,S,R,hR,h0,hn,hs=>by simp_all[bB,dI,b9]
 |d+1,S,[],hR,h0,hn,hs=>by cases hR
 |d + 1,S,x::R,hR,h0,hn,hs=>by
  obtain⟨M,h1,h2,h3⟩:=a0O hd S.length S [] R x rfl (by grind) (by grind) (λb hb=>by cases hb);have hl:=h2.length_eq;simp at hl;have hn':=hn;simp at hn';have st:dI data 0 (data.length:Int) (S++x::R,(S.length:Int))=some (.next (M++R,((S.length+1:Nat):Int))):=by simp only[dI];rw[b9 hn,cY];grind[o5,o4,b9,cA]
  obtain⟨N,g1,g2,g3⟩:=aVG hd d M R (by grind) (by grind) (by simp;omega) h3;refine⟨N,by grind[bP],g2.trans ?_,g3⟩;grind
theorem a0P{x:List Int}(h:x.length<=12)(hb:∃n,DJ (IntKind.u64.wrap (x.length:Int))=some n):∃y:List Int,wR x=some y/\y.Perm x/\y.Pairwise (·<=·):=by
 have key:∃y:List Int,iM x 0 (x.length:Int)=some y/\y.Perm x/\y.Pairwise (·<=·):=by
  unfold iM;rw[dM];cases x with
  |nil=>
   simp[bB,dI,b9,jW,jU]
  |cons a r=>
   obtain⟨M,h1,h2,h3⟩:=aVG (data:=a::r) (by omega) r.length [a] r rfl (by simp) (by simp) (List.pairwise_singleton _ _);refine⟨M,?_,by grind,h3⟩;have h1':loop (dI (a::r) 0 ((a::r).length:Int)) (a::r,(0:Int)+1)=some M:=h1;rw[h1',aE];simp only[jW,jU];have h4:=h2.length_eq;grind[b9]
 obtain⟨y,h1,h2,h3⟩:=key;obtain⟨n,hn⟩:=hb;refine⟨y,?_,h2,h3⟩;unfold wR pR;rw[hn,aE,bB (r:=y) (by
  simp only[wQ];rw[dM,cY,h1];rfl),aE]
 rfl
def bMA(n:Nat):Bool:=(DJ (IntKind.u64.wrap (n:Int))).isSome
theorem bDC:(List.range 13).all bMA=true:=by kernel_rfl
theorem aRK(n:Nat)(h:n<=12):∃m,DJ (IntKind.u64.wrap (n:Int))=some m:=
 aK5.1 (aAR.1 bDC n (List.mem_range.2 (by omega)))
theorem aLH{l:List Int}(h:l.Pairwise (·<=·)):(FQ l).Pairwise (· < ·)/\∀a,a∈FQ l↔a∈l:=by
 obtain⟨n,hn⟩:∃n,l.length=n:=⟨_,rfl⟩
 revert l
 induction n with
 |zero=>intro l h hn;obtain rfl:l=[]:=wE hn;exact⟨.nil,λa=>Iff.rfl⟩
 |succ n ih=>
 intro l h hn;obtain⟨l,x,rfl⟩:∃L z,l=L++[z]:=by
  rcases aGX l with h0|⟨L,z,h0⟩
  ·rw[h0] at hn;cases hn
  ·exact⟨L,z,by rw[h0,aUV]⟩
 rw[List.pairwise_append] at h;obtain⟨i1,i2⟩:=ih h.1 (by grind);rw[aJI];split
 ·grind
 ·rename_i hx;refine⟨List.pairwise_append.2 ⟨i1,List.pairwise_singleton _ _,λa ha b hb=>?_⟩,λa=>by grind⟩;simp at hb;subst hb;have hle:a<=b:=h.2.2 a ((i2 a).1 ha) b (by simp);by_cases e:a=b
  ·subst e;exfalso;obtain⟨L,z,hz⟩:∃L z,FQ l=L++[z]:=by
    rcases aGX (FQ l) with h0|⟨L,z,h0⟩
    ·rw[h0] at ha;cases ha
    ·exact⟨L,z,by rw[h0,aUV]⟩
   rw[hz] at ha hx i1;have hz':z<=a:=h.2.2 z ((i2 z).1 (by grind)) a (by simp);rcases eS.1 ha with ha'|ha'
   ·have:=(List.pairwise_append.1 i1).2.2 a ha' z (by simp);omega
   grind
  ·omega
theorem aX1{l:List Int}(h:l.length<=12):∃y:List Int,mF l=some y/\y.Pairwise (· < ·)/\∀a,a∈y↔a∈l/\a≠0:=by unfold mF eW;rw[SW,aE,aK0];have hd:=a0M (s:=l) (p:=λx=>x == 0) (by omega);rw[show(λy0=>K4 y0)=(λy=>some (y == 0)) from rfl,hd,aE];have hfl:(l.filter λx=>!(x == 0)).length<=12:=qK (List.length_filter_le _ _) h;obtain⟨y,h1,h2,h3⟩:=a0P hfl (aRK _ hfl);obtain⟨c1,c2⟩:=aLH h3;refine⟨FQ y,by rw[h1,aE];rfl,c1,λa=>?_⟩;grind
theorem aRL:∀{a b:List Int},a.Pairwise (· < ·)->b.Pairwise (· < ·)->(∀x,x∈a↔x∈b)->a=b
 |[],[],_,_,_=>rfl
 |[],y::b,_,_,h=>by have:=(h y).2 (by simp);cases this
 |x::a,[],_,_,h=>by have:=(h x).1 (by simp);cases this
 |x::a,y::b,ha,hb,h=>by
  have ha':=aG0.1 ha;have hb':=aG0.1 hb;have e:x=y:=by have h1:=(h x).1 (by simp);have h2:=(h y).2 (by simp);grind
  subst e;congr 1;refine aRL ha'.2 hb'.2 λz=>?_;grind
theorem dD(n a b:Int):bS n a b=some (decide (a<=n/\n<=b)):=by grind[bS,HJ]
theorem cN(n a b:Int):bX n a b=some (decide (a<=n/\n<=b)):=by grind[bX,PA]
theorem map_take{O β:Type}(f:O->β){l:List O}{k:Nat}(h:k<l.length):(l.take (k+1)).map f=(l.take k).map f++[f l[k]]:=by grind[QN]
def iA(c:Int):Int:=if c=0 then 8 else if c=1 then 16 else if c=2 then 40 else 0
def aW(c:Int):Int:=if c=0 then 12 else if c=1 then 20 else if c=2 then 44 else 0
def cK(c:Int):Int:=if c=0 then 4 else if c=1 then 2 else if c=2 then 1 else 0
theorem lQ{c:Int}(h:0<=c/\c<=2):c=0\/c=1\/c=2:=by omega
theorem bDD{c:Int}(h:¬(0<=c/\c<=2)):iA c=0:=by unfold iA;omega
theorem aRM{c:Int}(h:¬(0<=c/\c<=2)):aW c=0:=by unfold aW;omega
theorem aX2{c:Int}(h:¬(0<=c/\c<=2)):cK c=0:=by unfold cK;omega
theorem oA(c:Int):0<=cK c/\cK c<=4:=by grind[cK]
theorem a3O(c:Int):0<=aW c/\aW c<=44:=by grind[aW]
theorem i7{c:Int}:0<cK c↔0<=c/\c<=2:=by grind[cK]
theorem RZ(c:Int):GQ c=some (iA c):=by grind[GQ,iA]
theorem lA(c:Int):lT c=some (decide (0<=c/\c<=2)):=by simp[lT,dD]
theorem R0(c:Int):zL c=some (iA c):=by
 unfold zL;rw[lA];by_cases h:0<=c/\c<=2
 ·rcases lQ h with rfl|rfl|rfl<;>rfl
 grind[bDD]
theorem aKJ(c:Int):DN c=some (aW c):=by
 unfold DN;rw[cN];by_cases h:0<=c/\c<=2
 ·rcases lQ h with rfl|rfl|rfl<;>rfl
 grind[aRM]
theorem WU(c:Int):xR c=some (aW c):=by
 unfold xR;rw[lA];by_cases h:0<=c/\c<=2
 ·rcases lQ h with rfl|rfl|rfl<;>rfl
 grind[aRM]
theorem jN(c:Int):nV c=some (cK c):=by
 unfold nV;rw[cN];by_cases h:0<=c/\c<=2
 ·rcases lQ h with rfl|rfl|rfl<;>rfl
 grind[aX2]
theorem FH(c:Int):qP c=some (cK c):=by
 unfold qP;rw[lA];by_cases h:0<=c/\c<=2
 ·rcases lQ h with rfl|rfl|rfl<;>rfl
 grind[aX2]
theorem aCG(s:Int):GP s=some (if 0<=s/\s<=23 then s/4 else -1):=by grind[GP,cN,cA]
theorem Z6(s:Int):BM s=some (if 0<=s/\s<=23 then s % 4 else -1):=by grind[BM,cN]
def iU(s c:Int):Int:=if(0<=s/\s<=23)/\s % 4<cK c then s/4*64+8+s % 4*aW c else -1
theorem YL{i c:Int}(h0:0<=i)(h1:i<cK c):0<=i*aW c/\i*aW c+aW c<=56:=by unfold cK at h1;unfold aW;grind
theorem yC(s c:Int):z7 s c=some (iU s c):=by
 unfold z7 L7 iU;rw[aCG,Z6,jN,aKJ];by_cases h:0<=s/\s<=23
 ·have hp:=oA c;have h1:¬s/4<0:=by omega
  have h2:aY (cK c-1)=cK c-1:=dM;by_cases h3:s % 4<cK c
  ·have hm:=YL (by omega) h3;have hs:=a3O c;have h4:0<=s % 4/\s % 4<=cK c-1:=by omega
   have h5:¬cK c-1<s % 4:=by omega
   have e1:aY (s/4*64)=s/4*64:=dM;have e2:aY (s/4*64+8)=s/4*64+8:=dM;have e3:aY (s % 4*aW c)=s % 4*aW c:=dM;have e4:aY (s/4*64+8+s % 4*aW c)=s/4*64+8+s % 4*aW c:=dM;simp[h,h1,h2,h3,h4,h5,cN,e1,e2,e3,e4]
  grind[cN]
 ·simp[h]
theorem A0(s:Int):uQ s=some (decide (0<=s/\s<=23)):=by simp[uQ,dD]
theorem EA(s c:Int):zO s c=some (iU s c):=by
 unfold zO DD iU;rw[A0,lA,FH,WU];by_cases h:0<=s/\s<=23
 ·have hp:=oA c;rw[NB h.1,a0K h.1];grind[cK,cA,aW]
 ·simp[h]
def ldF(l:List Int):Int:=l.foldl (λn x=>n*256+x) 0
def uH(l:List Int):Prop:=∀x∈l,0<=x/\x<=255
instance (l:List Int):Decidable (uH l):=by unfold uH;infer_instance
theorem aRN{l:List Int}{k:Nat}(h:k<l.length):ldF (l.take (k+1))=ldF (l.take k)*256+l[k]:=by grind[ldF,QN]
theorem aVH{l:List Int}(h:uH l):∀k,k<=l.length->0<=ldF (l.take k)/\ldF (l.take k)<256 ^ k:=by
 intro k;induction k with
 |zero=>grind[ldF]
 |succ k ih=>
  intro hk;have h1:=ih (by omega);have h2:=h _ (cZ (show k<l.length by omega));grind[aRN]
theorem bMB{k:Nat}(h:k<=6):(256:Int) ^ k<=281474976710656:=by have h1:(256:Nat) ^ k<=256 ^ 6:=Nat.pow_le_pow_right (by omega) h;grind
def ld(b:List Int)(at_ w:Nat):Int:=ldF ((b.drop at_).take w)
theorem a6P{n x:Int}{k:Nat}(hk:k<=6)(h:0<=n/\n<256 ^ k)(hx:0<=x/\x<=255):aY (aY (n*256)+x)=n*256+x/\aY (aY (256*n)+x)=n*256+x:=by have:=bMB hk;grind[cA]
theorem a3P{b:List Int}{a w:Nat}(h:a+w<=b.length):((b.drop a).take w).length=w:=by simp;omega
theorem aRO{b:List Int}{a w k:Nat}(h:k<((b.drop a).take w).length)(h':a+k<b.length):((b.drop a).take w)[k]=b[a+k]:=by simp
theorem aX3{b:List Int}(hb:uH b)(a w:Nat):uH ((b.drop a).take w):=λx hx=>hb x (aGZ (a98 hx))
theorem A1{b:List Int}(hb:uH b){a w:Nat}(hw:w<=7)(h:a+w<=b.length)(hl:b.length<=100000):uS b (a:Int) (w:Int)=some (ld b a w):=by
 unfold uS;have hlen:=a3P h;have hbb:=aX3 hb a w;have key:loop (z6 b (a:Int) (w:Int)) (0,0)=some (ld b a w):=by
  refine dW (f:=z6 b (a:Int) (w:Int)) w (λk=>(ldF (((b.drop a).take w).take k),(k:Int))) _ (λk hk=>?_) ?_
  ·have hb1:=aVH hbb k (by omega);have hk':k<((b.drop a).take w).length:=by omega
   have hx:=hbb _ (cZ hk');have hs:=a6P (by omega) hb1 hx;rw[aRO hk' (by omega)] at hs;have e1:aY ((a:Int)+k)=((a+k:Nat):Int):=by grind[cA]
   simp only[z6];rw[cY,e1,RY];simp only[aE,hs.1,aRN hk',aRO hk' (show a+k<b.length by omega)];grind[cA]
  grind[z6,ld]
 rw[key];rfl
theorem xK{b:List Int}(hb:uH b){a w:Nat}(hw:w<=7)(h:a+w<=b.length)(hl:b.length<=100000):qQ b (a:Int) (w:Int)=some (ld b a w):=by
 unfold qQ;have hlen:=a3P h;have hbb:=aX3 hb a w;have e0:aY ((a:Int)+w)=((a+w:Nat):Int):=by grind[cA]
 have e2:(b.take (a+w)).drop a=(b.drop a).take w:=by grind
 rw[J5];have key:loop (wL b (a:Int) (w:Int)) (0,0)=some (ld b a w):=by
  refine dW (f:=wL b (a:Int) (w:Int)) w (λk=>(ldF (((b.drop a).take w).take k),(k:Int))) _ (λk hk=>?_) ?_
  ·have hb1:=aVH hbb k (by omega);have hk':k<((b.drop a).take w).length:=by omega
   have hx:=hbb _ (cZ hk');have hs:=a6P (by omega) hb1 hx;simp only[wL,e0,NM,e2];rw[cY,aT hk'];simp only[aE,hs.2,aRN hk'];rw[dM (x:=(k:Int)+1)];rfl
  ·have:((b.drop a).take w).take w=(b.drop a).take w:=by grind
   simp only[wL,e0,NM,e2,this,ld];grind
 rw[key];rfl
theorem wB{l:List Int}(hl:l.length<=maxLen)(f:Int->Bool):cT l (λx=>some (f x))=some (l.any f):=by
 unfold cT fY;have key:∀k:Nat,k<=l.length->loop (dL l (λx=>some (f x))) (k:Int)=some (if(l.drop k).any f then Out.ret ((k+(l.drop k).findIdx f:Nat):Int) else Out.brk ()):=by
  refine aWI l.length _ λk hk=>?_;by_cases h3:k<l.length
  ·have hd:l.drop k=l[k]::l.drop (k+1):=zF h3;simp only[dL];rw[cY,aT h3,nQ (QT h3 hl),hd];grind
  grind[dL]
 have t0:loop (dL l (λx=>some (f x))) 0=_:=key 0 (by omega);rw[t0];simp only[SZ];by_cases h:l.any f=true
 ·simp[h,sU]
 grind[sU,GL]
def BOk(b:List Int):Prop:=b.length<=1000/\uH b
instance (b:List Int):Decidable (BOk b):=by unfold BOk;infer_instance
theorem aNT{b:List Int}(hl:b.length<=maxLen):PU b=some (decide (BOk b)):=by
 unfold PU;have key:loop (pZ b) 0=some (if ∀x∈b,0<=x/\x<=255 then Out.brk () else Out.ret false):=by
  refine mZ (f:=pZ b) b (λk=>(k:Int)) (λx=>0<=x/\x<=255) _ _ (λk h hp=>?_) (λk h hp=>?_) ?_
  ·simp only[pZ];rw[cY,aT h,nQ (QT h hl)];simp[cN,hp]
  ·simp only[pZ];rw[cY,aT h];simp only[aE,cN,hp,decide_false,KO,bR]
  ·simp[pZ]
 rw[key];by_cases h:∀x∈b,0<=x/\x<=255
 ·rw[aL h];have:BOk b↔b.length<=1000:=⟨λq=>q.1,λq=>⟨q,h⟩⟩;simp only[aE,NY,ZQ,this];grind
 ·rw[aP h];have:¬BOk b:=λq=>h q.2;grind[NY]
theorem aDM{O:Type}{p:O->Prop}[DecidablePred p](l:List O):(l.any λx=>!decide (p x))=!decide (∀x∈l,p x):=by grind
theorem aNU{b:List Int}(hl:b.length<=maxLen):PH b=some (decide (BOk b)):=by
 unfold PH EP;have e:(λy0=>HX y0)=λy:Int=>some (!decide (0<=y/\y<=255)):=by grind[HX,aA8,dD]
 rw[e,wB hl,aDM];by_cases h:b.length<=1000
 ·have:BOk b↔∀x∈b,0<=x/\x<=255:=⟨λq=>q.2,λq=>⟨h,q⟩⟩;grind
 grind[BOk]
def fP(h:Heap):Prop:=h.Bytes.length=384/\h.Class.length=6/\uH h.Bytes/\∀c∈h.Class,-1<=c/\c<=2
instance (h:Heap):Decidable (fP h):=by unfold fP;infer_instance
theorem aNV{h:Heap}(hl:h.Bytes.length<=maxLen):PW h=some (decide (fP h)):=by
 unfold PW wW;by_cases h1:h.Bytes.length=384
 ·by_cases h2:h.Class.length=6
  ·rw[aNT hl];have n1:((h.Bytes.length:Int) != 384)=false:=by simp;omega
   have n2:((h.Class.length:Int) != 6)=false:=by simp;omega
   simp only[n1,n2,bN,bL,aE];by_cases h3:uH h.Bytes
   ·have b1:BOk h.Bytes:=⟨by omega,h3⟩;have key:loop (p5 h) 0=some (if ∀x∈h.Class,-1<=x/\x<=2 then Out.brk () else Out.ret false):=by
     refine mZ (f:=p5 h) h.Class (λk=>(k:Int)) (λx=>-1<=x/\x<=2) _ _ (λk h hp=>?_) (λk h hp=>?_) ?_
     ·simp only[p5];rw[cY,aT h,dM];grind[cN]
     ·simp only[p5];rw[cY,aT h];grind[cN]
     grind[p5]
    rw[key];have:fP h↔∀x∈h.Class,-1<=x/\x<=2:=⟨λq=>q.2.2.2,λq=>⟨h1,h2,h3,q⟩⟩;simp only[b1,decide_true,iN,bN,bL,this];by_cases h4:∀x∈h.Class,-1<=x/\x<=2
    ·rw[aL h4,bY h4];rfl
    ·rw[aP h4,eF h4];rfl
   grind[BOk,fP]
  grind[fP]
 grind[fP]
theorem R1{h:Heap}(hl:h.Bytes.length<=maxLen):MO h=some (decide (fP h)):=by
 unfold MO sV;by_cases h1:h.Bytes.length=384
 ·have n1:((h.Bytes.length:Int) == 384)=true:=by simp;omega
  rw[aNU hl];by_cases h3:uH h.Bytes
  ·have b1:BOk h.Bytes:=⟨by omega,h3⟩;by_cases h2:h.Class.length=6
   ·have n2:((h.Class.length:Int) == 6)=true:=by simp;omega
    have e:(λy0=>LO y0)=λy:Int=>some (!decide (-1<=y/\y<=2)):=by grind[LO,dD]
    rw[e,wB (by omega),aDM];grind[fP]
   grind[fP]
  grind[BOk,fP]
 grind[fP]
def gW(h:Heap)(p:Nat):List Int:=(h.Bytes.drop (p*64)).take 64
def cD(h:Heap)(p:Nat):Int:=h.Class.getD p 0
def pS(h:Heap)(p:Nat):Prop:=
 if cD h p<0 then ∀x∈gW h p,x=0
 else((gW h p).getD 0 0=171/\(gW h p).getD 1 0=cD h p/\(gW h p).getD 2 0=cK (cD h p))/\(∀x∈((gW h p).drop 3).take 5,x=0)/\∀i,i<(cK (cD h p)).toNat->1<=ld h.Bytes (p*64+8+i*(aW (cD h p)).toNat) 4/\ld h.Bytes (p*64+8+i*(aW (cD h p)).toNat) 4<=7
instance (h:Heap) (p:Nat):Decidable (pS h p):=by unfold pS;infer_instance
section
variable {h:Heap} (hs:fP h) {p:Nat} (hp:p<6)
include hs hp
theorem WV:(gW h p).length=64:=a3P (by have:=hs.1;omega)
theorem aCH{k:Nat}(hk:k<64):h.Bytes[p*64+k]'(by have:=hs.1;omega)=(gW h p)[k]'(by grind[WV]):=(aRO (show k<((h.Bytes.drop (p*64)).take 64).length by have:=WV hs hp;grind[gW]) _).symm
theorem aVI{k:Nat}(hk:k<64):h.Bytes[p*64+k]'(by have:=hs.1;omega)=(gW h p).getD k 0:=by grind[aCH]
theorem aDN:h.Class[p]'(by have:=hs.2.1;omega)=cD h p:=by grind[cD]
theorem aOU:idx h.Class (p:Int)=some (cD h p):=by rw[aT (by have:=hs.2.1;omega),aDN hs hp]
theorem aRP{k:Nat}(hk:k<64):idx h.Bytes (((p*64+k:Nat)):Int)=some ((gW h p).getD k 0):=by rw[aT (by have:=hs.1;omega),aVI hs hp hk]
theorem a8T:uH (gW h p):=aX3 hs.2.2.1 _ _
theorem uI{c:Int}(hc:cD h p=c){i:Nat}(hi:i<(cK c).toNat):(8+i*(aW c).toNat)+4<=64/\0<=(i:Int)*aW c/\((8+i*(aW c).toNat:Nat):Int)=8+(i:Int)*aW c:=by grind[cK,aW]
theorem bDF{i:Nat}(hi:i<(cK (cD h p)).toNat):iU ((p:Int)*4+i) (cD h p)=((p*64+(8+i*(aW (cD h p)).toNat):Nat):Int):=by have hz:=uI hs hp rfl hi;have hle:=oA (cD h p);unfold iU;grind
theorem aCI:TO h (p:Int)=some (decide (pS h p)):=by
 have hb:=hs.1;have hl:=WV hs hp;have e0:aY ((p:Int)*64)=((p*64+0:Nat):Int):=by grind[cA]
 have e1:aY (((p*64+0:Nat):Int)+1)=((p*64+1:Nat):Int):=by grind[cA]
 have e2:aY (((p*64+0:Nat):Int)+2)=((p*64+2:Nat):Int):=by grind[cA]
 have e3:aY (((p*64+0:Nat):Int)+3)=((p*64+3:Nat):Int):=by grind[cA]
 have e8:aY (((p*64+0:Nat):Int)+8)=((p*64+8:Nat):Int):=by grind[cA]
 have e64:aY (((p*64+0:Nat):Int)+64)=((p*64+64:Nat):Int):=by grind[cA]
 unfold TO;rw[aOU hs hp];simp only[aE];by_cases hc:cD h p<0
 ·simp only[hc,decide_true,bR,e0];have key:loop (tN h (p:Int)) (((p*64+0:Nat)):Int)=some (if ∀x∈gW h p,x=0 then Out.brk () else Out.ret false):=by
   refine mZ (f:=tN h (p:Int)) (gW h p) (λk=>((p*64+k:Nat):Int)) (λx=>x=0) _ _ (λk hk hx=>?_) (λk hk hx=>?_) ?_
   ·simp only[tN,e0,e64];rw[cY,RY,aCH hs hp (by omega),dM];grind
   ·simp only[tN,e0,e64];rw[cY,RY,aCH hs hp (by omega)];grind
   simp_all[tN]
  rw[key];have hP:pS h p↔∀x∈gW h p,x=0:=by simp_all[pS]
  by_cases h4:∀x∈gW h p,x=0
  ·rw[aL h4,bY (hP.2 h4)];rfl
  ·rw[aP h4,eF (λq=>h4 (hP.1 q))];rfl
 ·have hP:pS h p↔((gW h p).getD 0 0=171/\(gW h p).getD 1 0=cD h p/\(gW h p).getD 2 0=cK (cD h p))/\(∀x∈((gW h p).drop 3).take 5,x=0)/\∀i,i<(cK (cD h p)).toNat->1<=ld h.Bytes (p*64+8+i*(aW (cD h p)).toNat) 4/\ld h.Bytes (p*64+8+i*(aW (cD h p)).toNat) 4<=7:=by simp_all[pS,aP]
  simp only[hc,decide_false,bN,bL,e0,e1,e2,aRP hs hp (show 0<64 by omega),aRP hs hp (show 1<64 by omega),aRP hs hp (show 2<64 by omega),aE,jN];by_cases a0:(gW h p).getD 0 0=171
  ·by_cases a1:(gW h p).getD 1 0=cD h p
   ·by_cases a2:(gW h p).getD 2 0=cK (cD h p)
    ·have n0:((gW h p).getD 0 0 != 171)=false:=by grind
     have n1:((gW h p).getD 1 0 != cD h p)=false:=by grind
     have n2:((gW h p).getD 2 0 != cK (cD h p))=false:=by grind
     simp only[n0,n1,n2,bN,bL,mC,e0,e3];have hl5:(((gW h p).drop 3).take 5).length=5:=by simp[hl]
     have key:loop (tP h (p:Int)) (((p*64+3:Nat)):Int)=some (if ∀x∈((gW h p).drop 3).take 5,x=0 then Out.brk () else Out.ret false):=by
      refine mZ (f:=tP h (p:Int)) (((gW h p).drop 3).take 5) (λk=>((p*64+(3+k):Nat):Int)) (λx=>x=0) _ _ (λk hk hx=>?_) (λk hk hx=>?_) ?_
      ·simp only[tP,e0,e8];rw[cY,RY,aCH hs hp (by omega),dM,<-aRO hk (by omega),hx];simp;omega
      ·simp only[tP,e0,e8];rw[cY,RY,aCH hs hp (by omega),<-aRO hk (by omega)];grind
      simp_all[tP]
     rw[key];by_cases h4:∀x∈((gW h p).drop 3).take 5,x=0
     ·rw[aL h4];simp only[aE,aBH,aBG];have key2:loop (tO h (p:Int) (cD h p)) 0=some (if ∀i,i<(cK (cD h p)).toNat->1<=ld h.Bytes (p*64+8+i*(aW (cD h p)).toNat) 4/\ld h.Bytes (p*64+8+i*(aW (cD h p)).toNat) 4<=7 then Out.brk () else Out.ret false):=by
       have hle:=oA (cD h p);have hst:∀k:Nat,k<(cK (cD h p)).toNat->tO h (p:Int) (cD h p) (k:Int)=if 1<=ld h.Bytes (p*64+8+k*(aW (cD h p)).toNat) 4/\ld h.Bytes (p*64+8+k*(aW (cD h p)).toNat) 4<=7 then some (.next ((k+1:Nat):Int)) else some (.stop (Out.ret false)):=by
        intro k hk;have hz:=uI hs hp rfl hk;have s1:uT (p:Int) (k:Int)=some ((p:Int)*4+k):=by
         unfold uT AB;rw[cN,cN];have g1:(0:Int)<=p/\(p:Int)<=5:=by omega
         have g2:(0:Int)<=k/\(k:Int)<=3:=by omega
         simp only[aE,g1,g2,and_self,decide_true,iN,bN,bL];grind[cA]
        have l1:=A1 hs.2.2.1 (a:=p*64+(8+k*(aW (cD h p)).toNat)) (w:=4) (by omega) (by omega) (by omega);simp only[tO,jN,aE];rw[cY,s1];simp only[aE,yC,bDF hs hp hk];rw[show((4:Nat):Int)=4 from rfl] at l1;rw[l1,aAT,dM (x:=(k:Int)+1)];simp only[aE,cN];grind
       refine AZ (f:=tO h (p:Int) (cD h p)) (cK (cD h p)).toNat (λk=>(k:Int)) (λi=>1<=ld h.Bytes (p*64+8+i*(aW (cD h p)).toNat) 4/\ld h.Bytes (p*64+8+i*(aW (cD h p)).toNat) 4<=7) _ _ (λk hk hx=>?_) (λk hk hx=>?_) ?_
       ·grind
       ·rw[hst k hk,aP hx]
       ·simp only[tO,jN,aE];rw[SU]
      rw[key2];by_cases h5:∀i,i<(cK (cD h p)).toNat->1<=ld h.Bytes (p*64+8+i*(aW (cD h p)).toNat) 4/\ld h.Bytes (p*64+8+i*(aW (cD h p)).toNat) 4<=7
      ·rw[aL h5,bY (hP.2 ⟨⟨a0,a1,a2⟩,h4,h5⟩)];rfl
      ·rw[aP h5,eF (λq=>h5 (hP.1 q).2.2)];rfl
     ·rw[aP h4,eF (λq=>h4 (hP.1 q).2.1)];rfl
    simp_all[mC]
   simp_all[mC]
  simp_all[mC]
end
theorem aCJ{l:List Int}(hl:l.length<=maxLen):MP l=some (decide (∀x∈l,x=0)):=by
 unfold MP;have e:(λy0=>LP y0)=λy:Int=>some (!decide (y=0)):=by grind[LP]
 simp_all[wB,aDM]
section
variable {h:Heap} (hs:fP h) {p:Nat} (hp:p<6)
include hs hp
theorem bJ1:(h.Bytes.take ((p+1)*64)).drop (p*64)=gW h p:=by grind[gW,List.drop_take]
theorem bHS{a:Nat}(ha:a+4<=64):ld (gW h p) a 4=ld h.Bytes (p*64+a) 4:=by grind[ld,gW,List.drop_take,List.drop_drop]
theorem a3Q{k:Nat}(hk:k<64):idx (gW h p) (k:Int)=some ((gW h p).getD k 0):=by grind[WV,aT]
theorem aCK:TH h (p:Int)=some (decide (pS h p)):=by
 have hb:=hs.1;have hl:=WV hs hp;have hm:(gW h p).length<=maxLen:=by grind[maxLen]
 have e0:aY ((p:Int)*64)=((p*64:Nat):Int):=by grind[cA]
 have e1:aY (aY ((p:Int)+1)*64)=(((p+1)*64:Nat):Int):=by grind[cA]
 have i0:=a3Q hs hp (show 0<64 by omega);have i1:=a3Q hs hp (show 1<64 by omega);have i2:=a3Q hs hp (show 2<64 by omega);rw[show((0:Nat):Int)=0 from rfl] at i0;rw[show((1:Nat):Int)=1 from rfl] at i1;rw[show((2:Nat):Int)=2 from rfl] at i2;unfold TH;rw[aOU hs hp];simp only[aE,e0,e1,NM,bJ1 hs hp];rw[J5];by_cases hc:cD h p<0
 ·simp_all[pS,aCJ]
 ·have hP:pS h p↔((gW h p).getD 0 0=171/\(gW h p).getD 1 0=cD h p/\(gW h p).getD 2 0=cK (cD h p))/\(∀x∈((gW h p).drop 3).take 5,x=0)/\∀i,i<(cK (cD h p)).toNat->1<=ld h.Bytes (p*64+8+i*(aW (cD h p)).toNat) 4/\ld h.Bytes (p*64+8+i*(aW (cD h p)).toNat) 4<=7:=by simp_all[pS,aP]
  simp only[hc,decide_false,bN,bL,i0,i1,i2,aE,FH];by_cases a0:(gW h p).getD 0 0=171
  ·by_cases a1:(gW h p).getD 1 0=cD h p
   ·by_cases a2:(gW h p).getD 2 0=cK (cD h p)
    ·have n0:((gW h p).getD 0 0 != 171)=false:=by grind
     have n1:((gW h p).getD 1 0 != cD h p)=false:=by grind
     have n2:((gW h p).getD 2 0 != cK (cD h p))=false:=by grind
     have t8:((gW h p).take (8:Int).toNat).drop (3:Int).toNat=((gW h p).drop 3).take 5:=by grind[List.drop_take]
     simp only[n0,n1,n2,bN,bL,kJ,t8];rw[J5,aCJ (by grind)];by_cases h4:∀x∈((gW h p).drop 3).take 5,x=0
     ·simp only[bY h4,aE,iN,bN,bL,FH];have key2:loop (sW h (p:Int) (cD h p) (cK (cD h p))) 0=some (if ∀i,i<(cK (cD h p)).toNat->1<=ld h.Bytes (p*64+8+i*(aW (cD h p)).toNat) 4/\ld h.Bytes (p*64+8+i*(aW (cD h p)).toNat) 4<=7 then Out.brk () else Out.ret false):=by
       have hle:=oA (cD h p);have hst:∀k:Nat,k<(cK (cD h p)).toNat->sW h (p:Int) (cD h p) (cK (cD h p)) (k:Int)=if 1<=ld h.Bytes (p*64+8+k*(aW (cD h p)).toNat) 4/\ld h.Bytes (p*64+8+k*(aW (cD h p)).toNat) 4<=7 then some (.next ((k+1:Nat):Int)) else some (.stop (Out.ret false)):=by
        intro k hk;have hz:=uI hs hp rfl hk;have e5:aY (8+aY ((k:Int)*aW (cD h p)))=((8+k*(aW (cD h p)).toNat:Nat):Int):=by grind[cA]
        have l1:=xK (a8T hs hp) (a:=8+k*(aW (cD h p)).toNat) (w:=4) (by omega) (by omega) (by omega);rw[show((4:Nat):Int)=4 from rfl,bHS hs hp (by omega)] at l1;simp only[sW,WU,aE,e0,e1,NM,bJ1 hs hp,e5];rw[cY,l1,aAT,dM (x:=(k:Int)+1)];simp only[aE,dD];grind
       refine AZ (f:=sW h (p:Int) (cD h p) (cK (cD h p))) (cK (cD h p)).toNat (λk=>(k:Int)) (λi=>1<=ld h.Bytes (p*64+8+i*(aW (cD h p)).toNat) 4/\ld h.Bytes (p*64+8+i*(aW (cD h p)).toNat) 4<=7) _ _ (λk hk hx=>?_) (λk hk hx=>?_) ?_
       ·grind
       ·simp_all
       ·simp only[sW];rw[SU]
      rw[key2];by_cases h5:∀i,i<(cK (cD h p)).toNat->1<=ld h.Bytes (p*64+8+i*(aW (cD h p)).toNat) 4/\ld h.Bytes (p*64+8+i*(aW (cD h p)).toNat) 4<=7
      ·rw[aL h5,bY (hP.2 ⟨⟨a0,a1,a2⟩,h4,h5⟩)];rfl
      ·rw[aP h5,eF (λq=>h5 (hP.1 q).2.2)];rfl
     grind
    ·have n0:((gW h p).getD 0 0 != 171)=false:=by grind
     have n1:((gW h p).getD 1 0 != cD h p)=false:=by grind
     have n2:((gW h p).getD 2 0 != cK (cD h p))=true:=by grind
     simp_all[kJ]
   simp_all[kJ]
  simp_all[kJ]
end
instance (h:Heap):Decidable (∀p,p<6->pS h p):=Nat.decidableBallLT 6 λp _=>pS h p
def HOk(h:Heap):Prop:=fP h/\∀p,p<6->pS h p
instance (h:Heap):Decidable (HOk h):=by unfold HOk;infer_instance
theorem aRQ{h:Heap}(hl:h.Bytes.length<=maxLen):TP h=some (decide (HOk h)):=by
 unfold TP;rw[aNV hl];by_cases hs:fP h
 ·have key:loop (AD h) 0=some (if ∀p,p<6->pS h p then Out.brk () else Out.ret false):=by
   refine AZ (f:=AD h) 6 (λk=>(k:Int)) (λp=>pS h p) _ _ (λk hk hx=>?_) (λk hk hx=>?_) ?_
   ·simp only[AD];rw[cY,aCI hs hk,dM,bY hx];rfl
   ·simp only[AD];rw[cY,aCI hs hk,eF hx];rfl
   ·rfl
  simp only[aE,bY hs,iN,bN,bL];rw[key];by_cases h4:∀p,p<6->pS h p
  ·rw[aL h4,bY (show HOk h from⟨hs,h4⟩)];rfl
  ·rw[aP h4,eF (λq:HOk h=>h4 q.2)];rfl
 grind[HOk]
theorem R3{h:Heap}(hl:h.Bytes.length<=maxLen):MQ h=some (decide (HOk h)):=by
 unfold MQ;rw[R1 hl];by_cases hs:fP h
 ·have key:loop (zP h) 0=some (if ∀p,p<6->pS h p then Out.brk () else Out.ret false):=by
   refine AZ (f:=zP h) 6 (λk=>(k:Int)) (λp=>pS h p) _ _ (λk hk hx=>?_) (λk hk hx=>?_) ?_
   ·simp only[zP];rw[cY,aCK hs hk,dM,bY hx];rfl
   ·simp only[zP];rw[cY,aCK hs hk,eF hx];rfl
   ·rfl
  simp only[aE,bY hs,iN,bN,bL];rw[key];by_cases h4:∀p,p<6->pS h p
  ·rw[aL h4,bY (show HOk h from⟨hs,h4⟩)];rfl
  ·rw[aP h4,eF (λq:HOk h=>h4 q.2)];rfl
 grind[HOk]
def bI(h:Heap)(s:Int):Int:=if(0<=s/\s<=23)/\s % 4<cK (cD h (s/4).toNat) then cD h (s/4).toNat else -1
theorem sM{h:Heap}{s:Int}(hc:0<=bI h s):(0<=s/\s<=23)/\s % 4<cK (cD h (s/4).toNat)/\bI h s=cD h (s/4).toNat:=by unfold bI at hc ⊢;omega
theorem nD{h:Heap}(hs:fP h)(s:Int):nW h s=some (bI h s):=by
 unfold nW wU bI;rw[aCG,Z6];by_cases h1:0<=s/\s<=23
 ·obtain⟨k,rfl⟩:=bFW h1.1;have hk:k/4<6:=by omega
  have e1:((k:Int)/4)=((k/4:Nat):Int):=by omega
  have hi:=aOU hs hk;have n1:¬((k/4:Nat):Int)<0:=by omega
  simp only[h1,and_self,bR,aE,e1,n1,decide_false,bN,bL,hi,NM,true_and];grind[aX2,jN]
 ·simp[h1]
theorem jO{h:Heap}(hs:fP h)(s:Int):kK h s=some (bI h s):=by
 unfold kK ER bI;rw[A0];by_cases h1:0<=s/\s<=23
 ·obtain⟨k,rfl⟩:=bFW h1.1;have hk:k/4<6:=by omega
  have e1:((k:Int)/4)=((k/4:Nat):Int):=by omega
  have hi:=aOU hs hk;have e2:aY (Int.tdiv (k:Int) 4)=((k/4:Nat):Int):=by grind[cA]
  simp only[h1,and_self,decide_true,iN,bN,bR,aE,e1,e2,bL,hi,NM,true_and,EA];by_cases h3:(k:Int) % 4<cK (cD h (k/4))
  ·have hm:=YL (c:=cD h (k/4)) (by omega) h3;have hg:¬iU (k:Int) (cD h (k/4))<0:=by unfold iU;omega
   grind
  simp_all[iU,aP]
 ·simp[h1]
def j5(h:Heap)(s:Int):Int:=ld h.Bytes (iU s (bI h s)).toNat 4
theorem YM{h:Heap}{s:Int}(hc:0<=bI h s):0<=iU s (bI h s)/\iU s (bI h s)+4<=384:=by
 obtain⟨h1,h2,h3⟩:=sM hc;rw[h3];have hm:=YL (c:=cD h (s/4).toNat) (by omega) h2;have hst:0<aW (cD h (s/4).toNat):=by have:0<=cD h (s/4).toNat/\cD h (s/4).toNat<=2:=i7.1 (by omega);rcases lQ this with e|e|e<;>rw[e]<;>decide
 have:4<=aW (cD h (s/4).toNat):=by have:0<=cD h (s/4).toNat/\cD h (s/4).toNat<=2:=i7.1 (by omega);rcases lQ this with e|e|e<;>rw[e]<;>decide
 unfold iU;omega
theorem rV{h:Heap}(hs:fP h){s:Int}(hc:0<=bI h s):z8 h s=some (j5 h s):=by have hg:=YM hc;unfold z8;rw[nD hs];simp only[aE,yC];have l1:=A1 hs.2.2.1 (a:=(iU s (bI h s)).toNat) (w:=4) (by omega) (by have:=hs.1;omega) (by have:=hs.1;omega);rw[show((4:Nat):Int)=4 from rfl,Int.toNat_of_nonneg hg.1] at l1;rw[l1];rfl
theorem MF{h:Heap}(hs:fP h){s:Int}(hc:0<=bI h s):FU h s=some (j5 h s):=by
 have hg:=YM hc;have hm:h.Bytes.length<=maxLen:=by rw[hs.1];simp[maxLen]
 unfold FU HZ;rw[R1 hm,jO hs];have l1:=xK hs.2.2.1 (a:=(iU s (bI h s)).toNat) (w:=4) (by omega) (by have:=hs.1;omega) (by have:=hs.1;omega);grind[EA,j5]
def fS(l:List bJ):List Int:=l.flatMap bJ.aV
def eG(l:aC):List Int:=fS l.Global++fS l.Own
def LOk(l:aC):Prop:=l.Global.length=3/\l.Own.length=9/\(∀s∈l.Own,s.aV.length<=2)/\(∀x∈eG l,0<=x/\x<=23)/\(eG l).Nodup
instance (l:aC):Decidable (LOk l):=by unfold LOk;infer_instance
theorem WW{l:List bJ}{k:Nat}(h:k<l.length):fS (l.take (k+1))=fS (l.take k)++l[k].aV:=by grind[fS,QN]
theorem aX4(l:List bJ)(k:Nat):(fS (l.take k)).length<=(fS l).length:=by grind[fS,aK3]
theorem aRR(l:List bJ){k:Nat}(h:k<l.length):l[k].aV.length<=(fS l).length:=by have h1:=aX4 l (k+1);grind[WW]
theorem aFF{l:aC}(h:(eG l).length<=1073741824)(hg:l.Global.length<=maxLen)(ho:l.Own.length<=maxLen):RI l=some (eG l):=by
 have hsum:(fS l.Global).length+(fS l.Own).length<=1073741824:=by grind[eG]
 unfold RI;have k1:loop (DP l) ([],0)=some (fS l.Global):=by
  refine dW (f:=DP l) l.Global.length (λk=>(fS (l.Global.take k),(k:Int))) _ (λk hk=>?_) ?_
  ·have h1:=aX4 l.Global (k+1);rw[WW hk] at h1;simp only[DP];rw[cY,aT hk];grind[b9,WW,nQ]
  grind[DP]
 rw[k1];simp only[aE,aEX,aEW];have k2:loop (DO l) (fS l.Global,0)=some (eG l):=by
  have:=dW (f:=DO l) l.Own.length (λk=>(fS l.Global++fS (l.Own.take k),(k:Int))) (eG l) (λk hk=>?_) ?_
  ·grind[fS]
  ·have h1:=aX4 l.Own (k+1);rw[WW hk] at h1;simp only[DO];rw[cY,aT hk];grind[b9,WW,nQ]
  grind[DO,eG]
 rw[k2];rfl
theorem yD{l:List Int}(hl:l.length<=maxLen)(x:Int):vT l x=some (decide (x∈l)):=by
 unfold vT;have key:loop (xX l x) 0=some (if ∀y∈l,y≠x then Out.brk () else Out.ret true):=by
  refine mZ (f:=xX l x) l (λk=>(k:Int)) (λy=>y≠x) _ _ (λk h hp=>?_) (λk h hp=>?_) ?_
  ·simp only[xX];rw[cY,aT h,nQ (QT h hl)];have:(l[k] == x)=false:=by simpa using hp
   simp only[aE,this,bN,bL]
  ·simp only[xX];rw[cY,aT h];have:(l[k] == x)=true:=by simpa using hp
   simp only[aE,this,bR]
  ·simp[xX]
 rw[key];by_cases h:x∈l
 ·rw[aP (λq=>q x h rfl),bY h];rfl
 ·rw[aL (λy hy (e:y=x)=>h (e ▸ hy)),eF h];rfl
theorem LA(l:List Int):l.Nodup↔∀k (h:k<l.length),l[k]∉l.take k:=by grind[List.pairwise_iff_getElem,List.mem_take_iff_getElem]
theorem aNW{l:aC}(h:(eG l).length<=1073741824):PX l=some (decide (LOk l)):=by
 unfold PX E3;by_cases hg:l.Global.length=3
 ·by_cases ho:l.Own.length=9
  ·have n1:((l.Global.length:Int) != 3)=false:=by simp;omega
   have n2:((l.Own.length:Int) != 9)=false:=by simp;omega
   simp only[n1,n2,bN,bL];have k1:loop (qB l) 0=some (if ∀s∈l.Own,s.aV.length<=2 then Out.brk () else Out.ret false):=by
    refine mZ (f:=qB l) l.Own (λk=>(k:Int)) (λs=>s.aV.length<=2) _ _ (λk hk hp=>?_) (λk hk hp=>?_) ?_
    ·simp only[qB];rw[cY,aT hk,dM];simp only[aE];rw[SU];rfl
    ·simp only[qB];rw[cY,aT hk];simp only[aE];rw[cY]
    ·simp[qB]
   rw[k1];by_cases h2:∀s∈l.Own,s.aV.length<=2
   ·rw[aL h2];simp only[aE,ZS,ZR];rw[aFF h (by rw[hg];simp[maxLen]) (by rw[ho];simp[maxLen])];simp only[aE];have k2:loop (qA (eG l)) 0=some (if ∀k,k<(eG l).length->(0<=(eG l).getD k 0/\(eG l).getD k 0<=23)/\(eG l).getD k 0∉(eG l).take k then Out.brk () else Out.ret false):=by
     have hst:∀k,k<(eG l).length->qA (eG l) (k:Int)=if(0<=(eG l).getD k 0/\(eG l).getD k 0<=23)/\(eG l).getD k 0∉(eG l).take k then some (.next ((k+1:Nat):Int)) else some (.stop (Out.ret false)):=by
      intro k hk;have e:(eG l).getD k 0=(eG l)[k]:=by rw[OI,mP hk];rfl
      rw[e];simp only[qA];rw[cY,aT hk];simp only[aE,cN,E2];by_cases q:0<=(eG l)[k]/\(eG l)[k]<=23
      ·rw[bY q];simp only[iN,bN,bL,NM,SZ];rw[J5,yD (by simp[maxLen];omega),dM];by_cases q2:(eG l)[k]∈(eG l).take k
       ·rw[aP (λx=>x.2 q2),bY q2];rfl
       ·rw[aL ⟨q,q2⟩,eF q2];rfl
      ·rw[eF q];simp only[KO,bR];rw[aP (λx=>q x.1)]
     refine AZ (f:=qA (eG l)) (eG l).length (λk=>(k:Int)) (λk=>(0<=(eG l).getD k 0/\(eG l).getD k 0<=23)/\(eG l).getD k 0∉(eG l).take k) _ _ (λk hk hx=>?_) (λk hk hx=>?_) ?_
     ·rw[hst k hk,aL hx]
     ·rw[hst k hk,aP hx]
     ·simp[qA]
    rw[k2];have hiff:LOk l↔∀k,k<(eG l).length->(0<=(eG l).getD k 0/\(eG l).getD k 0<=23)/\(eG l).getD k 0∉(eG l).take k:=by
     have e:∀k (hk:k<(eG l).length),(eG l).getD k 0=(eG l)[k]:=λk hk=>by grind
     constructor
     ·rintro⟨_,_,_,q1,q2⟩ k hk;rw[e k hk];exact⟨q1 _ (cZ hk),(LA _).1 q2 k hk⟩
     ·intro q;refine⟨hg,ho,h2,λx hx=>?_,(LA _).2 λk hk=>?_⟩
      ·obtain⟨k,hk,rfl⟩:=aER.1 hx;have:=(q k hk).1;rw[e k hk] at this;exact this
      ·have:=(q k hk).2;rw[e k hk] at this;exact this
    by_cases q:LOk l
    ·rw[aL (hiff.1 q),bY q];rfl
    ·rw[aP (λx=>q (hiff.2 x)),eF q];rfl
   ·rw[aP h2,eF (λq:LOk l=>h2 q.2.2.1)];rfl
  ·have n1:((l.Global.length:Int) != 3)=false:=by simp;omega
   have n2:((l.Own.length:Int) != 9)=true:=by simp;omega
   simp_all[LOk]
 ·have n1:((l.Global.length:Int) != 3)=true:=by simp;omega
  simp_all[LOk]
def EB:List Bool->List Int->Option (List Bool)
 |met,[]=>some met
 |met,x::r=>if(0<=x/\x<=23)/\met.getD x.toNat true=false then EB (met.set x.toNat true) r else none
theorem aVJ:∀{xs:List Int} {met m:List Bool},EB met xs=some m->m.length=met.length
 |[],met,m,h=>by grind[EB]
 |x::r,met,m,h=>by
  simp only[EB] at h;split at h
  ·have:=aVJ h;grind
  ·cases h
theorem aIM:∀(a b:List Int) (met:List Bool),EB met (a++b)=(EB met a).bind λm=>EB m b
 |[],b,met=>rfl
 |x::r,b,met=>by
  simp only[Y3,EB];split
  ·exact aIM r b _
  ·rfl
theorem aGM:∀(xs:List Int) (met:List Bool),met.length=24->((EB met xs).isSome=true↔(∀x∈xs,0<=x/\x<=23)/\xs.Nodup/\∀x∈xs,met.getD x.toNat true=false)
 |[],met,hm=>by simp[EB]
 |x::r,met,hm=>by
  simp only[EB];by_cases h:(0<=x/\x<=23)/\met.getD x.toNat true=false
  ·rw[aL h,aGM r _ (by grind)];grind
  grind
def aX5:Option (List Bool)->Out (List Bool) Bool
 |some m=>.brk m
 |none=>.ret false
theorem bOT{s:bJ}(hl:s.aV.length<=maxLen):∀d k (met:List Bool),k+d=s.aV.length->met.length=24->loop (wJ s) ((k:Int),met)=some (aX5 (EB met (s.aV.drop k))):=by
 intro d;induction d with
 |zero=>
  intro k met hk hm;rw[bB (r:=Out.brk met) (by grind[wJ]),aPA (by omega)];rfl
 |succ d ih=>
  intro k met hk hm;have hk':k<s.aV.length:=by omega
  have hd:s.aV.drop k=s.aV[k]::s.aV.drop (k+1):=zF hk';have hst:wJ s ((k:Int),met)=if(0<=s.aV[k]/\s.aV[k]<=23)/\met.getD s.aV[k].toNat true=false then some (.next (((k+1:Nat):Int),met.set s.aV[k].toNat true)) else some (.stop (Out.ret false)):=by
   simp only[wJ];rw[cY,aT hk'];simp only[aE,A0];generalize s.aV[k]=x;by_cases q:0<=x/\x<=23
   ·obtain⟨j,rfl⟩:=bFW q.1;have hj:j<met.length:=by omega
    have e:met.getD j true=met[j]:=by grind
    simp only[q,and_self,decide_true,iN,bN,bL,wI,NM,true_and,e];rw[J5,aT hj];simp only[aE];cases met[j]
    ·simp only[bN,bL,bR];grind[b9,nQ]
    ·simp
   ·rw[eF q];simp only[KO,bR,wI];grind
  rw[hd,EB];by_cases q:(0<=s.aV[k]/\s.aV[k]<=23)/\met.getD s.aV[k].toNat true=false
  ·rw[aL q] at hst ⊢;grind[bP]
  ·rw[aP q] at hst ⊢;rw[bB hst];rfl
def aLI(l:List bJ):Prop:=∀s∈l,s.aV.length<=2
instance (l:List bJ):Decidable (aLI l):=by unfold aLI;infer_instance
theorem bOU{l:aC}(ho:l.Own.length=9)(hn:(l.Own++l.Global).length<=1000)(hs:∀s∈l.Own++l.Global,s.aV.length<=maxLen):∀d k (met:List Bool),k+d=(l.Own++l.Global).length->met.length=24 ->
  loop (wK l) ((k:Int),met)=some (if aLI (((l.Own++l.Global).drop k).take (9-k))/\(EB met (fS ((l.Own++l.Global).drop k))).isSome=true then Out.brk () else Out.ret false):=by
 intro d;induction d with
 |zero=>
  intro k met hk hm;rw[aPA (by omega),aL ⟨by simp[aLI],rfl⟩];simp_all[bB,wK]
 |succ d ih=>
  intro k met hk hm;have hk':k<(l.Own++l.Global).length:=by omega
  have hd:(l.Own++l.Global).drop k=(l.Own++l.Global)[k]::(l.Own++l.Global).drop (k+1):=zF hk';have hsk:=hs _ (cZ hk');have hf:fS ((l.Own++l.Global).drop k)=(l.Own++l.Global)[k].aV++fS ((l.Own++l.Global).drop (k+1)):=by grind[fS]
  have hin:∀b:Bool,pX (k:Int) met (l.Own++l.Global)[k] b=if b then some (.stop (Out.ret false)) else(match EB met (l.Own++l.Global)[k].aV with|some m=>some (.next (((k+1:Nat):Int),m))|none=>some (.stop (Out.ret false))):=by
   intro b;have h4:=bOT hsk _ 0 met (aG1 _) hm;rw[show((0:Nat):Int)=0 from rfl,SZ] at h4;unfold pX;rw[h4];cases b
   ·simp only[bN,bL,aE];cases EB met (l.Own++l.Global)[k].aV with
    |none=>rfl
    |some m=>simp only[aX5,ZI,ZH];rw[dM];rfl
   ·rfl
  have hst:wK l ((k:Int),met)=pX (k:Int) met (l.Own++l.Global)[k] (decide (k<9/\2<(l.Own++l.Global)[k].aV.length)):=by
   simp only[wK];rw[aL (by grind),aT hk'];simp only[aE];by_cases h9:k<9
   ·rw[cY];congr 1
    (simp_all;omega)
   grind
  rw[hin] at hst;by_cases h2:k<9/\2<(l.Own++l.Global)[k].aV.length
  ·rw[bY h2] at hst;simp only[bR] at hst;rw[bB hst,aP];rintro⟨q,_⟩;have e:9-k=(9-(k+1))+1:=by omega
   rw[hd,e,List.take_succ_cons] at q;have:=q _ aKY;omega
  ·rw[eF h2] at hst;simp only[bN,bL] at hst;have hcond:aLI (((l.Own++l.Global).drop k).take (9-k))↔aLI (((l.Own++l.Global).drop (k+1)).take (9-(k+1))):=by
    unfold aLI;by_cases h9:k<9
    ·have e:9-k=(9-(k+1))+1:=by omega
     simp_all
    ·have e:9-k=0:=by omega
     have e':9-(k+1)=0:=by omega
     simp_all
   rw[hf,aIM];cases hg:EB met (l.Own++l.Global)[k].aV with
   |none=>
    simp_all[bB]
   |some m=>
    rw[hg] at hst;rw[bP hst,ih (k+1) m (by omega) (by grind[aVJ])];simp_all
theorem Z7{l:aC}(h:(eG l).length<=1073741824):qO l=some (decide (LOk l)):=by
 unfold qO EM;by_cases hg:l.Global.length=3
 ·by_cases ho:l.Own.length=9
  ·have n1:((l.Global.length:Int) != 3)=false:=by simp;omega
   have n2:((l.Own.length:Int) != 9)=false:=by simp;omega
   simp only[n1,n2,bN,bL];rw[J5];have hsl:∀s∈l.Own++l.Global,s.aV.length<=maxLen:=by grind[eG,maxLen,aER,aRR]
   have key:=bOU ho (by simp;omega) hsl (l.Own++l.Global).length 0 (List.replicate 24 false) (by omega) rfl;rw[show((0:Nat):Int)=0 from rfl,SZ,Nat.sub_zero] at key;rw[key];have et:(l.Own++l.Global).take 9=l.Own:=by grind
   have ef:fS (l.Own++l.Global)=fS l.Own++fS l.Global:=by simp[fS]
   have hm0:∀j:Nat,j<24->(List.replicate 24 false).getD j true=false:=by decide
   have hiff:LOk l↔aLI ((l.Own++l.Global).take 9)/\(EB (List.replicate 24 false) (fS (l.Own++l.Global))).isSome=true:=by
    rw[aGM _ _ rfl,et,ef];have hp:(fS l.Own++fS l.Global).Perm (eG l):=List.perm_append_comm;constructor
    ·rintro⟨_,_,q1,q2,q3⟩;exact⟨q1,λx hx=>q2 x (hp.mem_iff.1 hx),hp.nodup_iff.2 q3,λx hx=>hm0 _ (by grind)⟩
    ·rintro⟨q1,q2,q3,_⟩;exact⟨hg,ho,q1,λx hx=>q2 x (hp.mem_iff.2 hx),hp.nodup_iff.1 q3⟩
   by_cases q:LOk l
   ·rw[aL (hiff.1 q),bY q];rfl
   ·rw[aP (λx=>q (hiff.2 x)),eF q];rfl
  ·have n1:((l.Global.length:Int) != 3)=false:=by simp;omega
   have n2:((l.Own.length:Int) != 9)=true:=by simp;omega
   simp_all[LOk]
 ·have n1:((l.Global.length:Int) != 3)=true:=by simp;omega
  simp_all[LOk]
def JT(h:Heap)(l:List Int)(c:Int):Prop:=∀x∈l,bI h x=c/\j5 h x<=6
instance (h:Heap) (l:List Int) (c:Int):Decidable (JT h l c):=by unfold JT;infer_instance
theorem WX{h:Heap}(hs:fP h){l:List Int}(hl:l.length<=maxLen){c:Int}(hc:0<=c):DQ h l c=some (decide (JT h l c)):=by
 unfold DQ;have key:loop (oR h l c) 0=some (if ∀x∈l,bI h x=c/\j5 h x<=6 then Out.brk () else Out.ret false):=by
  have hst:∀k (hk:k<l.length),oR h l c (k:Int)=if bI h l[k]=c/\j5 h l[k]<=6 then some (.next ((k+1:Nat):Int)) else some (.stop (Out.ret false)):=by
   intro k hk;simp only[oR];rw[cY,aT hk];generalize l[k]=x;simp only[aE,nD hs,BN];by_cases q:bI h x=c
   ·have n1:(bI h x != c)=false:=by simp only[bne_eq_false_iff_eq];exact q
    simp only[n1,bN,bL,rV hs (show 0<=bI h x by omega),aE,nQ (QT hk hl)];by_cases q2:j5 h x<=6
    ·rw[SU,aL ⟨q,q2⟩]
    ·rw[cY,aP (λx=>q2 x.2)]
   ·have n1:(bI h x != c)=true:=by simp only[bne_iff_ne];exact q
    simp only[n1,bR];rw[aP (λx=>q x.1)]
  refine mZ (f:=oR h l c) l (λk=>(k:Int)) (λx=>bI h x=c/\j5 h x<=6) _ _ (λk hk hp=>?_) (λk hk hp=>?_) ?_
  ·rw[hst k hk,aL hp]
  ·rw[hst k hk,aP hp]
  ·simp[oR]
 rw[key];by_cases q:∀x∈l,bI h x=c/\j5 h x<=6
 ·rw[aL q,bY (show JT h l c from q)];rfl
 ·rw[aP q,eF (show ¬JT h l c from q)];rfl
theorem WY{h:Heap}(hs:fP h){s:bJ}(hl:s.aV.length<=maxLen){c:Int}(hc:0<=c):DK h s c=some (decide (JT h s.aV c)):=by
 unfold DK;have key:loop (oP h s c) 0=some (if ∀x∈s.aV,bI h x=c/\j5 h x<=6 then Out.brk () else Out.ret false):=by
  have hst:∀k (hk:k<s.aV.length),oP h s c (k:Int)=if bI h s.aV[k]=c/\j5 h s.aV[k]<=6 then some (.next ((k+1:Nat):Int)) else some (.stop (Out.ret false)):=by
   intro k hk;simp only[oP];rw[cY,aT hk];generalize s.aV[k]=x;simp only[aE,jO hs,BI];by_cases q:bI h x=c
   ·have n1:(bI h x != c)=false:=by simp only[bne_eq_false_iff_eq];exact q
    simp only[n1,bN,bL,MF hs (show 0<=bI h x by omega),aE,nQ (QT hk hl)];by_cases q2:j5 h x<=6
    ·rw[SU,aL ⟨q,q2⟩]
    ·rw[cY,aP (λx=>q2 x.2)]
   ·have n1:(bI h x != c)=true:=by simp only[bne_iff_ne];exact q
    simp only[n1,bR];rw[aP (λx=>q x.1)]
  refine mZ (f:=oP h s c) s.aV (λk=>(k:Int)) (λx=>bI h x=c/\j5 h x<=6) _ _ (λk hk hp=>?_) (λk hk hp=>?_) ?_
  ·rw[hst k hk,aL hp]
  ·rw[hst k hk,aP hp]
  ·simp[oP]
 rw[key];by_cases q:∀x∈s.aV,bI h x=c/\j5 h x<=6
 ·rw[aL q,bY (show JT h s.aV c from q)];rfl
 ·rw[aP q,eF (show ¬JT h s.aV c from q)];rfl
def fA(l:List bJ)(k:Nat):List Int:=(l.getD k ⟨[]⟩).aV
theorem dS{l:List bJ}{k:Nat}(h:k<l.length):l[k].aV=fA l k:=by grind[fA]
def U8(m:Mem)(k:Nat):Prop:=JT m.Heap (fA m.aC.Global k) (k:Int)
def KA(m:Mem)(k:Nat):Prop:=JT m.Heap (fA m.aC.Own k) ((k % 3:Nat):Int)
instance (m:Mem) (k:Nat):Decidable (U8 m k):=by unfold U8;infer_instance
instance (m:Mem) (k:Nat):Decidable (KA m k):=by unfold KA;infer_instance
instance (m:Mem):Decidable (∀k,k<3->U8 m k):=Nat.decidableBallLT 3 λk _=>U8 m k
instance (m:Mem):Decidable (∀k,k<9->KA m k):=Nat.decidableBallLT 9 λk _=>KA m k
instance (m:Mem) (c:Nat):Decidable (∀w,w<3->KA m (w*3+c)):=Nat.decidableBallLT 3 λw _=>KA m (w*3+c)
instance (m:Mem):Decidable (∀k,k<3->U8 m k/\∀w,w<3->KA m (w*3+k)):=Nat.decidableBallLT 3 λk _=>U8 m k/\∀w,w<3->KA m (w*3+k)
def kR(m:Mem):Prop:=(HOk m.Heap/\LOk m.aC)/\(∀k,k<3->U8 m k)/\∀k,k<9->KA m k
instance (m:Mem):Decidable (kR m):=by unfold kR;infer_instance
theorem LOk.aVK{l:aC}(h:LOk l)(hb:(eG l).length<=1073741824):(∀s∈l.Global,s.aV.length<=1073741824)/\∀s∈l.Own,s.aV.length<=1073741824:=by grind[eG,aER,aRR]
theorem a6Q{m:Mem}:(∀k,k<3->U8 m k/\∀w,w<3->KA m (w*3+k))↔(∀k,k<3->U8 m k)/\∀k,k<9->KA m k:=by
 constructor
 ·intro h;refine⟨λk hk=>(h k hk).1,λk hk=>?_⟩;have:=(h (k % 3) (by omega)).2 (k/3) (by omega);grind
 grind
theorem aUM{m:Mem}(hb:m.Heap.Bytes.length<=maxLen)(hl:(eG m.aC).length<=1073741824):XW m=some (decide (kR m)):=by
 unfold XW L8;rw[aRQ hb,aNW hl];by_cases h1:HOk m.Heap
 ·by_cases h2:LOk m.aC
  ·have hmx:(1073741824:Nat)<=maxLen:=by simp[maxLen]
   have hsl:=LOk.aVK h2 hl;simp only[bY h1,bY h2,aE,iN,bN,bL];have k3:∀c:Nat,c<3->loop (DS m (c:Int)) 0=some (if ∀w,w<3->KA m (w*3+c) then Out.brk () else Out.ret false):=by
    intro c hc;have hst:∀w:Nat,w<3->DS m (c:Int) (w:Int)=if KA m (w*3+c) then some (.next ((w+1:Nat):Int)) else some (.stop (Out.ret false)):=by
     intro w hw;have hk:w*3+c<m.aC.Own.length:=by rw[h2.2.1];omega
     have e:AE (w:Int) (c:Int)=some ((w*3+c:Nat):Int):=by unfold AE DR;rw[cN,cN,bY (by omega),bY (by omega)];simp only[aE,iN,bN,bL];grind[cA]
     have hlen:=hsl.2 _ (cZ hk);simp only[DS];rw[cY,e];simp only[aE,aT hk];rw[WX h1.1 (by omega) (by omega),dS hk];have em:(w*3+c) % 3=c:=by omega
     have ho:KA m (w*3+c)↔JT m.Heap (fA m.aC.Own (w*3+c)) (c:Int):=by grind[KA]
     rw[dM];grind
    refine AZ (f:=DS m (c:Int)) 3 (λk=>(k:Int)) (λw=>KA m (w*3+c)) _ _ (λk hk hx=>?_) (λk hk hx=>?_) ?_
    ·grind
    ·grind
    ·rfl
   have k2:loop (DT m) 0=some (if ∀k,k<3->U8 m k/\∀w,w<3->KA m (w*3+k) then Out.brk () else Out.ret false):=by
    have hst:∀c:Nat,c<3->DT m (c:Int)=if U8 m c/\∀w,w<3->KA m (w*3+c) then some (.next ((c+1:Nat):Int)) else some (.stop (Out.ret false)):=by
     intro c hc;have hk:c<m.aC.Global.length:=by rw[h2.1];omega
     have hlen:=hsl.1 _ (cZ hk);simp only[DT];rw[cY];simp only[aE,aT hk];rw[WX h1.1 (by omega) (by omega),dS hk,k3 c hc];by_cases q:U8 m c
     ·have q':JT m.Heap (fA m.aC.Global c) (c:Int):=q;rw[bY q'];simp only[aE,iN,bN,bL];by_cases q2:∀w,w<3->KA m (w*3+c)
      ·rw[aL q2,aL ⟨q,q2⟩];simp only[aEZ,aEY];grind[cA]
      ·rw[aP q2,aP (λx=>q2 x.2)];rfl
     ·have q':¬JT m.Heap (fA m.aC.Global c) (c:Int):=q;grind
    refine AZ (f:=DT m) 3 (λk=>(k:Int)) (λk=>U8 m k/\∀w,w<3->KA m (w*3+k)) _ _ (λk hk hx=>?_) (λk hk hx=>?_) ?_
    ·grind
    ·grind
    ·rfl
   rw[k2];by_cases q:∀k,k<3->U8 m k/\∀w,w<3->KA m (w*3+k)
   ·rw[aL q,bY (show kR m from⟨⟨h1,h2⟩,a6Q.1 q⟩)];rfl
   ·rw[aP q,eF (λx:kR m=>q (a6Q.2 x.2))];rfl
  grind[kR]
 grind[kR]
theorem EC{m:Mem}(hb:m.Heap.Bytes.length<=maxLen)(hl:(eG m.aC).length<=1073741824):zV m=some (decide (kR m)):=by
 unfold zV LV;rw[R3 hb,Z7 hl];by_cases h1:HOk m.Heap
 ·by_cases h2:LOk m.aC
  ·have hmx:(1073741824:Nat)<=maxLen:=by simp[maxLen]
   have hsl:=LOk.aVK h2 hl;simp only[bY h1,bY h2,aE,iN,bN,bL];have k3:loop (xU m) 0=some (if ∀k,k<9->KA m k then Out.brk () else Out.ret false):=by
    have hst:∀w:Nat,w<9->xU m (w:Int)=if KA m w then some (.next ((w+1:Nat):Int)) else some (.stop (Out.ret false)):=by
     intro w hw;have hk:w<m.aC.Own.length:=by rw[h2.2.1];omega
     have hlen:=hsl.2 _ (cZ hk);have em:Int.tmod (w:Int) 3=((w % 3:Nat):Int):=by grind
     simp only[xU];rw[cY];simp only[aE,aT hk,em];rw[WY h1.1 (by omega) (by omega),dS hk,dM];by_cases q:KA m w
     ·rw[aL q,bY (show JT m.Heap (fA m.aC.Own w) ((w % 3:Nat):Int) from q)];rfl
     ·rw[aP q,eF (show ¬JT m.Heap (fA m.aC.Own w) ((w % 3:Nat):Int) from q)];rfl
    refine AZ (f:=xU m) 9 (λk=>(k:Int)) (λw=>KA m w) _ _ (λk hk hx=>?_) (λk hk hx=>?_) ?_
    ·grind
    ·grind
    ·simp[xU,h2.2.1]
   have k2:loop (xV m) 0=some (if ∀k,k<3->U8 m k then Out.brk () else Out.ret false):=by
    have hst:∀w:Nat,w<3->xV m (w:Int)=if U8 m w then some (.next ((w+1:Nat):Int)) else some (.stop (Out.ret false)):=by
     intro w hw;have hk:w<m.aC.Global.length:=by rw[h2.1];omega
     have hlen:=hsl.1 _ (cZ hk);simp only[xV];rw[cY];simp only[aE,aT hk];rw[WY h1.1 (by omega) (by omega),dS hk,dM];by_cases q:U8 m w
     ·rw[aL q,bY (show JT m.Heap (fA m.aC.Global w) (w:Int) from q)];rfl
     ·rw[aP q,eF (show ¬JT m.Heap (fA m.aC.Global w) (w:Int) from q)];rfl
    refine AZ (f:=xV m) 3 (λk=>(k:Int)) (λw=>U8 m w) _ _ (λk hk hx=>?_) (λk hk hx=>?_) ?_
    ·grind
    ·grind
    ·simp[xV,h2.1]
   rw[k2];by_cases q:∀k,k<3->U8 m k
   ·rw[aL q];simp only[aE,aEV,aEU];rw[k3];by_cases q2:∀k,k<9->KA m k
    ·rw[aL q2,bY (show kR m from⟨⟨h1,h2⟩,q,q2⟩)];rfl
    ·rw[aP q2,eF (λx:kR m=>q2 x.2.2)];rfl
   ·rw[aP q,eF (λx:kR m=>q x.2.1)];rfl
  grind[kR]
 grind[kR]
theorem NC{l:List bJ}{s:bJ}(h:s∈l):s.aV.length<=(fS l).length:=by grind[aER,aRR]
theorem xL(l:aC):(eG l).length=(fS l.Global).length+(fS l.Own).length:=by simp[eG]
def GD(m:Mem):Prop:=m.Heap.Bytes.length<=1048576/\m.Heap.Class.length<=1048576/\m.aC.Global.length<=1048576/\m.aC.Own.length<=1048576/\(eG m.aC).length<=1048576
theorem GD.aVK{m:Mem}(h:GD m):(∀s∈m.aC.Global,s.aV.length<=1048576)/\∀s∈m.aC.Own,s.aV.length<=1048576:=by have:=xL m.aC;have h5:=h.2.2.2.2;exact⟨λs hm=>by have:=NC hm;omega,λs hm=>by have:=NC hm;omega⟩
def POk(e:Int)(p:yN):Prop:=(0<=p.aJ/\p.aJ<=e)/\(0<=p.Seen/\p.Seen<=2)/\(p.On=false->p=⟨false,0,false,0⟩)
instance (e:Int) (p:yN):Decidable (POk e p):=by unfold POk;infer_instance
def NJ(c:aD):Prop:=(0<=c.aJ/\c.aJ<=100000)/\c.cG.length=3/\∀p∈c.cG,POk c.aJ p
instance (c:aD):Decidable (NJ c):=by unfold NJ;infer_instance
theorem jP(c:aD):rE c=some (decide (NJ c)):=by
 unfold rE;rw[cN];by_cases h1:0<=c.aJ/\c.aJ<=100000
 ·by_cases h2:c.cG.length=3
  ·simp only[aE,h1,h2,qC];have key:∀k:Nat,k<=3->loop (wX c) (k:Int)=some (if ∀p∈c.cG.drop k,POk c.aJ p then Out.brk () else Out.ret false):=by
    refine aWI 3 _ λk hk=>?_;by_cases h3:k<3
    ·have hd:c.cG.drop k=c.cG[k]::c.cG.drop (k+1):=zF (by omega);simp only[wX];rw[cY,RY];simp only[aE,cN,nA,hd];rw[nQ (by simp[maxLen];omega)];generalize c.cG[k]=p;have hp:POk c.aJ p↔decide (0<=p.aJ/\p.aJ<=c.aJ)=true/\decide (0<=p.Seen/\p.Seen<=2)=true/\(p.On=false->decide (p=⟨false,0,false,0⟩)=true):=by simp only[POk,decide_eq_true_eq]
     simp only[List.forall_mem_cons,hp];generalize decide (0<=p.aJ/\p.aJ<=c.aJ)=b1;generalize decide (0<=p.Seen/\p.Seen<=2)=b2;generalize decide (p=⟨false,0,false,0⟩)=b3;generalize p.On=b4;cases b1<;>cases b2<;>cases b3<;>cases b4<;>simp[h3]
    ·left;obtain rfl:k=3:=by omega
     simp[wX,aPA (show c.cG.length<=3 by omega)]
   have:=key 0 (by omega);simp only[Int.ofNat_zero,SZ] at this;have e:decide (NJ c)=if ∀p∈c.cG,POk c.aJ p then true else false:=by have:NJ c↔∀p∈c.cG,POk c.aJ p:=⟨λh=>h.2.2,λh=>⟨h1,h2,h⟩⟩;simp[this]
   rw[e];simp only[Int.cast_ofNat_Int] at *;have t0:loop (wX c) 0=_:=this;by_cases h5:∀p∈c.cG,POk c.aJ p
   ·rw[aL h5] at t0 ⊢;rw[t0];simp[NZ,ZT]
   ·rw[aP h5] at t0 ⊢;rw[t0];simp[NZ]
  grind[qC,NJ]
 grind[qC,NJ]
theorem a0R(p:yN)(c:aD):zS p c=some (!decide (POk c.aJ p)):=by
 unfold zS mT;rw[dD,dD];have hp:decide (POk c.aJ p)=(decide (0<=p.aJ/\p.aJ<=c.aJ) && (decide (0<=p.Seen/\p.Seen<=2) && (p.On || decide (p=⟨false,0,false,0⟩)))):=by rw[NL];simp only[POk,decide_eq_true_eq,FM,Bool.or_eq_true];grind
 grind
theorem aX6{l:List yN}(hl:l.length<=maxLen)(f:yN->Bool):mS l (λx=>some (f x))=some (l.any f):=by
 unfold mS zR;have key:∀k:Nat,k<=l.length->loop (jY l (λx=>some (f x))) (k:Int)=some (if(l.drop k).any f then Out.ret ((k+(l.drop k).findIdx f:Nat):Int) else Out.brk ()):=by
  refine aWI l.length _ λk hk=>?_;by_cases h3:k<l.length
  ·have hd:l.drop k=l[k]::l.drop (k+1):=zF h3;simp only[jY];rw[cY,aT h3,nQ (QT h3 hl),hd];grind
  grind[jY]
 have t0:loop (jY l (λx=>some (f x))) 0=_:=key 0 (by omega);rw[t0];simp only[SZ];by_cases h:l.any f=true
 ·simp[h,sZ]
 grind[sZ,GM]
theorem xM{c:aD}(hc:c.cG.length<=maxLen):qT c=some (decide (NJ c)):=by
 unfold qT wO;rw[dD];have e:(λy0=>zS y0 c)=λy0=>some (!decide (POk c.aJ y0)):=funext λy=>a0R y c;rw[e,aX6 hc];by_cases h1:0<=c.aJ/\c.aJ<=100000
 ·by_cases h2:c.cG.length=3
  ·have:NJ c↔∀p∈c.cG,POk c.aJ p:=⟨λh=>h.2.2,λh=>⟨h1,h2,h⟩⟩;grind
  grind[NJ]
 grind[NJ]
def cE(l:List bT):List eB:=l.flatMap bT.Rows
theorem R4{l:List bT}{k:Nat}(h:k<l.length):cE (l.take (k+1))=cE (l.take k)++l[k].Rows:=by grind[cE,QN]
theorem aRS(l:List bT)(k:Nat):(cE (l.take k)).length<=(cE l).length:=by grind[cE,aK3]
theorem a8U(l:List bT){k:Nat}(h:k<l.length):l[k].Rows.length<=(cE l).length:=by have h1:=aRS l (k+1);grind[R4]
theorem aDO{l:List bT}{s:bT}(h:s∈l):s.Rows.length<=(cE l).length:=by grind[aER,a8U]
theorem R5{l:List bT}(h:(cE l).length<=1073741824)(hl:l.length<=maxLen):GR l=some (cE l):=by
 unfold GR;have k1:loop (AA l) ([],0)=some (cE l):=by
  refine dW (f:=AA l) l.length (λk=>(cE (l.take k),(k:Int))) _ (λk hk=>?_) ?_
  ·have h1:=aRS l (k+1);rw[R4 hk] at h1;simp only[AA];rw[cY,aT hk];grind[b9,R4,nQ]
  grind[AA]
 rw[k1];rfl
def kC(h:Int):Prop:=(32<=h/\h<=223)/\h % 32<24
instance (h:Int):Decidable (kC h):=by unfold kC;infer_instance
theorem i4(h:Int):jK h=some (decide (kC h)):=by grind[jK,BL,kC,cN,NB]
theorem iF(h:Int):iW h=some (decide (kC h)):=by grind[iW,BA,kC,dD,NB]
theorem kC.mod{h:Int}(q:kC h):Int.tmod h 32=h % 32/\0<=h % 32/\h % 32<=23:=by grind[kC]
theorem gK(h:Int):fU h=some (if kC h then h % 32 else -1):=by grind[fU,i4,kC]
def GV(r:eB):Prop:=kC r.Handle/\0<=r.aJ/\r.aJ<=100000
instance (r:eB):Decidable (GV r):=by unfold GV;infer_instance
def pB(r:eB):Int:=r.Handle % 32
def rZ(l:List bT):Prop:=l.length=3/\(cE l).length<=24/\(∀r∈cE l,GV r)/\((cE l).map pB).Nodup
instance (l:List bT):Decidable (rZ l):=by unfold rZ;infer_instance
def rowAt(l:List eB)(k:Nat):eB:=l.getD k ⟨0,0⟩
theorem aDP{l:List eB}{k:Nat}(h:k<l.length):rowAt l k=l[k]:=by grind[rowAt]
theorem aNX{l:List bT}(h:(cE l).length<=1073741824)(hl:l.length<=maxLen):PY l=some (decide (rZ l)):=by
 unfold PY E4;rw[R5 h hl];simp only[aE];by_cases h3:l.length=3
 ·have n1:((l.length:Int) != 3)=false:=by simp;omega
  simp only[n1,bN,bL];by_cases h24:(cE l).length<=24
  ·rw[SU];have hst:∀k,k<(cE l).length->wZ (cE l) (((cE l).take k).map pB,(k:Int))=if GV (rowAt (cE l) k)/\pB (rowAt (cE l) k)∉((cE l).take k).map pB then some (.next (((cE l).take (k+1)).map pB,((k+1:Nat):Int))) else some (.stop (Out.ret false)):=by
    intro k hk;simp only[wZ,wY];rw[cY,aT hk,aDP hk];simp only[aE,gK,cN];by_cases q:kC (cE l)[k].Handle
    ·have hm:=q.mod;rw[aL q,SU];by_cases q2:0<=(cE l)[k].aJ/\(cE l)[k].aJ<=100000
     ·rw[bY q2];simp only[iN,bN,bL];rw[yD (by grind[maxLen])];simp only[aE];by_cases q3:(cE l)[k].Handle % 32∈((cE l).take k).map pB
      ·simp_all[pB]
      ·rw[eF q3];simp only[bN,bL];rw[aL (show GV (cE l)[k]/\pB (cE l)[k]∉((cE l).take k).map pB from⟨⟨q,q2⟩,q3⟩),SW,dM,map_take _ hk];rfl
     ·rw[eF q2];simp only[KO,bR];rw[aP (λx:GV _/\_=>q2 x.1.2)]
    simp_all[GV]
   have key:=AZ (f:=wZ (cE l)) (cE l).length (λk=>(((cE l).take k).map pB,(k:Int))) (λk=>GV (rowAt (cE l) k)/\pB (rowAt (cE l) k)∉((cE l).take k).map pB) (Out.brk ()) (Out.ret false) (λk hk hx=>by grind) (λk hk hx=>by grind) (by simp[wZ]);rw[List.take_zero,List.map_nil,show((0:Nat):Int)=0 from rfl] at key;rw[key];have hiff:rZ l↔∀k,k<(cE l).length->GV (rowAt (cE l) k)/\pB (rowAt (cE l) k)∉((cE l).take k).map pB:=by
    constructor
    ·rintro⟨_,_,q1,q2⟩ k hk;grind[aDP,LA,List.map_take]
    ·intro q;refine⟨h3,h24,λx hx=>?_,(LA _).2 λk hk=>?_⟩
     ·obtain⟨k,hk,rfl⟩:=aER.1 hx;grind[aDP]
     grind[aDP,List.map_take]
   by_cases q:rZ l
   ·rw[aL (hiff.1 q),bY q];rfl
   ·rw[aP (λx=>q (hiff.2 x)),eF q];rfl
  ·rw[cY,eF (λq:rZ l=>h24 q.2.1)]
 ·have n1:((l.length:Int) != 3)=true:=by simp;omega
  simp_all[rZ]
def goR:List Bool->List eB->Option (List Bool)
 |met,[]=>some met
 |met,r::t=>if GV r/\met.getD (pB r).toNat true=false then goR (met.set (pB r).toNat true) t else none
theorem a6R:∀{xs:List eB} {met m:List Bool},goR met xs=some m->m.length=met.length
 |[],met,m,h=>by grind[goR]
 |x::r,met,m,h=>by
  simp only[goR] at h;split at h
  ·have:=a6R h;grind
  ·cases h
theorem aRT:∀(a b:List eB) (met:List Bool),goR met (a++b)=(goR met a).bind λm=>goR m b
 |[],b,met=>rfl
 |x::r,b,met=>by
  simp only[Y3,goR];split
  ·exact aRT r b _
  ·rfl
theorem a0S:∀(xs:List eB) (met:List Bool),(goR met xs).isSome=true↔(∀r∈xs,GV r)/\(EB met (xs.map pB)).isSome=true
 |[],met=>by simp[goR,EB]
 |x::r,met=>by
  simp only[goR,OK,EB];by_cases h:GV x
  ·have hm:=h.1.mod;have hs:0<=pB x/\pB x<=23:=hm.2;by_cases h2:met.getD (pB x).toNat true=false
   ·rw[aL ⟨h,h2⟩,aL ⟨hs,h2⟩,a0S r _];simp[h]
   grind
  grind
theorem a8V{s:bT}(hl:s.Rows.length<=maxLen):∀d k (met:List Bool),k+d=s.Rows.length->met.length=24->loop (wM s) ((k:Int),met)=some (aX5 (goR met (s.Rows.drop k))):=by
 intro d;induction d with
 |zero=>
  intro k met hk hm;rw[bB (r:=Out.brk met) (by grind[wM]),aPA (by omega)];rfl
 |succ d ih=>
  intro k met hk hm;have hk':k<s.Rows.length:=by omega
  have hd:s.Rows.drop k=s.Rows[k]::s.Rows.drop (k+1):=zF hk';have hst:wM s ((k:Int),met)=if GV s.Rows[k]/\met.getD (pB s.Rows[k]).toNat true=false then some (.next (((k+1:Nat):Int),met.set (pB s.Rows[k]).toNat true)) else some (.stop (Out.ret false)):=by
   simp only[wM];rw[cY,aT hk'];simp only[aE,iF,dD];generalize s.Rows[k]=x;by_cases q:kC x.Handle
   ·by_cases q2:0<=x.aJ/\x.aJ<=100000
    ·have hm2:=q.mod;obtain⟨j,hj0⟩:=bFW hm2.2.1;have hj:j<met.length:=by omega
     have e:met.getD j true=met[j]:=by grind
     have hr:GV x:=⟨q,q2⟩;simp only[q,q2,and_self,decide_true,iN,bN,bL,m9,hm2.1,hj0,NM,hr,true_and,pB,e];rw[J5,aT hj];simp only[aE];cases met[j]
     ·simp only[bN,bL,bR];grind[b9,nQ]
     ·simp
    ·rw[bY q,eF q2];simp only[iN,KO,bN,bL,bR,m9];rw[aP (λy:GV x/\_=>q2 y.1.2)]
   simp_all[m9,GV]
  rw[hd,goR];by_cases q:GV s.Rows[k]/\met.getD (pB s.Rows[k]).toNat true=false
  ·rw[aL q] at hst ⊢;grind[bP]
  ·rw[aP q] at hst ⊢;rw[bB hst];rfl
theorem a8W{l:List bT}(hn:l.length<=1000)(hs:∀s∈l,s.Rows.length<=maxLen):∀d k (met:List Bool),k+d=l.length->met.length=24 ->
  loop (wN l) ((k:Int),met)=some (if(goR met (cE (l.drop k))).isSome=true then Out.brk () else Out.ret false):=by
 intro d;induction d with
 |zero=>
  simp_all[goR,cE,bB,wN]
 |succ d ih=>
  intro k met hk hm;have hk':k<l.length:=by omega
  have hd:l.drop k=l[k]::l.drop (k+1):=zF hk';have hsk:=hs _ (cZ hk');have hf:cE (l.drop k)=l[k].Rows++cE (l.drop (k+1)):=by grind[cE]
  have h4:=a8V hsk _ 0 met (aG1 _) hm;rw[show((0:Nat):Int)=0 from rfl,SZ] at h4;have hst:wN l ((k:Int),met)=(match goR met l[k].Rows with|some m=>some (.next (((k+1:Nat):Int),m))|none=>some (.stop (Out.ret false))):=by
   simp only[wN];rw[cY,aT hk'];simp only[aE];rw[h4];cases goR met l[k].Rows with
   |none=>rfl
   |some m=>simp only[aE,aX5,ZL,ZK];grind[cA]
  rw[hf,aRT];cases hg:goR met l[k].Rows with
  |none=>
   simp_all[bB]
  |some m=>
   rw[hg] at hst;rw[bP hst,ih (k+1) m (by omega) (by grind[a6R])];simp
theorem aIN{l:List bT}(hn:l.length<=1000)(h:(cE l).length<=1073741824):H6 l=some ((cE l).length:Int):=by
 unfold H6;have key:loop (qS l) (0,0)=some ((cE l).length:Int):=by
  refine dW (f:=qS l) l.length (λk=>(((cE (l.take k)).length:Int),(k:Int))) _ (λk hk=>?_) ?_
  ·have h1:=aRS l (k+1);rw[R4 hk,DA] at h1;simp only[qS];rw[cY,aT hk];grind[cA,R4]
  grind[qS]
 rw[key];rfl
theorem FI{l:List bT}(h:(cE l).length<=1073741824):vI l=some (decide (rZ l)):=by
 unfold vI;by_cases h3:l.length=3
 ·have n1:((l.length:Int) != 3)=false:=by simp;omega
  have hb:(1073741824:Nat)<=maxLen:=by simp[maxLen]
  simp only[n1,bN,bL];have key:=a8W (l:=l) (by omega) (λs hs=>by have:=aDO hs;omega) l.length 0 (List.replicate 24 false) (by omega) rfl;rw[show((0:Nat):Int)=0 from rfl,SZ] at key;rw[key];have hm0:∀j:Nat,j<24->(List.replicate 24 false).getD j true=false:=by decide
  have hiff:rZ l↔(cE l).length<=24/\(goR (List.replicate 24 false) (cE l)).isSome=true:=by
   rw[a0S,aGM _ _ rfl];have hr:(∀r∈cE l,GV r)->∀x∈(cE l).map pB,0<=x/\x<=23:=by intro q x hx;obtain⟨r,hr,rfl⟩:=VN.1 hx;exact(q r hr).1.mod.2
   constructor
   ·rintro⟨_,q1,q2,q3⟩;grind
   ·rintro⟨q1,q2,_,q3,_⟩;exact⟨h3,q1,q2,q3⟩
  by_cases q:(goR (List.replicate 24 false) (cE l)).isSome=true
  ·rw[aL q];simp only[aE,ZM,ZJ];rw[aIN (by omega) h];grind
  ·rw[aP q,eF (λx=>q (hiff.1 x).2)];rfl
 ·have n1:((l.length:Int) != 3)=true:=by simp;omega
  simp_all[rZ]
def j8(h:Int):Prop:=h=0\/kC h
instance (h:Int):Decidable (j8 h):=by unfold j8;infer_instance
def aEJ(z:List Int):Prop:=z.length=3/\∀h∈z,j8 h
instance (z:List Int):Decidable (aEJ z):=by unfold aEJ;infer_instance
theorem aUN{z:List Int}(hl:z.length<=maxLen):XX z=some (decide (aEJ z)):=by
 unfold XX;have hst:∀k (hk:k<z.length),DU z (k:Int)=if j8 z[k] then some (.next ((k+1:Nat):Int)) else some (.stop (Out.ret false)):=by
  intro k hk;simp only[DU,L9];rw[cY,aT hk,nQ (QT hk hl)];simp only[aE,i4];generalize z[k]=x;by_cases q:x=0
  ·have n:(x != 0)=false:=by simp only[bne_eq_false_iff_eq];exact q
   rw[n,aL (show j8 x from .inl q)];rfl
  ·have n:(x != 0)=true:=by simp only[bne_iff_ne];exact q
   by_cases q2:kC x
   ·rw[n,bY q2,aL (show j8 x from .inr q2)];rfl
   ·rw[n,eF q2,aP (λa:j8 x=>a.elim q q2)];rfl
 have key:=mZ (f:=DU z) z (λk=>(k:Int)) j8 (Out.brk ()) (Out.ret false) (λk hk hx=>by grind) (λk hk hx=>by grind) (by simp[DU]);rw[show((0:Nat):Int)=0 from rfl] at key;rw[key];by_cases q:∀x∈z,j8 x
 ·rw[aL q];have:aEJ z↔z.length=3:=⟨λa=>a.1,λa=>⟨a,q⟩⟩;simp only[aE,aE1,aE0,this];congr 1;grind
 ·rw[aP q,eF (λa:aEJ z=>q a.2)];rfl
theorem aUO{z:List Int}(hl:z.length<=maxLen):XV z=some (decide (aEJ z)):=by
 unfold XV LY;have e:(λy0=>PT y0)=λy:Int=>some (!decide (j8 y)):=by
  funext y;unfold PT oC zW;rw[iF];by_cases q:y=0
  ·simp_all[j8]
  grind[j8]
 rw[e,wB hl,aDM];by_cases h3:z.length=3
 ·have n:((z.length:Int) == 3)=true:=by simp;omega
  have:aEJ z↔∀h∈z,j8 h:=⟨λa=>a.2,λa=>⟨h3,a⟩⟩;grind
 ·have n:((z.length:Int) == 3)=false:=by simp;omega
  simp_all[aEJ]
theorem aIO{O:Type}(l:List O)(f:O->Bool){body:Int->Option (Step Int (Out Unit Int))}(hb:∀k (hk:k<l.length),body (k:Int)=if f l[k] then some (.stop (.ret (k:Int))) else some (.next ((k+1:Nat):Int)))(he:body (l.length:Int)=some (.stop (.brk ()))) :
  ∃o,loop body 0=some o/\match o with|.brk _=>l.any f=false|.ret r=>0<=r/\l.any f=true:=by
 have key:=a8S (f:=body) l.length (λk=>(k:Int)) (λk=>if(l.drop k).any f then Out.ret ((k+(l.drop k).findIdx f:Nat):Int) else Out.brk ()) (λk hk=>by
  by_cases h:k<l.length
  ·have hd:l.drop k=l[k]::l.drop (k+1):=zF h;grind
  grind) 0 (j9 _)
 grind
theorem aFG{l:List eB}(hl:l.length<=maxLen)(f:eB->Bool):jI l (λx=>some (f x))=some (l.any f):=by
 obtain⟨o,e,h⟩:=aIO l f (body:=lU l (λx=>some (f x))) (λk hk=>by
  simp only[lU];rw[cY,aT hk,nQ (QT hk hl)];rfl) (by simp[lU])
 grind[jI,yG,DG,DF]
theorem aCL{l:List bT}(hl:l.length<=maxLen)(f:bT->Bool)(g:bT->Option Bool)(hg:∀x∈l,g x=some (f x)):i6 l g=some (l.any f):=by
 obtain⟨o,e,h⟩:=aIO l f (body:=lF l g) (λk hk=>by
  simp only[lF];rw[cY,aT hk,nQ (QT hk hl)];grind) (by simp[lF])
 grind[i6,vG,CJ,CI]
theorem aCM{l:List bJ}(hl:l.length<=maxLen)(f:bJ->Bool)(g:bJ->Option Bool)(hg:∀x∈l,g x=some (f x)):i5 l g=some (l.any f):=by
 obtain⟨o,e,h⟩:=aIO l f (body:=lE l g) (λk hk=>by
  simp only[lE];rw[cY,aT hk,nQ (QT hk hl)];grind) (by simp[lE])
 grind[i5,vF,CH,CG]
theorem contains_eq{l:List Int}(hl:l.length<=maxLen)(v:Int):jA l v=some (decide (v∈l)):=by
 obtain⟨o,e,h⟩:=aIO l (λx=>v == x) (body:=fL l v) (λk hk=>by
  simp only[fL];rw[cY,aT hk,nQ (QT hk hl)];rfl) (by simp[fL])
 have ha:l.any (λx=>v == x)=decide (v∈l):=by grind
 grind[jA,oN,CP,ON]
theorem aDQ{l:List bJ}{x:Int}:x∈fS l↔∃s∈l,x∈s.aV:=aKZ
section
variable {m:Mem} (hsh:fP m.Heap) (hl:(eG m.aC).length<=1073741824) (hg:m.aC.Global.length<=maxLen) (ho:m.aC.Own.length<=maxLen)
include hl hg ho
theorem aRU(s:Int):TN m.aC s=some (decide (s∈eG m.aC)):=by grind[maxLen,TN,aFF,yD]
theorem aCN(s:Int):MR m.aC s=some (decide (s∈eG m.aC)):=by
 have hb:(1073741824:Nat)<=maxLen:=by simp[maxLen]
 have hal:=xL m.aC;have e1:∀x∈m.aC.Global,rO x s=some (decide (s∈x.aV)):=λx hx=>by have:=NC hx;grind[rO,contains_eq]
 have e2:∀x∈m.aC.Own,rO x s=some (decide (s∈x.aV)):=λx hx=>by have:=NC hx;grind[rO,contains_eq]
 unfold MR H0;rw[aCM hg (λx=>decide (s∈x.aV)) _ e1,aCM ho (λx=>decide (s∈x.aV)) _ e2];have a1:(m.aC.Global.any λx=>decide (s∈x.aV))=decide (s∈fS m.aC.Global):=by rw[NL];simp[aDQ]
 have a2:(m.aC.Own.any λx=>decide (s∈x.aV))=decide (s∈fS m.aC.Own):=by rw[NL];simp[aDQ]
 grind[eG]
def dZ(m:Mem)(s:Int):Int:=if bI m.Heap s<0 then 0 else if s∈eG m.aC then 1 else if 6<j5 m.Heap s then 2 else 3
include hsh
theorem Z8(s:Int):IV m s=some (dZ m s):=by grind[IV,dZ,nD,aRU,rV]
theorem Z9(s:Int):H3 m s=some (dZ m s):=by grind[H3,dZ,jO,aCN,MF]
def mM(m:Mem)(h:Int):Prop:=kC h/\dZ m (h % 32)=3/\j5 m.Heap (h % 32)=h/32
instance (m:Mem) (h:Int):Decidable (mM m h):=by unfold mM;infer_instance
omit hl hg ho hsh in
theorem dU{m:Mem}{s:Int}(h:dZ m s=3):0<=bI m.Heap s:=by grind[dZ]
theorem qG(h:Int):rD m h=some (decide (mM m h)):=by
 unfold rD wV;rw[i4,gK];by_cases q:kC h
 ·have hm:=q.mod;rw[bY q,aL q];simp only[aE,bR,Z8 hsh hl hg ho];by_cases q2:dZ m (h % 32)=3
  ·have n:(dZ m (h % 32) == 3)=true:=by grind
   have eg:IW h=some (h/32):=by grind[IW,kC,i4,cA]
   rw[n,rV hsh (dU q2),eg];simp only[bR,aE];congr 1;rw[NL];simp only[beq_iff_eq,decide_eq_true_eq];exact⟨λa=>⟨q,q2,a⟩,λa=>a.2.2⟩
  grind[mM]
 grind[mM]
theorem uJ(h:Int):qR m h=some (decide (mM m h)):=by
 unfold qR zQ;rw[iF];by_cases q:kC h
 ·have hm:=q.mod;rw[bY q,hm.1];simp only[aE,bR,Z9 hsh hl hg ho];by_cases q2:dZ m (h % 32)=3
  ·have n:(dZ m (h % 32) == 3)=true:=by grind
   have eg:aY (Int.tdiv h 32)=h/32:=by grind[kC,cA]
   rw[n,MF hsh (dU q2),eg];simp only[bR,aE];congr 1;rw[NL];simp only[beq_iff_eq,decide_eq_true_eq];exact⟨λa=>⟨q,q2,a⟩,λa=>a.2.2⟩
  grind[mM]
 grind[mM]
end
def JU(b:aA)(r:eB):Prop:=mM b.Mem r.Handle/\r.aJ<=b.aD.aJ
instance (b:aA) (r:eB):Decidable (JU b r):=by unfold JU;infer_instance
def kD(b:aA):Prop:=(kR b.Mem/\NJ b.aD/\rZ b.aM/\aEJ b.lX)/\∀r∈cE b.aM,JU b r
instance (b:aA):Decidable (kD b):=by unfold kD;infer_instance
def YN(b:aA):Prop:=GD b.Mem/\b.aD.cG.length<=1048576/\b.aM.length<=1048576/\(cE b.aM).length<=1048576/\b.lX.length<=1048576
theorem YN.rows{b:aA}(h:YN b):∀s∈b.aM,s.Rows.length<=1048576:=λs hs=>by have:=aDO hs;have:=h.2.2.2.1;omega
section
variable {b:aA} (hf:b.Mem.Heap.Bytes.length<=maxLen/\(eG b.Mem.aC).length<=1073741824/\b.aD.cG.length<=maxLen/\b.aM.length<=maxLen/\(cE b.aM).length<=1073741824/\b.lX.length<=maxLen)
include hf
theorem aCO:MZ b=some (decide (kD b)):=by
 obtain⟨f1,f2,f3,f4,f5,f6⟩:=hf;unfold MZ tQ;rw[aUM f1 f2,jP,aNX f5 f4,aUN f6];by_cases q1:kR b.Mem
 ·by_cases q2:NJ b.aD
  ·by_cases q3:rZ b.aM
   ·by_cases q4:aEJ b.lX
    ·have hg:b.Mem.aC.Global.length<=maxLen:=by rw[q1.1.2.1];simp[maxLen]
     have ho:b.Mem.aC.Own.length<=maxLen:=by rw[q1.1.2.2.1];simp[maxLen]
     have hmx:(1073741824:Nat)<=maxLen:=by simp[maxLen]
     simp only[bY q1,bY q2,bY q3,bY q4,aE,iN,bN,bL];rw[R5 f5 f4];simp only[aE];have hst:∀k (hk:k<(cE b.aM).length),AF b (cE b.aM) (k:Int)=if JU b (cE b.aM)[k] then some (.next ((k+1:Nat):Int)) else some (.stop (Out.ret false)):=by
      intro k hk;simp only[AF,IX];rw[cY,aT hk,nQ (show k<maxLen by omega)];generalize (cE b.aM)[k]=r;simp only[aE,qG q1.1.1.1 f2 hg ho];by_cases a1:mM b.Mem r.Handle
      ·rw[bY a1];simp only[iN,bN,bL];by_cases a2:r.aJ<=b.aD.aJ
       ·rw[SU,aL ⟨a1,a2⟩]
       ·rw[cY,aP (λx=>a2 x.2)]
      ·rw[eF a1];simp only[KO,bR];rw[aP (λx=>a1 x.1)]
     have key:=mZ (f:=AF b (cE b.aM)) (cE b.aM) (λk=>(k:Int)) (JU b) (Out.brk ()) (Out.ret false) (λk hk hx=>by grind) (λk hk hx=>by grind) (by simp[AF]);rw[show((0:Nat):Int)=0 from rfl] at key;rw[key];by_cases q:∀r∈cE b.aM,JU b r
     ·rw[aL q,bY (show kD b from⟨⟨q1,q2,q3,q4⟩,q⟩)];rfl
     ·rw[aP q,eF (λx:kD b=>q x.2)];rfl
    grind[kD]
   grind[kD]
  grind[kD]
 grind[kD]
theorem R6:GN b=some (decide (kD b)):=by
 obtain⟨f1,f2,f3,f4,f5,f6⟩:=hf;unfold GN tI;rw[EC f1 f2,xM f3,FI f5,aUO f6];by_cases q1:kR b.Mem
 ·by_cases q2:NJ b.aD
  ·by_cases q3:rZ b.aM
   ·by_cases q4:aEJ b.lX
    ·have hg:b.Mem.aC.Global.length<=maxLen:=by rw[q1.1.2.1];simp[maxLen]
     have ho:b.Mem.aC.Own.length<=maxLen:=by rw[q1.1.2.2.1];simp[maxLen]
     have hmx:(1073741824:Nat)<=maxLen:=by simp[maxLen]
     simp only[bY q1,bY q2,bY q3,bY q4,aE,iN,bN,bL];have e1:(λy0=>E1 y0 b)=λr:eB=>some (!decide (JU b r)):=by funext r;unfold E1 vQ;rw[uJ q1.1.1.1 f2 hg ho];grind[JU]
     have e2:∀l∈b.aM,(λy0=>LZ y0 b) l=some (!decide (∀r∈l.Rows,JU b r)):=λl hl=>by have:=aDO hl;simp only[LZ];rw[e1,aFG (by omega),aDM];rfl
     rw[aCL f4 _ _ e2,aDM];have hiff:kD b↔∀l∈b.aM,∀r∈l.Rows,JU b r:=by
      constructor
      ·intro x l hl r hr;exact x.2 r (aKZ.2 ⟨l,hl,hr⟩)
      ·intro x;refine⟨⟨q1,q2,q3,q4⟩,λr hr=>?_⟩;obtain⟨l,hl,hr⟩:=aKZ.1 hr;grind
     grind
    grind[kD]
   grind[kD]
  grind[kD]
 grind[kD]
end
theorem YO{s:List aX}{p:aX->Bool}(hl:s.length<=4611686018427387904) :
  (∃j,∃h:j<s.length,(∀i (h:i<s.length),i<j->p s[i]=false)/\p s[j]=true/\dC s (λy=>some (p y))=some (j:Int))\/((∀i (h:i<s.length),p s[i]=false)/\dC s (λy=>some (p y))=some (-1)):=by
 rcases aCF (f:=pQ s (λy=>some (p y))) (p:=p) hl (λk=>by
  simp only[pQ];by_cases h:k<s.length
  ·rw[dif_pos h,cY,aT h,aE,aE,dM];rfl
  grind) s.length 0 (by omega) with ⟨j,h,_,h2,h3,h4⟩|⟨h1,h2⟩
 ·refine .inl ⟨j,h,λi hi a=>h2 i hi (j9 _) a,h3,?_⟩;unfold dC;rw[show(0:Int)=((0:Nat):Int) from rfl,h4];rfl
 ·refine .inr ⟨λi hi=>h1 i hi (j9 _),?_⟩;unfold dC;rw[show(0:Int)=((0:Nat):Int) from rfl,h2];rfl
theorem aLJ{s:List Seen}{p:Seen->Bool}(hl:s.length<=4611686018427387904) :
  (∃j,∃h:j<s.length,(∀i (h:i<s.length),i<j->p s[i]=false)/\p s[j]=true/\fH s (λy=>some (p y))=some (j:Int))\/((∀i (h:i<s.length),p s[i]=false)/\fH s (λy=>some (p y))=some (-1)):=by
 rcases aCF (f:=jJ s (λy=>some (p y))) (p:=p) hl (λk=>by
  simp only[jJ];by_cases h:k<s.length
  ·rw[dif_pos h,cY,aT h,aE,aE,dM];rfl
  grind) s.length 0 (by omega) with ⟨j,h,_,h2,h3,h4⟩|⟨h1,h2⟩
 ·refine .inl ⟨j,h,λi hi a=>h2 i hi (j9 _) a,h3,?_⟩;unfold fH;rw[show(0:Int)=((0:Nat):Int) from rfl,h4];rfl
 ·refine .inr ⟨λi hi=>h1 i hi (j9 _),?_⟩;unfold fH;rw[show(0:Int)=((0:Nat):Int) from rfl,h2];rfl
theorem aUP{s:List aX}{p:aX->Bool}(hl:s.length<=4611686018427387904):jZ s (λy=>some (p y))=some (s.filter λx=>!p x):=by
 unfold jZ;rcases YO (p:=p) hl with ⟨j,h,h1,h2,h3⟩|⟨h1,h3⟩
 ·have ne:¬(((j:Int) == -1)=true):=by simp
  rw[h3,aE,aP ne,dM];obtain⟨M,k,g1,g2,g3,g4⟩:=aOT (p:=p) (n:=s.length) (f:=kL (λy=>some (p y))) hl (λL i j h hn hi=>by
   simp only[kL];rw[cY,aT h,aE,aE];by_cases hp:p L[j]=true
   ·rw[aL hp,aP (by simp[hp])];grind[iQ,cA]
   ·rw[aP hp,aL (by grind),RY,aE];grind[iQ,cA]) (λL i j h=>by
   simp_all[kL]) (s.length-(j+1)) s j (j+1) (by omega) rfl (by omega)
  grind[zU,zT,b9,fI,aVF,a0L]
 ·rw[h3,aE,aL (by rfl),List.filter_eq_self.2];grind[aAS]
theorem a6S{O:Type}{q:O->Bool}:∀{s:List O} {j:Nat} (h:j<s.length),(∀i (h:i<s.length),i<j->q s[i]=true)->q s[j]=false->s.takeWhile q=s.take j/\s.dropWhile q=s.drop j
 |[],j,h,_,_=>by cases h
 |x::r,0,h,_,h2=>by simp_all
 |x::r,j + 1,h,h1,h2=>by have hx:q x=true:=h1 0 (Nat.zero_lt_succ _) (Nat.zero_lt_succ _);have:=a6S (s:=r) (j:=j) (by grind) (λi hi hj=>h1 (i+1) (by omega) (by omega)) h2;simp_all
theorem bMC{O:Type}{q:O->Bool}{s:List O}(h:∀i (h:i<s.length),q s[i]=true):s.takeWhile q=s/\s.dropWhile q=[]:=by
 have h':∀x∈s,q x=true:=λx hx=>by grind[aAS]
 clear h;induction s with
 |nil=>simp
 |cons x r ih=>
  simp_all
def O2(l:List aX)(x:aX):List aX:=
 (l.filter λy=>!(y.Key == x.Key)).takeWhile (λy=>!decide (x.Key<y.Key))++[x]++(l.filter λy=>!(y.Key == x.Key)).dropWhile (λy=>!decide (x.Key<y.Key))
theorem aKK{l:List aX}(hl:l.length<=1000)(x:aX):LU l x=some (O2 l x):=by
 unfold LU oY O2;rw[SW];simp only[aE,aK0];have hd:jZ l (λy0=>NR y0 x)=some (l.filter λy=>!(y.Key == x.Key)):=aUP (p:=λy=>y.Key == x.Key) (by omega);rw[hd,aE];have hlen:(l.filter λy=>!(y.Key == x.Key)).length<=1000:=qK (List.length_filter_le _ _) hl;generalize (l.filter λy=>!(y.Key == x.Key))=o at hlen ⊢;have hi:(∃j,∃h:j<o.length,(∀i (h:i<o.length),i<j->decide (x.Key<o[i].Key)=false)/\decide (x.Key<o[j].Key)=true/\dC o (λy0=>ET y0 x)=some (j:Int))\/((∀i (h:i<o.length),decide (x.Key<o[i].Key)=false)/\dC o (λy0=>ET y0 x)=some (-1)):=YO (p:=λy=>decide (x.Key<y.Key)) (by omega);rcases hi with ⟨j,h,h1,h2,h3⟩|⟨h1,h3⟩
 ·obtain⟨t1,t2⟩:=a6S (q:=λy:aX=>!decide (x.Key<y.Key)) h (λi hi a=>by grind) (by simp[h2]);rw[h3,aE,eD,t1,t2];grind[tD,sG,b9]
 ·obtain⟨t1,t2⟩:=bMC (s:=o) (q:=λy:aX=>!decide (x.Key<y.Key)) (λi hi=>by grind);rw[h3,aE,aL (by decide),t1,t2];grind[tD,sG,b9,List.drop_length]
def aNY(l:List aX)(k:Int):aX×Bool:=match l.find? (λy=>y.Key == k) with|some x=>(x,true)|none=>(⟨0,false,0⟩,false)
theorem aRV{O:Type}{p:O->Bool}{s:List O}{j:Nat}(h:j<s.length)(h1:∀i (h:i<s.length),i<j->p s[i]=false)(h2:p s[j]=true):s.find? p=some s[j]:=by grind[List.find?_eq_some_iff_getElem]
theorem a6T{O:Type}{p:O->Bool}{s:List O}(h1:∀i (h:i<s.length),p s[i]=false):s.find? p=none:=by grind[aAS]
theorem aNZ{l:List aX}(hl:l.length<=1000)(k:Int):PL l k=some (aNY l k):=by
 unfold PL aNY;have hi:(∃j,∃h:j<l.length,(∀i (h:i<l.length),i<j->(l[i].Key == k)=false)/\(l[j].Key == k)=true/\dC l (λy0=>IB y0 k)=some (j:Int))\/((∀i (h:i<l.length),(l[i].Key == k)=false)/\dC l (λy0=>IB y0 k)=some (-1)):=YO (p:=λy=>y.Key == k) (by omega);rcases hi with ⟨j,h,h1,h2,h3⟩|⟨h1,h3⟩
 ·rw[h3,aE,eD,aT h,aRV (p:=λy:aX=>y.Key == k) h h1 h2];rfl
 simp_all[a6T]
def KM(l:List Seen)(b v:Int):List Seen×Bool:=match l.find? (λy=>y.cQ == b) with|some x=>(l,x.jS == v)|none=>(l++[⟨b,v⟩],true)
theorem aN0{l:List Seen}(hl:l.length<=1000)(b v:Int):PM l b v=some (KM l b v):=by
 unfold PM qY KM;rw[SW];simp only[aE,aK0];have hi:(∃j,∃h:j<l.length,(∀i (h:i<l.length),i<j->(l[i].cQ == b)=false)/\(l[j].cQ == b)=true/\fH l (λy0=>IH y0 b)=some (j:Int))\/((∀i (h:i<l.length),(l[i].cQ == b)=false)/\fH l (λy0=>IH y0 b)=some (-1)):=aLJ (p:=λy=>y.cQ == b) (by omega);rcases hi with ⟨j,h,h1,h2,h3⟩|⟨h1,h3⟩
 ·rw[h3,aE,eD,aT h,aRV (p:=λy:Seen=>y.cQ == b) h h1 h2];rfl
 ·rw[h3,aE,aL (by decide),SW,a6T (p:=λy:Seen=>y.cQ == b) h1]
def eK(l:List aX)(n:Int):Int:=(((l.take n.toNat).filter λx=>!x.KR).length:Int)
theorem a3R(l:List aX)(n:Int):(l.take ((if(if(l.length:Int)<n then(l.length:Int) else n)<0 then 0 else(if(l.length:Int)<n then(l.length:Int) else n)).toNat)).drop 0=l.take n.toNat:=by
 (simp_all;omega)
theorem YP{l:List aX}(hl:l.length<=1000)(n:Int):QJ l n=some (eK l n):=by
 unfold QJ eK;rw[J5];have hc:=a3R l n;obtain⟨s,hs⟩:∃s,s=l.take n.toNat:=⟨_,rfl⟩;have hsl:s.length<=1000:=by grind
 rw[show((0:Int),(0:Int))=((((s.take 0).filter λx=>!x.KR).length:Int),((0:Nat):Int)) from rfl,
  dW s.length (λk=>((((s.take k).filter λx=>!x.KR).length:Int),(k:Int))) (((s.filter λx=>!x.KR).length:Nat):Int) (λk hk=>by
   have ht:s.take (k+1)=s.take k++[s[k]]:=QN hk;have hle:((s.take k).filter λx=>!x.KR).length<=1000:=qK (List.length_filter_le _ _) (by grind);simp only[XS,hc,<-hs];rw[cY,aT hk,aE,ht,List.filter_append];cases hd:s[k].KR
   ·rw[aL (by rfl),dM];simp only[II];rw[dM];simp[hd]
   ·rw[eD];grind[II,cA]) (by
   simp only[XS,hc,<-hs];simp)]
 rw[hs];rfl
def pJ(k:Int):Int:=if 0<=k/\k<=99 then k % 2 else -1
theorem U9(k:Int):KU k=some (pJ k):=by unfold KU pJ;rw[dD,aE];grind
def sC(l:List aX):List Int:=(if l.any (λx=>x.Key % 2 == 0) then [0] else [])++(if l.any (λx=>x.Key % 2 == 1) then [1] else [])
theorem a3S{l:List Int}(hs:l.Pairwise (· < ·))(hm:∀x∈l,x=0\/x=1):l=(if 0∈l then [0] else [])++(if 1∈l then [1] else []):=by
 match l,hs,hm with
 |[],_,_=>rfl
 |[x],_,hm=>rcases hm x (by simp) with rfl|rfl<;>rfl
 |[x,y],hs,hm=>
  have hxy:x<y:=by grind
  rcases hm x (by simp) with rfl|rfl<;>rcases hm y (by simp) with rfl|rfl<;>first|omega|rfl
 |x::y::z::r,hs,hm=>
  (simp_all;omega)
theorem aN1{l:List aX}(hl:l.length<=12)(hk:∀x∈l,0<=x.Key/\x.Key<=99):PN l=some (sC l):=by
 unfold PN;rw[show(([]:List Int),(0:Int))=((l.take 0).map (λx=>x.Key % 2),((0:Nat):Int)) from rfl,
  dW l.length (λk=>((l.take k).map (λx=>x.Key % 2),(k:Int))) (l.map λx=>x.Key % 2) (λk hlt=>by
   have ht:l.take (k+1)=l.take k++[l[k]]:=QN hlt;have hkk:=hk l[k] (cZ hlt);simp only[NU];rw[cY,aT hlt,aE,U9,aE];unfold pJ;rw[aL hkk,cY,SW,ht,qI];grind[EV,cA]) (by
   simp[NU]),aE]
 simp only[ZO,NT];obtain⟨y,h1,h2,h3⟩:=a0P (x:=l.map λx=>x.Key % 2) (by grind) (by grind[aRK]);rw[h1,aE];obtain⟨c1,c2⟩:=aLH h3;have hmem:∀a,a∈FQ y↔∃x∈l,x.Key % 2=a:=λa=>by grind
 have h01:∀a∈FQ y,a=0\/a=1:=λa ha=>by grind
 show some (FQ y)=_;rw[a3S c1 h01];grind[sC]
theorem aX7(l:List aX):(sC l).length<=2:=by grind[sC]
theorem aCP{l:List aX}{b:Int}(h:b∈sC l):b=0\/b=1:=by grind[sC]
theorem aRW{O:Type}{f:(List O×Int)->Option (Step (List O×Int) (List O))}(l:List O)
  (h:∀k (hk:k<l.length),f (l.take k,(k:Int))=some (.next (l.take k++[l[k]],((k+1:Nat):Int)))) (he:f (l,(l.length:Int))=some (.stop l)):loop f ([],0)=some l:=by
 have:=dW (f:=f) l.length (λk=>(l.take k,(k:Int))) l (λk hk=>by simp_all) (by grind);grind
theorem aDR{O:Type}{f:(Int×List O)->Option (Step (Int×List O) (List O))}(l:List O)
  (h:∀k (hk:k<l.length),f ((k:Int),l.take k)=some (.next (((k+1:Nat):Int),l.take k++[l[k]]))) (he:f ((l.length:Int),l)=some (.stop l)):loop f (0,[])=some l:=by
 have:=dW (f:=f) l.length (λk=>((k:Int),l.take k)) l (λk hk=>by simp_all) (by grind);grind
theorem LB{l:List Int}(h:l.length<=1073741824):oD l=some l:=by grind[oD,b9]
theorem rI{l:List Int}(h:l.length<=1073741824):eW l=some l:=by grind[eW,b9]
theorem aX8{l:List yN}(h:l.length<=1073741824):BD l=some l:=by grind[BD,b9]
theorem aUQ{l:List eB}(h:l.length<=1073741824):yQ l=some l:=by grind[yQ,b9]
theorem VA{l:aC}(h1:l.Global.length<=1048576)(h2:l.Own.length<=1048576)(h3:∀s∈l.Global,s.aV.length<=1048576)(h4:∀s∈l.Own,s.aV.length<=1048576):jH l=some l:=by
 unfold jH;rw[aDR l.Global]
 ·simp only[aE,TG,TF];rw[aDR l.Own]
  ·rfl
  ·intro k hk;have:=h4 _ (cZ hk);simp only[HR];rw[cY,aT hk];simp only[aE];rw[rI (by omega),aE,SW,HQ,dM];rfl
  grind[HR]
 ·intro k hk;have:=h3 _ (cZ hk);simp only[HU];rw[cY,aT hk];simp only[aE];rw[rI (by omega),aE,SW,HT,dM];rfl
 grind[HU]
theorem YQ{h:Heap}(h1:h.Bytes.length<=1048576)(h2:h.Class.length<=1048576):xT h=some h:=by unfold xT;rw[rI (by omega),rI (by omega)];rfl
theorem T9{m:Mem}(h:GD m):rA m=some m:=by have a:=YQ h.1 h.2.1;have b:=VA h.2.2.1 h.2.2.2.1 h.aVK.1 h.aVK.2;simp_all[rA]
theorem oG{c:aD}(h:c.cG.length<=1048576):BY c=some c:=by unfold BY;rw[SW];rfl
theorem ED{c:aD}(h:c.cG.length<=1048576):l9 c=some c:=by unfold l9;rw[aX8 (by omega)];rfl
theorem VB{l:List bT}(hl:l.length<=1048576)(hs:∀s∈l,s.Rows.length<=1048576):l6 l=some l:=by
 unfold l6;rw[aRW l]
 ·rfl
 ·intro k hk;have:=hs _ (cZ hk);simp only[H5];rw[cY,aT hk];simp only[aE];rw[aUQ (by omega),aE,SW,dM];rfl
 grind[H5]
theorem aX9{b:aA}(h:YN b):LW b=some b:=by have m:=T9 h.1;have c:=ED h.2.1;have l:=VB h.2.2.1 h.rows;have:=h.2.2.2.2;unfold LW;rw[m,c,l,rI (by omega)];rfl
theorem oH(w:Int):iD w=some (decide (0<=w/\w<=2)):=by grind[iD,dD]
section
variable {c:aD} (hc:NJ c) {w:Int} (hw:0<=w/\w<=2)
include hc
theorem NJ.small:c.cG.length<=1048576/\c.cG.length<=maxLen:=by have:=hc.2.1;grind[maxLen]
theorem NJ.aYA{k:Nat}{p:yN}(hp:POk c.aJ p):NJ ⟨c.aJ,c.cG.set k p⟩:=⟨hc.1,by simpa using hc.2.1,λq hq=>(rX hq).elim (hc.2.2 q) (λe=>e ▸ hp)⟩
theorem NJ.later(h:c.aJ+1<=100000):NJ ⟨c.aJ+1,c.cG⟩:=by
 have h1:=hc.1;exact⟨⟨by grind,h⟩,hc.2.1,λq hq=>by
  obtain⟨a,b,d⟩:=hc.2.2 q hq;exact⟨⟨a.1,by grind⟩,b,d⟩⟩
include hw
theorem a3T:∃p,idx c.cG w=some p/\POk c.aJ p:=by have h3:=hc.2.1;rw[iC hw.1 (by omega)];exact⟨_,rfl,hc.2.2 _ (cZ _)⟩
theorem a8X(e:Int):∃r,M4 c w e=some r/\TL c w e=some r/\NJ r.1/\r.1.aJ=c.aJ:=by
 obtain⟨p,hp,h1,⟨hs0,hs1⟩,h2⟩:=a3T hc hw;have h3:=hc.2.1;unfold M4 TL;rw[oG hc.small.1,ED hc.small.1,jP,xM hc.small.2,oH,cN,bY hc,bY hw];simp only[aE,iN,bN,bL,JE,H7,hp];cases h4:p.On
 ·exact⟨_,rfl,rfl,hc,rfl⟩
 ·cases h5:p.gG
  ·by_cases h6:p.aJ=e
   ·simp_all[uA,tC]
   ·have h6':(p.aJ == e)=false:=by grind
    simp only[uA,tC,h6',iN,bN,bL,hp,aE];by_cases h7:p.Seen=2
    ·simp only[h7,beq_self_eq_true,bR,show ¬((2:Int)<2) by omega,decide_false,bN,bL];exact⟨_,rfl,rfl,hc.aYA ⟨h1,by simp,λq=>by grind⟩,rfl⟩
    ·have h7':(p.Seen == 2)=false:=by grind
     simp only[h7',show p.Seen<2 by omega,decide_true,bR,bN,bL];have hw7:aY (p.Seen+1)=p.Seen+1:=dM;exact⟨_,rfl,rfl,hc.aYA ⟨h1,by grind,λq=>by grind⟩,rfl⟩
  ·exact⟨_,rfl,rfl,hc,rfl⟩
theorem bDG(e:Int):∃r,RR c w e=some r/\XR c w e=some r/\(NJ r.1/\r.1.aJ=c.aJ)/\(r.2=false->r.1=c):=by
 obtain⟨p,hp,hpk⟩:=a3T hc hw;have h3:=hc.2.1;unfold RR XR;rw[oG hc.small.1,ED hc.small.1,jP,xM hc.small.2,oH,cN,cN,dD,bY hc,bY hw];simp only[aE,iN,bN,bL,D4,DH,hp];by_cases h:0<=e/\e<=c.aJ
 ·simp only[bY h,iN,bN,bL];exact⟨_,rfl,rfl,⟨hc.aYA ⟨h,by simp,λq=>by cases q⟩,rfl⟩,λq=>by cases q⟩
 simp_all[eF]
omit hw in
theorem bHT(e:Int):∃r,WK c e=some r/\aDK c e=some r/\NJ r.1/\c.aJ<=r.1.aJ:=by
 have h3:=hc.2.1;unfold WK aDK;rw[oG hc.small.1,ED hc.small.1,jP,xM hc.small.2,bY hc];simp only[aE,iN,bN,bL,JF,H8];by_cases h:c.aJ=e
 ·subst h;simp only[bne_self_eq_false,bN,bL];by_cases h:c.aJ=100000
  ·simp_all
  ·have h':(c.aJ == 100000)=false:=by grind
   have hE:=hc.1;have hw7:aY (c.aJ+1)=c.aJ+1:=dM;simp only[h',bN,bL,hw7];exact⟨_,rfl,rfl,hc.later (by omega),by grind⟩
 simp_all
end
theorem bMD{b:aA}(hc:NJ b.aD){w:Int}(hw:0<=w/\w<=2)(s:Sub) :
  ∃x y,M5 b w s=some (x,y)/\BF s b w=some (y,x)/\∃cl,x=⟨b.Mem,cl,b.aM,b.lX⟩/\NJ cl/\b.aD.aJ<=cl.aJ:=by
 obtain⟨r,e1,e2,h3,h4⟩:=bDG hc hw s.E;unfold M5 BF;rw[e1,e2];simp only[bV,bO,CQ,aE];by_cases p0:s.Pc=0
 ·simp only[p0,beq_self_eq_true,bR];exact⟨_,_,rfl,rfl,_,rfl,hc,by omega⟩
 ·have p0':(s.Pc == 0)=false:=by grind
  simp only[p0',bN,bL];by_cases p1:s.Pc=1
  ·simp only[p1,beq_self_eq_true,bR];cases h:r.2
   ·rw[h4 h];exact⟨_,_,rfl,rfl,_,rfl,hc,by omega⟩
   ·exact⟨_,_,rfl,rfl,_,rfl,h3.1,by omega⟩
  ·have p1':(s.Pc == 1)=false:=by grind
   simp only[p1',bN,bL];by_cases p2:s.Pc=2
   ·simp only[p2,beq_self_eq_true,bR];by_cases q:b.aD.aJ=s.E
    ·simp only[q,beq_self_eq_true,bR];exact⟨_,_,rfl,rfl,_,rfl,hc,by omega⟩
    ·have q':(b.aD.aJ == s.E)=false:=by grind
     simp only[q',bN,bL];exact⟨_,_,rfl,rfl,_,rfl,hc,by omega⟩
   ·have p2':(s.Pc == 2)=false:=by grind
    simp only[p2',bN,bL];exact⟨_,_,rfl,rfl,_,rfl,hc,by omega⟩
theorem a3U{b:aA}(hc:NJ b.aD)(s:Sub) :
  ∃x y,xH b s=some (x,y)/\qU s b=some (y,x)/\∃cl,x=⟨b.Mem,cl,b.aM,b.lX⟩/\NJ cl/\b.aD.aJ<=cl.aJ:=by
 obtain⟨r2,e3,e4,h4⟩:=bHT hc s.E;unfold xH qU mV;rw[e3,e4,cN,oH];simp only[bV,bO,vX,vY,mU,aE];by_cases p0:s.Pc=0
 ·simp only[p0,beq_self_eq_true,bR];exact⟨_,_,rfl,rfl,_,rfl,hc,by omega⟩
 ·have p0':(s.Pc == 0)=false:=by grind
  simp only[p0',bN,bL];by_cases p1:s.Pc=1
  ·simp only[p1,beq_self_eq_true,bR,show((1:Int) == 2)=false from rfl,bN,bL];by_cases hB:0<=s.B/\s.B<=2
   ·obtain⟨r,e1,e2,h3,h3'⟩:=a8X hc hB s.E;simp only[bY hB,iN,bN,bL,bR,e1,e2,aE];cases h:r.2
    ·exact⟨_,_,rfl,rfl,_,rfl,h3,by omega⟩
    ·by_cases q:aY (s.B+1)=3
     ·simp only[q,beq_self_eq_true,bR,iN,bN,bL];exact⟨_,_,rfl,rfl,_,rfl,h3,by omega⟩
     ·have q':(aY (s.B+1) == 3)=false:=by grind
      simp only[q',iN,bN,bL];exact⟨_,_,rfl,rfl,_,rfl,h3,by omega⟩
   ·simp only[eF hB,KO,bN,bL,bR];exact⟨_,_,rfl,rfl,_,rfl,hc,by omega⟩
  ·have p1':(s.Pc == 1)=false:=by grind
   simp only[p1',bN,bL];by_cases p2:s.Pc=2
   ·simp only[p2,beq_self_eq_true,bR];cases h:r2.2
    ·simp only[bN,bL];exact⟨_,_,rfl,rfl,_,rfl,h4⟩
    ·simp only[bR];exact⟨_,_,rfl,rfl,_,rfl,h4⟩
   ·have p2':(s.Pc == 2)=false:=by grind
    simp only[p2',bN,bL];exact⟨_,_,rfl,rfl,_,rfl,hc,by omega⟩
theorem a3V:∀(n:Nat) (l:List Int),l.Nodup->(∀x∈l,0<=x/\x<(n:Int))->l.length<=n
 |0,l,_,h=>by
  cases l with
  |nil=>simp
  |cons a t=>(simp_all;omega)
 |n + 1,l,hn,h=>by
  have ih:=a3V n (l.erase (n:Int)) (hn.erase _) (λx hx=>by
   grind)
  grind
theorem QL{l:List bT}{k:Nat}(hk:k<l.length)(x:bT):cE (l.set k x)=cE (l.take k)++(x.Rows++cE (l.drop (k+1))):=by simp_all[List.set_eq_take_append_cons_drop,cE]
theorem ND{l:List bT}{k:Nat}(hk:k<l.length):cE l=cE (l.take k)++(l[k].Rows++cE (l.drop (k+1))):=by grind[aUX,QL]
theorem LC{l:List bJ}{k:Nat}(hk:k<l.length)(x:bJ):fS (l.set k x)=fS (l.take k)++(x.aV++fS (l.drop (k+1))):=by simp_all[List.set_eq_take_append_cons_drop,fS]
theorem GW{l:List bJ}{k:Nat}(hk:k<l.length):fS l=fS (l.take k)++(l[k].aV++fS (l.drop (k+1))):=by grind[aUX,LC]
def bD(l:List bT)(s:Int):Prop:=∃r∈cE l,kC r.Handle/\r.Handle % 32=s
instance (l:List bT) (s:Int):Decidable (bD l s):=by unfold bD;infer_instance
section
variable {l:List bT} (hl:rZ l)
include hl
theorem rZ.small:(cE l).length<=1073741824/\l.length<=maxLen/\l.length<=1048576/\∀s∈l,s.Rows.length<=24:=by have:=hl.1;have h2:=hl.2.1;refine⟨by omega,by grind[maxLen],by omega,λs hs=>?_⟩;have:=aDO hs;omega
theorem FJ(s:Int):BQ l s=some (decide (bD l s)):=by
 have hm:=hl.small;unfold BQ;rw[R5 hm.1 hm.2.1,aE];have key:=mZ (f:=qE s (cE l)) (cE l) (λk=>(k:Int)) (λr=>¬(kC r.Handle/\r.Handle % 32=s)) (Out.brk ()) (Out.ret true)
  (λk hk hp=>by
   have hk':=hl.2.1;simp only[qE,xD];rw[cY,aT hk,nQ (show k<maxLen by grind[maxLen])];grind[i4,gK])
  (λk hk hp=>by
   simp_all[qE,xD,aT,i4,gK])
  (by simp[qE])
 have key':loop (qE s (cE l)) 0=_:=key;rw[key'];by_cases q:bD l s
 ·rw[aP (λa=>by obtain⟨r,hr,e⟩:=q;grind),bY q];rfl
 ·rw[aL (λr hr e=>q ⟨r,hr,e⟩),eF q];rfl
theorem FK(s:Int):vH l s=some (decide (bD l s)):=by
 have hm:=hl.small;unfold vH;have e1:∀(r:eB),sY r s=some (decide (kC r.Handle/\r.Handle % 32=s)):=by
  intro r;unfold sY sD;rw[iF];by_cases q:kC r.Handle
  ·rw[q.mod.1];grind
  ·simp[q]
 have e2:∀x∈l,H4 x s=some (x.Rows.any λr=>decide (kC r.Handle/\r.Handle % 32=s)):=by
  intro x hx;unfold H4;have:x.Rows.length<=maxLen:=by grind[maxLen]
  rw[show(λy0=>sY y0 s)=λr=>some (decide (kC r.Handle/\r.Handle % 32=s)) from funext e1,aFG this];rfl
 rw[aCL hm.2.1 (λx=>x.Rows.any λr=>decide (kC r.Handle/\r.Handle % 32=s)) _ e2];simp only[aE];congr 1;rw[NL,decide_eq_true_iff];simp only[List.any_eq_true,decide_eq_true_eq,bD,cE,aKZ];grind
theorem rZ.more{k:Nat}(hk:k<l.length){r:eB}(hr:GV r)(hn:¬bD l (r.Handle % 32)):rZ (l.set k ⟨l[k].Rows++[r]⟩):=by
 have e:=QL hk (⟨l[k].Rows++[r]⟩:bT);have p:(cE (l.set k ⟨l[k].Rows++[r]⟩)).Perm (r::cE l):=by grind[ND]
 have h1:∀x∈cE (l.set k ⟨l[k].Rows++[r]⟩),GV x:=λx hx=>by
  rcases lW.1 (p.mem_iff.1 hx) with rfl|h
  ·exact hr
  ·exact hl.2.2.1 x h
 have h2:((cE (l.set k ⟨l[k].Rows++[r]⟩)).map pB).Nodup:=by refine(List.Perm.nodup_iff (p.map pB)).2 ?_;rw[OK,aK2];refine⟨λh=>hn ?_,hl.2.2.2⟩;obtain⟨x,hx,e⟩:=VN.1 h;exact⟨x,hx,(hl.2.2.1 x hx).1,e⟩
 refine⟨by simpa using hl.1,?_,h1,h2⟩;have:=a3V 24 _ h2 (λx hx=>by
  obtain⟨y,hy,rfl⟩:=VN.1 hx;have:=(h1 y hy).1.mod;grind[pB])
 grind
end
theorem a8Y{b:aA}(hb:kD b)(hs:YN b){w:Int}(hw:0<=w/\w<=2)(s:Sub) :
  ∃x y,AO b w s=some (x,y)/\sE s b w=some (y,x)/\∃L,x=⟨b.Mem,b.aD,L,b.lX⟩/\rZ L/\∀r∈cE L,JU b r:=by
 have hL:=hb.1.2.2.1;have hm:=hb.1.1;have hlen:w.toNat<b.aM.length:=by have:=hL.1;omega
 have hx:idx b.aM w=some b.aM[w.toNat]:=iC hw.1 (by omega);have hg:b.Mem.aC.Global.length<=maxLen:=by rw[hm.1.2.1];simp[maxLen]
 have ho:b.Mem.aC.Own.length<=maxLen:=by rw[hm.1.2.2.1];simp[maxLen]
 have hall:(eG b.Mem.aC).length<=1073741824:=by have:=hs.1.2.2.2.2;omega
 have hrow:=hL.small.2.2.2 _ (cZ hlen);have he:=hb.1.2.1.1;unfold AO sE nT;rw[cN,dD,qG hm.1.1.1 hall hg ho,uJ hm.1.1.1 hall hg ho,gK];simp only[bV,bO,aE,y6,JD,nS];by_cases p0:s.Pc=0
 ·simp only[p0,beq_self_eq_true,bR];exact⟨_,_,rfl,rfl,_,rfl,hL,hb.2⟩
 ·have p0' : (s.Pc == 0) = false:=by grind
  simp only[p0',bN,bL];by_cases p1:s.Pc=1
  ·simp only[p1,beq_self_eq_true,bne_self_eq_false,bN,bL,bR];by_cases q1:0<=s.E/\s.E<=b.aD.aJ
   ·simp only[bY q1,iN,bN,bL];by_cases q2:mM b.Mem s.A
    ·have hh:=q2.1;simp only[bY q2,iN,bN,bL,aL hh,hh.mod.1,FJ hL,FK hL,aE];by_cases q3:bD b.aM (s.A % 32)
     ·simp only[bY q3,bR];exact⟨_,_,rfl,rfl,_,rfl,hL,hb.2⟩
     ·have hmore:=hL.more hlen (r:=⟨s.A,s.E⟩) ⟨hh,q1.1,by grind⟩ q3;have e:LS b.aM w s.A s.E=some (b.aM.set w.toNat ⟨b.aM[w.toNat].Rows++[⟨s.A,s.E⟩]⟩,true):=by unfold LS BC;rw[FI hL.small.1,oH,VB hL.small.2.2.1 (λs h=>by have:=hL.small.2.2.2 s h;omega)];simp only[bY hL,bY hw,aE,iN,bN,bL,hx];rw[SW,FI hmore.small.1,bY hmore];rfl
      simp only[eF q3,bN,bL,hx,e,aE];rw[SW];refine⟨_,_,rfl,rfl,_,rfl,hmore,λr hr=>?_⟩;rw[QL hlen] at hr;have hsp:=ND hlen;rcases eS.1 hr with h|h
      ·exact hb.2 r (by grind)
      ·rcases eS.1 h with h|h
       ·rcases eS.1 h with h|h
        ·exact hb.2 r (by grind)
        ·simp at h;subst h;exact⟨q2,q1.2⟩
       ·exact hb.2 r (by grind)
    ·simp only[eF q2,KO,bR];exact⟨_,_,rfl,rfl,_,rfl,hL,hb.2⟩
   ·simp only[eF q1,KO,bR];exact⟨_,_,rfl,rfl,_,rfl,hL,hb.2⟩
  ·have p1':(s.Pc == 1)=false:=by grind
   have p1'':(s.Pc != 1)=true:=by grind
   simp only[p1',p1'',bN,bL,bR];exact⟨_,_,rfl,rfl,_,rfl,hL,hb.2⟩
def st4(b:List Int)(a:Nat)(n:Int):List Int:=(((b.set a 0).set (a+1) 0).set (a+2) 0).set (a+3) n
theorem JV(b:List Int)(a:Nat)(n:Int):(st4 b a n).length=b.length:=by simp[st4]
theorem a0T{b:List Int}(h:uH b)(a:Nat){n:Int}(hn:0<=n/\n<=255):uH (st4 b a n):=by
 have key:∀{l:List Int} (i:Nat) (v:Int),uH l->0<=v/\v<=255->uH (l.set i v):=λi v hl hv x hx=>by
  rcases rX hx with h|rfl
  ·exact hl x h
  ·exact hv
 exact key _ _ (key _ _ (key _ _ (key _ _ h (by omega)) (by omega)) (by omega)) hn
theorem bDH{n:Int}(hn:0<=n/\n<=255):((u8 n).toNat:Int)=n:=by grind[u8,UInt8.toNat_ofNat']
theorem a0U{l:List Int}(i:Nat){v:Int}(hl:uH l)(hv:0<=v/\v<=255):uH (l.set i v):=λx hx=>by
 rcases rX hx with h|rfl
 ·exact hl x h
 ·exact hv
def VC(b:List Int)(a:Nat)(n:Int):List Int:=(((b.set a (n/16777216)).set (a+1) (n/65536 % 256)).set (a+2) (n/256 % 256)).set (a+3) (n % 256)
theorem aIP(b:List Int)(a:Nat)(n:Int):(VC b a n).length=b.length:=by simp[VC]
theorem a8Z{b:List Int}(h:uH b)(a:Nat){n:Int}(hn:0<=n/\n<=4294967295):uH (VC b a n):=by grind[VC,a0U]
theorem a80(b:List Int)(a:Nat)(x y z u:Int):(((b.set (a+3) u).set (a+2) z).set (a+1) y).set a x=(((b.set a x).set (a+1) y).set (a+2) z).set (a+3) u:=by refine List.ext_getElem (by simp) λj h1 h2=>?_;grind
theorem a81{b:List Int}{a:Nat}(h:a+4<=b.length)(hl:b.length<=100000){n:Int}(hn:0<=n/\n<=4294967295):JA b (a:Int) 4 n=some (VC b a n):=by
 have st:∀(c:List Int) (m:Int) (i:Nat),c.length=b.length->0<=m->m<=4294967295->i<4->FD (a:Int) (c,m,(i:Int))=some (.next (c.set (a+i) (m % 256),m/256,(i:Int)-1)):=λc m i hc h0 h1 hi=>by simp only[FD];rw[aL (by simp),dM (x:=(a:Int)+i),show(a:Int)+i=((a+i:Nat):Int) by omega,RY,aE,NB h0,a0K h0,dM (x:=m/256),dM (x:=(i:Int)-1),NM]
 unfold JA;rw[show aY (4-1)=((3:Nat):Int) from by grind[cA]];rw[bP (st b n 3 rfl hn.1 hn.2 (by omega)),show((3:Nat):Int)-1=((2:Nat):Int) by rfl,
  bP (st _ _ 2 (by simp) (by omega) (by omega) (by omega)),show((2:Nat):Int)-1=((1:Nat):Int) by rfl,
  bP (st _ _ 1 (by simp) (by omega) (by omega) (by omega)),show((1:Nat):Int)-1=((0:Nat):Int) by rfl,
  bP (st _ _ 0 (by simp) (by omega) (by omega) (by omega)),bB (r:=VC b a n)]
 ·rfl
 ·simp only[FD];rw[eD];have e1:n/256/256=n/65536:=by omega
  have e2:n/256/256/256=n/16777216:=by omega
  have e3:n/16777216 % 256=n/16777216:=by omega
  simp_all[VC,a80]
def pM(n:Int):List UInt8:=[u8 (n/16777216),u8 (n/65536),u8 (n/256),u8 n]
theorem YR{n:Int}(hn:0<=n/\n<=4294967295):m8 n 4=some (pM n):=by
 have hw:A8 4=some true:=by grind[A8,dD]
 unfold m8;rw[hw];have e1:IntKind.u64.wrap (aY (8*4))=32:=by decide
 have e2:aPD .i64 1 32=4294967296:=by decide
 simp only[aE,iN,bN,bL,e1,e2];rw[SU,J5,eF (by omega)];simp only[xS,bN,bL];rw[J5,show aY (4-1)=((3:Nat):Int) from by grind[cA]];have st:∀(m:Int) (c:List UInt8) (i:Nat),i<c.length->i<4->0<=m->rN (m,c,(i:Int))=some (.next (m/256,c.set i (u8 m),(i:Int)-1)):=λm c i hc hi h0=>by simp only[rN];rw[aL (by simp),aT hc,aE,show(8:Int)=((8:Nat):Int) from rfl,a6O h0 (by omega),dM,NM];rfl
 rw[bP (st n _ 3 (by simp) (by omega) hn.1),show((3:Nat):Int)-1=((2:Nat):Int) by rfl,
  bP (st _ _ 2 (by simp) (by omega) (by omega)),show((2:Nat):Int)-1=((1:Nat):Int) by rfl,
  bP (st _ _ 1 (by simp) (by omega) (by omega)),show((1:Nat):Int)-1=((0:Nat):Int) by rfl,
  bP (st _ _ 0 (by simp) (by omega) (by omega)),bB (r:=pM n)]
 ·rfl
 ·simp only[rN];rw[eD];have e1:n/256/256=n/65536:=by omega
  rw[e1,show n/65536/256=n/16777216 by omega];rfl
theorem aYB{n:Int}(hn:0<=n):((u8 n).toNat:Int)=n % 256:=by
 have:u8 n=u8 (n % 256):=by grind[u8]
 grind[bDH]
theorem a3W{b:List Int}{a:Nat}(h:a+4<=b.length)(hl:b.length<=100000){n:Int}(hn:0<=n/\n<=4294967295):oB b (a:Int) (pM n)=some (VC b a n):=by
 have st:∀(c:List Int) (i:Nat) (v:UInt8),c.length=b.length->i<4->idx (pM n) (i:Int)=some v->l5 b (a:Int) (pM n) (c,(i:Int))=some (.next (c.set (a+i) (v.toNat:Int),((i+1:Nat):Int))):=λc i v hc hi hv=>by simp only[l5];rw[b9 hc,aL (by grind[pM]),hv,aE,dM (x:=(a:Int)+i),show(a:Int)+i=((a+i:Nat):Int) by omega,RY,aE,dM,NM];rfl
 unfold oB;rw[show(0:Int)=((0:Nat):Int) from rfl,bP (st b 0 _ rfl (by omega) rfl),bP (st _ 1 _ (by simp) (by omega) rfl),bP (st _ 2 _ (by simp) (by omega) rfl),bP (st _ 3 _ (by simp) (by omega) rfl),bB (r:=VC b a n)]
 ·grind[Q1,Q0,b9,aIP]
 ·simp only[l5];rw[b9 (by simp),aP (by simp[pM])];simp only[aYB hn.1,aYB (show 0<=n/16777216 by omega),aYB (show 0<=n/65536 by omega),aYB (show 0<=n/256 by omega)];rw[show n/16777216 % 256=n/16777216 by omega];rfl
theorem bDI{b:List Int}{a:Nat}{n:Int}(hn:0<=n/\n<=255):VC b a n=st4 b a n:=by grind[VC,st4]
theorem N9{b:List Int}{a:Nat}(h:a+4<=b.length)(hl:b.length<=100000){n:Int}(hn:0<=n/\n<=255):JA b (a:Int) 4 n=some (st4 b a n):=by grind[a81,bDI]
theorem bOV{n:Int}(hn:0<=n/\n<=255):pM n=[0,0,0,u8 n]:=by unfold pM;rw[show n/16777216=0 by omega,show n/65536=0 by omega,show n/256=0 by omega];rfl
theorem aFH{n:Int}(hn:0<=n/\n<=255):m8 n 4=some [0,0,0,u8 n]:=by grind[YR,bOV]
theorem aCQ{b:List Int}{a:Nat}(h:a+4<=b.length)(hl:b.length<=100000){n:Int}(hn:0<=n/\n<=255):oB b (a:Int) [0,0,0,u8 n]=some (st4 b a n):=by rw[<-bOV hn,a3W h hl ⟨hn.1,by omega⟩,bDI hn]
end Go.Gv
end
