import Derived.Test.YtmaknhppafajdaaGreatXME
set_option linter.unusedVariables false
set_option linter.unusedSimpArgs false
set_option linter.unusedSectionVars false
set_option linter.constructorNameAsVariable false
set_option linter.unnecessarySimpa false
noncomputable section
set_option maxHeartbeats 4000000
set_option maxRecDepth 100000
namespace Go.Proofs.YtmaknhppafajdaaGreat
open Go.Gv
noncomputable section
variable {κ:Ctx}
theorem aDJ{c:aO}{s1:AC}{b0:Nat×Nat}(h1:bL κ s1 c.b):VS Tryz.prog κ 142 (IA c) [.p 0 0] [b0] [.box 0 [.h s1 c.b.length,I c.i,I c.h]] (fun(r:aI×(Int×Int)) (y:AC)=>.g [I r.1.aK,.h y r.1.aX.length]) (fun(r:aI×(Int×Int)) (y:AC)=>[.box 0 [.h s1 c.b.length,I r.2.1,I r.2.2],ow y r.1.aX]):=
 cE tok Tryz.call142 Tryz.func142 Tryz.results142 Q Q<|bM 0 0 0 3 [] Q Q Q Q Q (fun h=>XY (h.a h1)) fun x1 s2=>bM 0 0 0 3 [] Q Q Q Q Q (fun h=>aH (c:=(⟨c.b,x1.2.1,x1.2.2⟩:aO)) (h.a h1)) fun x2 _=>dB 1 3 (fun(p:Int×Int×Int×(List eX))=>gH p.1 p.2.1 p.2.2.1 p.2.2.2) [0,2,3] (fun(p:Int×Int×Int×(List eX)) (s3:AC)=>[]) [1] (fun p s3=>[.box 0 [.h s1 c.b.length,I p.1,I p.2.1],ow s3 (p.2.2.2:List eX),.box 2 [I p.2.2.1,.h s3 p.2.2.2.length]]) Q (bM 0 0 0 3 [] Q Q Q Q Q (fun h=>aH (c:=(⟨c.b,x2.2.1,x2.2.2⟩:aO)) (h.a h1)) fun x7 _=>bG [11,12] Q Q (fun hF=>ltK oI () ([(-1),100000,100001]:List Int) aQ Q Q Q Q Q Q Q Q Q Q (fun _=>Q) fun s4=>wi hF<|bM 0 0 0 3 [] Q Q Q Q Q (fun h=>eM (c:=(⟨c.b,x7.2.1,x7.2.2⟩:aO)) (h.a h1) (h.o 4 Q Q)) fun x8 _=>eP (p:=(x8.2.1,x8.2.2,x8.1,x1.1.aX)) s2 [0,2,3,1] Q Q)<|bG [17,18] Q Q (fun hF=>cpc 2 Q Q fun hc1=>ZZ hc1 Q Q Q Q Q Q hF fun hF h2=>sF Q<|poR 2 0 x2.1.toNat Q Q h2 Q<|hJ (p:=(x7.2.1,x7.2.2,x1.1.aK,(x1.1.aX.take x2.1.toNat).drop 0)) (AC.sub s2 4 0) [0,2,3,1] hF Q)<|bG [24,25] Q Q (qX CA 2 Q Q Q fun x9 h3 _ h4=>fun hF=>iC 3 h4 h3 Q Q Q Q Q<|sF Q<|A6 CA 4 [] [27] (⟨false,1,false,0⟩:eX) () Q Q Q Q Q Q Q Q<|HQ s2 List.length_set.symm [(6,1)] [(3,1)] Q Q Q<|fR Q Q<|hJ (p:=(x7.2.1,x7.2.2,x1.1.aK,x1.1.aX.set x2.1.toNat (⟨false,1,false,0⟩:eX))) s2 [0,7,3,1] hF Q)<|bG [31,32] Q Q (qX CA 2 Q Q Q fun x10 h5 _ h6=>fun hF=>iC 3 h6 h5 Q Q Q Q Q<|sF Q<|A6 CA 4 [] [34] (⟨true,aV (x1.1.aK+1),false,0⟩:eX) () Q Q Q Q Q Q Q Q<|HQ s2 List.length_set.symm [(6,1)] [(3,1)] Q Q Q<|fR Q Q<|hJ (p:=(x7.2.1,x7.2.2,x1.1.aK,x1.1.aX.set x2.1.toNat (⟨true,aV (x1.1.aK+1),false,0⟩:eX))) s2 [0,7,3,1] hF Q)<|bG [41,42] Q Q (qX CA 2 Q Q Q fun x11 h7 _ h8=>fun hF=>iC 3 h8 h7 Q Q Q Q Q<|sF Q<|A6 CA 4 [] [44] (⟨true,0,false,3⟩:eX) () Q Q Q Q Q Q Q Q<|HQ s2 List.length_set.symm [(6,1)] [(3,1)] Q Q Q<|fR Q Q<|hJ (p:=(x7.2.1,x7.2.2,x1.1.aK,x1.1.aX.set x2.1.toNat (⟨true,0,false,3⟩:eX))) s2 [0,7,3,1] hF Q)<|bG [48,49] Q Q (qX CA 2 Q Q Q fun x12 h9 _ h10=>fun hF=>iC 3 h10 h9 Q Q Q Q Q<|sF Q<|A6 CA 4 [] [51] (⟨true,0,true,0⟩:eX) () Q Q Q Q Q Q Q Q<|HQ s2 List.length_set.symm [(6,1)] [(3,1)] Q Q Q<|fR Q Q<|hJ (p:=(x7.2.1,x7.2.2,x1.1.aK,x1.1.aX.set x2.1.toNat (⟨true,0,true,0⟩:eX))) s2 [0,7,3,1] hF Q)<|eP (p:=(x7.2.1,x7.2.2,x1.1.aK,x1.1.aX)) s2 [0,2,3,1] Q Q) fun⟨x3,x4,x5,x6⟩ s3=>dV s3 [0,1] Q Q
theorem XZ{l:List aP}{w_ h e_:Int}{s1:AC}(h1:bL κ s1 l):VS Tryz.prog κ 303 (CP l w_ h e_) [.h s1 l.length,I w_,I h,I e_] [] [] (fun r (y:AC)=>.t [.h y r.1.length,.b r.2]) (fun r y=>[ow y r.1]):=
 cE tok Tryz.call303 Tryz.func303 Tryz.results303 Q Q<|c1 Q (fun h=>G6 (h.a h1)) fun x1 s2=>dE 0 0 (uB l w_ h e_ x1) [0,1,2,3,10] 20 [0] Q (c0 Q (fun h=>G5 (h.a h1)) fun x6=>eE [15,16] Q Q (cA [0] Q Q)<|c0 Q (fun _=>a8) fun x7=>cA [0] Q Q) fun x2=>bG [20] Q Q (dV s2 [0] Q Q)<|qX eA 0 Q Q Q fun x3 h2 s3 h3=>fun hF=>iC 0 h3 h2 Q Q Q Q Q<|IW iS [] ((⟨h,e_⟩:bC)) () cC Q Q Q Q Q Q Q Q Q Q Q Q Q fun s4=>ap 4 cC Q Q Q Q Q Q Q (fun h=>(h.o 5 Q)) Q Q hF fun hF s5=>iC 0 h3 h2 Q Q Q Q Q<|ceS eA 1 [4] [10,22,24,36] (⟨x3.Rows++([(⟨h,e_⟩:bC)])⟩:aP) s5 Q Q Q Q Q Q Q Q Q Q<|wi hF<|c0 Q (fun h=>G5 (h.o 6 Q)) fun x4=>bG [38] Q Q (c1 Q (fun h=>G6 (h.a h1)) fun x5 s6=>dV s6 [7] Q Q)<|dV s2 [6] Q Q
theorem X0{c:aO}{s1:AC}{b0:Nat×Nat}(h1:bL κ s1 c.b):VS Tryz.prog κ 228 (CQ c) [.p 0 0] [b0] [.box 0 [.h s1 c.b.length,I c.i,I c.h]] (fun(r:(List aP)×(Int×Int)) (y:AC)=>.h y r.1.length) (fun(r:(List aP)×(Int×Int)) (y:AC)=>[.box 0 [.h s1 c.b.length,I r.2.1,I r.2.2],ow y r.1]):=
 cE tok Tryz.call228 Tryz.func228 Tryz.results228 Q Q<|c1 Q (fun _=>M6) fun x1 s2=>bM 0 0 0 3 [] Q Q Q Q Q (fun h=>aH (h.a h1)) fun x2 _=>tS s2 [0] (fun(p:(List aP)×Int×Int×Int) (s4:AC)=>[(3,.h s4 p.1.length),(4,I p.2.1)]) [1,0] [] (fun p s4=>[ow s4 (p.1:List aP),.box 0 [.h s1 c.b.length,I p.2.2.1,I p.2.2.2]]) id [0] (fun(p:(List aP)×Int×Int) (s5:AC)=>[(3,.h s5 p.1.length)]) [] (fun p s5=>[ow s5 (p.1:List aP),.box 0 [.h s1 c.b.length,I p.2.1,I p.2.2]]) Q Q (fun hF1 ⟨x7,x8,x9,x10⟩ s4 hr1=>bG [11] Q Q (bM 1 0 0 3 [] Q Q Q Q Q (fun h=>aH (c:=(⟨c.b,x9,x10⟩:aO)) (h.a h1)) fun x14 _=>bM 1 0 0 3 [] Q Q Q Q Q (fun h=>xC (c:=(⟨c.b,x14.2.1,x14.2.2⟩:aO)) (h.a h1)) fun x15 _=>bM 1 0 0 3 [] Q Q Q Q Q (fun h=>aH (c:=(⟨c.b,x15.2.1,x15.2.2⟩:aO)) (h.a h1)) fun x16 _=>c1 Q (fun h=>XZ (h.o 0 Q)) fun x17 s6=>GA s6 [2,1] Q)<|HP s4 [0,1] Q) fun⟨x11,x12,x13⟩ s5=>dV s5 [1,0] Q Q
theorem aDK{c:aO}{s1:AC}{b0:Nat×Nat}(h1:bL κ s1 c.b):VS Tryz.prog κ 143 (IB c) [.p 0 0] [b0] [.box 0 [.h s1 c.b.length,I c.i,I c.h]] (fun(r:(List aP)×(Int×Int)) (y:AC)=>.h y r.1.length) (fun(r:(List aP)×(Int×Int)) (y:AC)=>[.box 0 [.h s1 c.b.length,I r.2.1,I r.2.2],ow y r.1]):=
 cE tok Tryz.call143 Tryz.func143 Tryz.results143 Q Q<|bM 0 0 0 3 [] Q Q Q Q Q (fun h=>X0 (h.a h1)) fun x1 s2=>dB 1 1 (fun(p:(List aP)×Int×Int)=>nN p.1 p.2.1 p.2.2) [0] (fun(p:(List aP)×Int×Int) (_:Unit)=>[(3,.h s2 p.1.length)]) [] (fun p _=>[ow s2 (p.1:List aP),.box 0 [.h s1 c.b.length,I p.2.1,I p.2.2]]) Q (bM 0 0 0 3 [] Q Q Q Q Q (fun h=>aH (c:=(⟨c.b,x1.2.1,x1.2.2⟩:aO)) (h.a h1)) fun x5 _=>bG [8,9] Q Q (fun hF=>cpc 1 Q Q fun hc1=>ZZ hc1 Q Q Q Q Q Q hF fun hF h2=>sR Q<|poR 1 0 ((1:Int).toNat) Q Q h2 Q<|L7 (hT:=tok) (AC.sub s2 1 0) [0,1] hF Q Tryz.results143 Q Q Q Q)<|bG [12,13] Q Q (qX eA 1 Q Q Q fun x6 h3 s3 h4=>fun hF=>iC 1 h4 h3 Q Q Q Q Q<|ltK iS () ([(⟨33,1⟩:bC),(⟨65,1⟩:bC)]:List bC) cC Q Q Q Q Q Q Q Q Q Q (fun _=>Q) fun s4=>ap 5 cC Q Q Q Q Q Q Q (fun h=>(h.o 6 Q)) Q Q hF fun hF s5=>iC 1 h4 h3 Q Q Q Q Q<|sF Q<|A6 eA 2 [5] [3,5,14,15] (⟨x6.Rows++([(⟨33,1⟩:bC),(⟨65,1⟩:bC)]:List bC)⟩:aP) s5 Q Q Q Q Q Q Q Q<|hJ (p:=(x1.1.set ((0:Int).toNat) (⟨x6.Rows++([(⟨33,1⟩:bC),(⟨65,1⟩:bC)]:List bC)⟩:aP),x5.2.1,x5.2.2)) () [7,0] hF Q)<|bG [25,26] Q Q (dB 0 1 (fun(p:(List aP)×Int×Int)=>GL p.1 p.2.1 p.2.2) [0] (fun(p:(List aP)×Int×Int) (_:Unit)=>[(3,.h s2 p.1.length)]) [] (fun p _=>[ow s2 (p.1:List aP),.box 0 [.h s1 c.b.length,I p.2.1,I p.2.2]]) Q (eG aD [] Q<|qX eA 1 Q Q Q fun x10 h5 s6 h6=>fun hF=>iC 1 h6 h5 Q Q Q Q Q<|bd hF fun x11 hA1 hF=>nd hF fun hA2 hF=>cQ Q Q (have hq1:=rb hA1;wi hq1<|bM 0 0 0 3 [] Q Q Q Q Q (fun h=>xC (c:=(⟨c.b,x5.2.1,x5.2.2⟩:aO)) (h.a h1)) fun u1 _=>fun hq1=>match u1,hq1 with | _,rfl=>IW iS [] ((⟨x11.1,(-1)⟩:bC)) () cC Q Q Q Q Q Q Q Q Q Q Q Q Q fun s9=>have hq2:=rn hA2;ap 5 cC Q Q Q Q Q Q Q (fun h=>(h.o 6 Q)) Q Q hq2 fun hq2 s10=>iC 1 h6 h5 Q Q Q Q Q<|sF Q<|A6 eA 2 [5] [3,5,27,28] (⟨x10.Rows++([(⟨x11.1,(-1)⟩:bC)])⟩:aP) s10 Q Q Q Q Q Q Q Q<|hJ (p:=(x1.1.set ((1:Int).toNat) (⟨x10.Rows++([(⟨x11.1,(-1)⟩:bC)])⟩:aP),x11.2.1,x11.2.2)) () [7,0] hF Q) (have hq3:=rb hA1;wi hq3<|bM 0 0 0 3 [] Q Q Q Q Q (fun h=>xC (c:=(⟨c.b,x5.2.1,x5.2.2⟩:aO)) (h.a h1)) fun u2 _=>fun hq3=>match u2,hq3 with | _,rfl=>cQ Q Q (IW iS [] ((⟨x11.1,(-1)⟩:bC)) () cC Q Q Q Q Q Q Q Q Q Q Q Q Q fun s11=>have hq4:=rn hA2;ap 5 cC Q Q Q Q Q Q Q (fun h=>(h.o 6 Q)) Q Q hq4 fun hq4 s12=>iC 1 h6 h5 Q Q Q Q Q<|sF Q<|A6 eA 2 [5] [3,5,27,28] (⟨x10.Rows++([(⟨x11.1,(-1)⟩:bC)])⟩:aP) s12 Q Q Q Q Q Q Q Q<|hJ (p:=(x1.1.set ((1:Int).toNat) (⟨x10.Rows++([(⟨x11.1,(-1)⟩:bC)])⟩:aP),x11.2.1,x11.2.2)) () [7,0] hF Q) (IW iS [] ((⟨x11.1,(-1)⟩:bC)) () cC Q Q Q Q Q Q Q Q Q Q Q Q Q fun s13=>have hq5:=rn hA2;ap 5 cC Q Q Q Q Q Q Q (fun h=>(h.o 6 Q)) Q Q hq5 fun hq5 s14=>iC 1 h6 h5 Q Q Q Q Q<|sF Q<|A6 eA 2 [5] [3,5,27,28] (⟨x10.Rows++([(⟨x11.1,(-1)⟩:bC)])⟩:aP) s14 Q Q Q Q Q Q Q Q<|hJ (p:=(x1.1.set ((1:Int).toNat) (⟨x10.Rows++([(⟨x11.1,(-1)⟩:bC)])⟩:aP),x11.2.1,x11.2.2)) () [7,0] hF Q))) fun⟨x7,x8,x9⟩ _=>cA (p:=(x7,x8,x9)) [0,1] Q Q)<|bG [39,40] Q Q (qX eA 1 Q Q Q fun x12 h7 s15 h8=>fun hF=>iC 1 h8 h7 Q Q Q Q Q<|IW iS [] ((⟨0,0⟩:bC)) () cC Q Q Q Q Q Q Q Q Q Q Q Q Q fun s16=>ap 5 cC Q Q Q Q Q Q Q (fun h=>(h.o 6 Q)) Q Q hF fun hF s17=>iC 1 h8 h7 Q Q Q Q Q<|sF Q<|A6 eA 2 [5] [3,5,41,42] (⟨x12.Rows++([(⟨0,0⟩:bC)])⟩:aP) s17 Q Q Q Q Q Q Q Q<|hJ (p:=(x1.1.set ((2:Int).toNat) (⟨x12.Rows++([(⟨0,0⟩:bC)])⟩:aP),x5.2.1,x5.2.2)) () [7,0] hF Q)<|cA (p:=(x1.1,x5.2.1,x5.2.2)) [1,0] Q Q) fun⟨x2,x3,x4⟩ _=>dV s2 [1,0] Q Q
theorem aDL{c:aO}{s1:AC}{b0:Nat×Nat}(h1:bL κ s1 c.b):VS Tryz.prog κ 144 (IC c) [.p 0 0] [b0] [.box 0 [.h s1 c.b.length,I c.i,I c.h]] (fun(r:(List Int)×(Int×Int)) (y:AC)=>.h y r.1.length) (fun(r:(List Int)×(Int×Int)) (y:AC)=>[.box 0 [.h s1 c.b.length,I r.2.1,I r.2.2],ow y r.1]):=
 cE tok Tryz.call144 Tryz.func144 Tryz.results144 Q Q<|c1 Q (fun _=>RH) fun x1 s2=>bM 0 0 0 3 [] Q Q Q Q Q (fun h=>aH (h.a h1)) fun x2 _=>tS s2 [0] (fun(p:(List Int)×Int×Int×Int) (s4:AC)=>[(3,.h s4 p.1.length),(4,I p.2.1)]) [1,0] [] (fun p s4=>[ow s4 (p.1:List Int),.box 0 [.h s1 c.b.length,I p.2.2.1,I p.2.2.2]]) id [0] (fun(p:(List Int)×Int×Int) (s5:AC)=>[(3,.h s5 p.1.length)]) [] (fun p s5=>[ow s5 (p.1:List Int),.box 0 [.h s1 c.b.length,I p.2.1,I p.2.2]]) Q Q (fun hF1 ⟨x7,x8,x9,x10⟩ s4 hr1=>bG [11] Q Q (bM 1 0 0 3 [] Q Q Q Q Q (fun h=>aH (c:=(⟨c.b,x9,x10⟩:aO)) (h.a h1)) fun x21 _=>bM 1 0 0 3 [] Q Q Q Q Q (fun h=>aH (c:=(⟨c.b,x21.2.1,x21.2.2⟩:aO)) (h.a h1)) fun x22 _=>bM 1 0 0 3 [] Q Q Q Q Q (fun h=>aH (c:=(⟨c.b,x22.2.1,x22.2.2⟩:aO)) (h.a h1)) fun x23 _=>c0 Q (fun _=>EK) fun x24=>c1 Q (fun h=>O2 (h.o 0 Q)) fun x25 s7=>GA s7 [2,1] Q)<|HP s4 [0,1] Q) fun⟨x11,x12,x13⟩ s5=>dB 1 1 (fun(p:(List Int)×Int×Int)=>zS p.1 p.2.1 p.2.2) [0] (fun(p:(List Int)×Int×Int) (_:Unit)=>[(3,.h s5 p.1.length)]) [] (fun p _=>[ow s5 (p.1:List Int),.box 0 [.h s1 c.b.length,I p.2.1,I p.2.2]]) Q (bM 1 0 0 3 [] Q Q Q Q Q (fun h=>aH (c:=(⟨c.b,x12,x13⟩:aO)) (h.a h1)) fun x17 _=>bG [30,31] Q Q (fun hF=>cpc 0 Q Q fun hc1=>ZZ hc1 Q Q Q Q Q Q hF fun hF h2=>sR Q<|poR 0 0 ((2:Int).toNat) Q Q h2 Q<|L7 (hT:=tok) (AC.sub s5 1 0) [1,0] hF Q Tryz.results144 Q Q Q Q)<|bG [34,35] Q Q (bM 1 0 0 3 [] Q Q Q Q Q (fun h=>aH (c:=(⟨c.b,x17.2.1,x17.2.2⟩:aO)) (h.a h1)) fun x18 _=>fun hF=>ltK oI () ([(-1),31,56,224]:List Int) aQ Q Q Q Q Q Q Q Q Q Q (fun _=>Q) fun s6=>wi hF<|bM 1 0 0 3 [] Q Q Q Q Q (fun h=>eM (c:=(⟨c.b,x18.2.1,x18.2.2⟩:aO)) (h.a h1) (h.o 2 Q Q)) fun x19 _=>qX oI 0 Q Q Q fun x20 h3 _ h4=>fun hF=>iC 1 h4 h3 Q Q Q Q Q<|sF Q<|A6 oI 3 [] [3,36] x19.1 () Q Q Q Q Q Q Q Q<|hJ (p:=(x11.set x18.1.toNat x19.1,x19.2.1,x19.2.2)) () [6,1] hF Q)<|cA (p:=(x11,x17.2.1,x17.2.2)) [0,1] Q Q) fun⟨x14,x15,x16⟩ _=>dV s5 [1,0] Q Q
theorem aDM{c:aO}{s1:AC}{b0:Nat×Nat}(h1:bL κ s1 c.b):VS Tryz.prog κ 61 (ID c) [.p 0 0] [b0] [.box 0 [.h s1 c.b.length,I c.i,I c.h]] (fun(r:aE×Int×(Int×Int)) (y:QB)=>.t [.g (yB r.1 y),I r.2.1]) (fun(r:aE×Int×(Int×Int)) (y:QB)=>([.box 0 [.h s1 c.b.length,I r.2.2.1,I r.2.2.2]]++(zB r.1 y []))):=
 cE tok Tryz.call61 Tryz.func61 Tryz.results61 Q Q<|bM 0 0 0 3 [] Q Q Q Q Q (fun h=>O3 (h.a h1)) fun x1 s2=>dB 1 3 (fun(p:Int×Int×aE)=>kT x1 p.1 p.2.1 p.2.2) [0,2,4,5] (fun(p:Int×Int×aE) (u:QB)=>[]) [1] (fun p u=>([.box 0 [.h s1 c.b.length,I p.1,I p.2.1]]++(zB p.2.2 u [.box 2 (yB p.2.2 u)]))) Q (bM 0 0 0 3 [] Q Q Q Q Q (fun h=>aH (c:=(⟨c.b,x1.2.2.1,x1.2.2.2⟩:aO)) (h.a h1)) fun x5 _=>bG [13,14] Q Q (bM 0 0 0 3 [] Q Q Q Q Q (fun h=>TO (c:=(⟨c.b,x5.2.1,x5.2.2⟩:aO)) (h.a h1)) fun x6 s10=>eP (p:=(x6.2.2.1,x6.2.2.2,(⟨x6.1,x1.1.aI,x1.1.aR,x1.1.fW⟩:aE))) (s10.1,s10.2.1,s10.2.2.1,s10.2.2.2,s2.2.2.2.2.1,s2.2.2.2.2.2.1,s2.2.2.2.2.2.2) [0,10,11,12,13,6,7,8,9,1] Q Q)<|bG [21,22] Q Q (bM 0 0 0 3 [] Q Q Q Q Q (fun h=>aDJ (c:=(⟨c.b,x5.2.1,x5.2.2⟩:aO)) (h.a h1)) fun x7 s11=>eP (p:=(x7.2.1,x7.2.2,(⟨x1.1.Mem,x7.1,x1.1.aR,x1.1.fW⟩:aE))) (s2.1,s2.2.1,s2.2.2.1,s2.2.2.2.1,s11,s2.2.2.2.2.2.1,s2.2.2.2.2.2.2) [0,2,3,4,5,10,7,8,9,1] Q Q)<|bG [26,27] Q Q (bM 0 0 0 3 [] Q Q Q Q Q (fun h=>aDK (c:=(⟨c.b,x5.2.1,x5.2.2⟩:aO)) (h.a h1)) fun x8 s12=>eP (p:=(x8.2.1,x8.2.2,(⟨x1.1.Mem,x1.1.aI,x8.1,x1.1.fW⟩:aE))) (s2.1,s2.2.1,s2.2.2.1,s2.2.2.2.1,s2.2.2.2.2.1,s12,s2.2.2.2.2.2.2) [0,2,3,4,5,6,10,8,9,1] Q Q)<|bG [31,32] Q Q (bM 0 0 0 3 [] Q Q Q Q Q (fun h=>aDL (c:=(⟨c.b,x5.2.1,x5.2.2⟩:aO)) (h.a h1)) fun x9 s13=>eP (p:=(x9.2.1,x9.2.2,(⟨x1.1.Mem,x1.1.aI,x1.1.aR,x9.1⟩:aE))) (s2.1,s2.2.1,s2.2.2.1,s2.2.2.2.1,s2.2.2.2.2.1,s2.2.2.2.2.2.1,s13) [0,2,3,4,5,6,7,10,9,1] Q Q)<|eP (p:=(x5.2.1,x5.2.2,x1.1)) s2 [0,2,3,4,5,6,7,8,9,1] Q Q) fun⟨x2,x3,x4⟩ ⟨s3,s4,s5,s6,s7,s8,s9⟩=>dV (s3,s4,s5,s6,s7,s8,s9) [0,1,2,3,4,5,6,7] Q Q
theorem LN{code:List UInt8}{s1:AC}(h1:bL κ s1 code):VP Tryz.prog κ 62 (BO code) [.h s1 code.length] (fun r=>[.h s1 code.length,I r.1,I r.2]):=
 cE tok Tryz.call62 Tryz.func62 Tryz.results62 Q Q<|tS () [0] (fun(p:Int×Int) (_:Unit)=>[(3,I p.1),(4,I p.2)]) [] [] (fun p _=>[]) id [0] (fun(x5:Int) (_:Unit)=>[(3,I x5)]) [] (fun x5 _=>[]) Q Q (fun hF1 ⟨x3,x4⟩ _ hr1=>dE 0 0 (CR code x3 x4) [0,3,4] 15 [] Q (eE [11,12] Q Q (cA [] Q Q)<|cA [] Q Q) fun x6=>bG [15] Q Q (D4 cU Q h1 Q fun x7 _ _=>y9 [] Q)<|zA [] Q) fun x5 _=>rtP [0] Q Q Q Q
theorem QO{code:List UInt8}{s1:AC}(h1:bL κ s1 code):VS Tryz.prog κ 22 (rQ code) [.h s1 code.length] [] [] (fun r (y:QB)=>.g (yB r y)) (fun r y=>(zB r y [])):=
 cE tok Tryz.call22 Tryz.func22 Tryz.results22 Q Q<|cP Q (fun h=>LN (h.a h1)) fun x1=>bM 1 1 0 3 [] Q Q Q Q Q (fun h=>aDM (c:=(⟨code,x1.1,x1.2⟩:aO)) (h.a h1)) fun x2 s2=>dV s2 [2,3,4,5,6,7,8] Q Q
theorem LO{s:List Int}{f:(Int→Option Bool)}{s1:AC}{g_f:FuncId}{cap_f:List Value}(h1:bL κ s1 s)(h_f:Fu1 Tryz.prog κ (cI:QL Int) .b g_f cap_f f):V0 Tryz.prog κ 205 (sP s f) [.h s1 s.length,.k (.func (.func g_f) #[] cap_f.toArray)] I:=
 cE tok Tryz.call205 Tryz.func205 Tryz.results205 Q Q<|L9 8 [0,1,7] [] Out.brk [] [] Q Q (fun hF1 x2 hr1=>bG [9] Q Q (K8 Q h1 Q fun x3=>fun hG1=>fa1 h_f x3 () Q Q Q Q Q trivial hG1 fun x4 _ hG1=>wi hG1<|bG [16] Q Q (J4 hr1 hF1<|cJ Q Q)<|y9 [] Q)<|zA [] Q)<|cJ Q Q
theorem g9{s:List Int}{f:(Int→Option Bool)}{s1:AC}{g_f:FuncId}{cap_f:List Value}(h1:bL κ s1 s)(h_f:Fu1 Tryz.prog κ (cI:QL Int) .b g_f cap_f f):V0 Tryz.prog κ 109 (d5 s f) [.h s1 s.length,.k (.func (.func g_f) #[] cap_f.toArray)] .b:=
 cE tok Tryz.call109 Tryz.func109 Tryz.results109 Q Q<|c0 Q (fun h=>LO (h.a h1) (h.u1 h_f)) fun x1=>cJ Q Q
theorem cW{n low high:Int}:V0 Tryz.prog κ 108 (cH n low high) [I n,I low,I high] .b:=
 cE tok Tryz.call108 Tryz.func108 Tryz.results108 Q Q<|dE 0 0 nP [] 6 [] Q (eE [9,10] Q Q (cA [] Q Q)<|cA [] Q Q) fun x1=>cJ Q Q
theorem aDN{x:Int}:V0 Tryz.prog κ 346 (OL x) [I x] .b:=
 cE tok Tryz.call346 Tryz.func346 Tryz.results346 Q Q<|c0 Q (fun _=>cW) fun x1=>cJ Q Q
theorem VL{x:Int}:V0 Tryz.prog κ 345 (zT x) [I x] .b:=
 cE tok Tryz.call345 Tryz.func345 Tryz.results345 Q Q<|c0 Q (fun _=>aDN) fun x1=>cJ Q Q
theorem aBA{b:List Int}{s1:AC}(h1:bL κ s1 b):V0 Tryz.prog κ 317 (FF b) [.h s1 b.length] .b:=
 cE tok Tryz.call317 Tryz.func317 Tryz.results317 Q Q<|dE 0 0 wO [] 2 [] Q (eE [5,6] Q Q (c0 Q (fun h=>g9 (h.a h1) (aTR Tryz.call345 fun _=>VL)) fun x2=>cA [] Q Q)<|cA [] Q Q) fun x1=>cJ Q Q
theorem X2{c:Int}:V0 Tryz.prog κ 318 (CS c) [I c] .b:=
 cE tok Tryz.call318 Tryz.func318 Tryz.results318 Q Q<|c0 Q (fun _=>cW) fun x1=>cJ Q Q
theorem RI{h:aB}{s1 s2:AC}(h1:bL κ s1 h.Bytes)(h2:bL κ s2 h.Class):V0 Tryz.prog κ 244 (DP h) [.g [.h s1 h.Bytes.length,.h s2 h.Class.length]] .b:=
 cE tok Tryz.call244 Tryz.func244 Tryz.results244 Q Q<|dE 0 1 nQ [] 2 [] Q (eE [6,7] Q Q (c0 Q (fun h=>aBA (h.a h1)) fun x2=>eE [10,11,12] Q Q (eE [16,17,18] Q Q (c0 Q (fun h=>g9 (h.a h2) (aTR Tryz.call318 fun _=>X2)) fun x3=>cA [] Q Q)<|cA [] Q Q)<|cA [] Q Q)<|cA [] Q Q) fun x1=>cJ Q Q
theorem O4{b:List Int}{at_ width:Int}{s1:AC}(h1:bL κ s1 b):V0 Tryz.prog κ 307 (pG b at_ width) [.h s1 b.length,I at_,I width] I:=
 cE tok Tryz.call307 Tryz.func307 Tryz.results307 Q Q<|fun hF=>aJF Q Q Q Q Q h1 Q Q Q hF fun hF s2 h2=>wi hF<|tS () [15,16] (fun(p:Int×Int) (_:Unit)=>[(7,I p.1),(17,I p.2)]) [] [] (fun p _=>[]) id [] (fun(x5:Int) (_:Unit)=>[(7,I x5)]) [] (fun x5 _=>[]) Q Q (fun hF1 ⟨x3,x4⟩ _ hr1=>bG [18] Q Q (K8 Q h2 Q fun x6=>y9 [] Q)<|zA [] Q) fun x5 _=>cJ Q Q
theorem X3{x:Int}:V0 Tryz.prog κ 347 (CT x) [I x] .b:=
 cE tok Tryz.call347 Tryz.func347 Tryz.results347 Q Q<|cJ Q Q
theorem RJ{b:List Int}{s1:AC}(h1:bL κ s1 b):V0 Tryz.prog κ 319 (DQ b) [.h s1 b.length] .b:=
 cE tok Tryz.call319 Tryz.func319 Tryz.results319 Q Q<|c0 Q (fun h=>g9 (h.a h1) (aTR Tryz.call347 fun _=>X3)) fun x1=>cJ Q Q
theorem kY{c:Int}:V0 Tryz.prog κ 328 (iG c) [I c] .b:=
 cE tok Tryz.call328 Tryz.func328 Tryz.results328 Q Q<|c0 Q (fun _=>cW) fun x1=>cJ Q Q
theorem RK{c:Int}:V0 Tryz.prog κ 325 (yU c) [I c] I:=
 cE tok Tryz.call325 Tryz.func325 Tryz.results325 Q Q<|c0 Q (fun _=>kY) fun x1=>bG [5] Q Q (cJ Q Q)<|fun hF=>qba [I 8,I 16,I 40] Tryz.zeroValue283 Tryz.underlying283 Tryz.sizeOf3 Q Q Q Q Q Q<|qai (fun q:Int=>.int .i64 q) (fun q=>.i .i64 q) (l:=([8,16,40]:List Int)) Tryz.underlying283 Tryz.sizeOf3 Tryz.isAgg3 (fun _=>Q) Q Q Q Q Q Q hF fun x2 _ hF=>wi hF<|cJ Q Q
theorem EL{c:Int}:V0 Tryz.prog κ 321 (q9 c) [I c] I:=
 cE tok Tryz.call321 Tryz.func321 Tryz.results321 Q Q<|c0 Q (fun _=>kY) fun x1=>bG [5] Q Q (cJ Q Q)<|c0 Q (fun _=>RK) fun x2=>cJ Q Q
theorem oS{c:Int}:V0 Tryz.prog κ 320 (mA c) [I c] I:=
 cE tok Tryz.call320 Tryz.func320 Tryz.results320 Q Q<|c0 Q (fun _=>kY) fun x1=>bG [5] Q Q (cJ Q Q)<|c0 Q (fun _=>EL) fun x2=>fun hF=>aYB Q Q Q Q hF fun hF=>wi hF<|cJ Q Q
theorem aDO{h:aB}{page:Int}{s1 s2:AC}(h1:bL κ s1 h.Bytes)(h2:bL κ s2 h.Class):V0 Tryz.prog κ 245 (IE h page) [.g [.h s1 h.Bytes.length,.h s2 h.Class.length],I page] .b:=
 cE tok Tryz.call245 Tryz.func245 Tryz.results245 Q Q<|eG aD [0] Q<|K8 Q h2 Q fun x1=>fun hF=>aJF Q Q Q Q Q h1 Q Q Q hF fun hF s3 h3=>wi hF<|bG [22] Q Q (c0 Q (fun h=>RJ (h.a h3)) fun x2=>cJ Q Q)<|dE 0 2 (gI h page x1) [5,6] 49 [] Q (eG aD [0,1] Q<|K8 Q h3 Q fun x10=>eE [28,29] Q Q (cA [] Q Q)<|K8 Q h3 Q fun x11=>eE [34,35,36] Q Q (cA [] Q Q)<|K8 Q h3 Q fun x12=>c0 Q (fun _=>oS) fun x13=>eE [42,43,44] Q Q (cA [] Q Q)<|fun hF=>aJF Q Q Q Q Q h3 Q Q Q hF fun hF s4 h4=>wi hF<|c0 Q (fun h=>RJ (h.a h4)) fun x14=>cA [] Q Q) fun x3=>bG [49] Q Q (cJ Q Q)<|c0 Q (fun _=>oS) fun x4=>L9 52 [5,6,51] [] Out.brk [] [] Q Q (fun hF2 x6 hr2=>bG [53] Q Q (c0 Q (fun _=>EL) fun x7=>c0 Q (fun h=>O4 (h.a h3)) fun x8=>c0 Q (fun _=>cW) fun x9=>bG [63] Q Q (J4 hr2 hF2<|cJ Q Q)<|y9 [] Q)<|zA [] Q)<|cJ Q Q
theorem RL{h:aB}{s1 s2:AC}(h1:bL κ s1 h.Bytes)(h2:bL κ s2 h.Class):V0 Tryz.prog κ 162 (DR h) [.g [.h s1 h.Bytes.length,.h s2 h.Class.length]] .b:=
 cE tok Tryz.call162 Tryz.func162 Tryz.results162 Q Q<|c0 Q (fun h=>RI (h.a h1) (h.a h2)) fun x1=>bG [6] Q Q (cJ Q Q)<|L9 7 [1] [0] Out.brk [] [] Q Q (fun hF1 x3 hr1=>bG [8] Q Q (c0 Q (fun h=>aDO (h.a h1) (h.a h2)) fun x4=>bG [13] Q Q (J4 hr1 hF1<|cJ Q Q)<|y9 [0] Q)<|zA [] Q)<|cJ Q Q
theorem DD{slot:Int}:V0 Tryz.prog κ 247 (j9 slot) [I slot] .b:=
 cE tok Tryz.call247 Tryz.func247 Tryz.results247 Q Q<|c0 Q (fun _=>cW) fun x1=>cJ Q Q
theorem AV{l:aA}{s1:AC}{s2:AC}(h_s1:bL κ s1 l.Global)(h_s2:bL κ s2 l.bB):V0 Tryz.prog κ 163 (iH l) [.g [.h s1 l.Global.length,.h s2 l.bB.length]] .b:=
 fun r hF=>aYP Tryz.call163 fun hm vs hv=>by cases hv;exact Calls.mono (aAW (hm (y7 [AC.v s1 l.Global.length] l.Global) h_s1) (hm (y7 [AC.v s2 l.bB.length] l.bB) h_s2) hF) fun _ _ ⟨v,h1,h2,h3⟩=>⟨v,h1,by rw [h2];rfl,h3⟩
theorem uN{slot c:Int}:V0 Tryz.prog κ 308 (sS slot c) [I slot,I c] I:=
 cE tok Tryz.call308 Tryz.func308 Tryz.results308 Q Q<|dE 0 0 (vV slot c) [0,1] 19 [] Q (c0 Q (fun _=>DD) fun x3=>eE [7,8] Q Q (cA [] Q Q)<|c0 Q (fun _=>kY) fun x4=>eE [11,12,13] Q Q (cA [] Q Q)<|c0 Q (fun _=>oS) fun x5=>cA [] Q Q) fun x1=>bG [19] Q Q (cJ Q Q)<|c0 Q (fun _=>EL) fun x2=>cJ Q Q
theorem AW{h:aB}{slot:Int}{s1 s2:AC}(h1:bL κ s1 h.Bytes)(h2:bL κ s2 h.Class):V0 Tryz.prog κ 248 (mB h slot) [.g [.h s1 h.Bytes.length,.h s2 h.Class.length],I slot] I:=
 cE tok Tryz.call248 Tryz.func248 Tryz.results248 Q Q<|dE 0 1 (wQ h slot) [1,2] 18 [0] Q (c0 Q (fun _=>DD) fun x3=>eE [7,8] Q Q (cA [0] Q Q)<|K8 Q h2 Q fun x4=>c0 Q (fun _=>uN) fun x5=>cA [0] Q Q) fun x1=>bG [18] Q Q (cJ Q Q)<|K8 Q h2 Q fun x2=>cJ Q Q
theorem AX{h:aB}{slot:Int}{s1 s2:AC}(h1:bL κ s1 h.Bytes)(h2:bL κ s2 h.Class):V0 Tryz.prog κ 306 (zV h slot) [.g [.h s1 h.Bytes.length,.h s2 h.Class.length],I slot] I:=
 cE tok Tryz.call306 Tryz.func306 Tryz.results306 Q Q<|c0 Q (fun h=>RI (h.a h1) (h.a h2)) fun x1=>bG [7] Q Q (cJ Q Q)<|c0 Q (fun h=>AW (h.a h1) (h.a h2)) fun x2=>cJ Q Q
theorem FV{h:aB}{slot:Int}{s1 s2:AC}(h1:bL κ s1 h.Bytes)(h2:bL κ s2 h.Class):V0 Tryz.prog κ 238 (xN h slot) [.g [.h s1 h.Bytes.length,.h s2 h.Class.length],I slot] I:=
 cE tok Tryz.call238 Tryz.func238 Tryz.results238 Q Q<|c0 Q (fun h=>AX (h.a h1) (h.a h2)) fun x1=>bG [10] Q Q (cJ Q Q)<|eG aD [0] Q<|c0 Q (fun _=>uN) fun x2=>c0 Q (fun h=>O4 (h.a h1)) fun x3=>cJ Q Q
theorem M7{h:aB}{s:aC}{c:Int}{s1 s2:AC}{s3:AC}(h1:bL κ s1 h.Bytes)(h2:bL κ s2 h.Class)(h3:bL κ s3 s.aJ):V0 Tryz.prog κ 164 (vW h s c) [.g [.h s1 h.Bytes.length,.h s2 h.Class.length],.g [.h s3 s.aJ.length],I c] .b:=
 cE tok Tryz.call164 Tryz.func164 Tryz.results164 Q Q<|L9 12 [2,3,10,11] [0] Out.brk [] [] Q Q (fun hF1 x2 hr1=>bG [13] Q Q (K8 Q h3 Q fun x3=>dE 0 3 (uC x2) [2,3,10,11,12] 26 [0] Q (c0 Q (fun h=>AW (h.a h1) (h.a h2)) fun x5=>eE [20,21] Q Q (cA [0] Q Q)<|c0 Q (fun h=>FV (h.a h1) (h.a h2)) fun x6=>cA [0] Q Q) fun x4=>bG [26] Q Q (J4 hr1 hF1<|cJ Q Q)<|y9 [0] Q)<|zA [] Q)<|cJ Q Q
theorem LP{m:Mem}{s1 s2 s3 s4:AC}(h1:bL κ s1 m.aB.Bytes)(h2:bL κ s2 m.aB.Class)(h3:bL κ s3 m.aA.Global)(h4:bL κ s4 m.aA.bB):V0 Tryz.prog κ 76 (xO m) [.g (gM m s1 s2 s3 s4)] .b:=
 cE tok Tryz.call76 Tryz.func76 Tryz.results76 Q Q<|dE 0 1 (CU m) [1] 16 [0] Q (c0 Q (fun h=>RL (h.a h1) (h.a h2)) fun x10=>eE [10,11] Q Q (cA [0] Q Q)<|c0 Q (fun h=>AV (h.a h3) (h.a h4)) fun x11=>cA [0] Q Q) fun x1=>bG [16] Q Q (cJ Q Q)<|L9 21 [1,19,20] [0] Out.brk [1] [0] Q Q (fun hF2 x3 hr2=>bG [22] Q Q (D4 mT Q h3 Q fun x8 s6 h6=>c0 Q (fun h=>M7 (h.a h1) (h.a h2) (h.a h6)) fun x9=>bG [31] Q Q (J4 hr2 hF2<|cJ Q Q)<|y9 [0] Q)<|zA [0] Q)<|L9 37 [1,35,36] [0] Out.brk [] [] Q Q (fun hF3 x5 hr3=>bG [38] Q Q (D4 mT Q h4 Q fun x6 s5 h5=>c0 Q (fun h=>M7 (h.a h1) (h.a h2) (h.a h5)) fun x7=>bG [48] Q Q (J4 hr3 hF3<|cJ Q Q)<|y9 [0] Q)<|zA [] Q)<|cJ Q Q
theorem kZ{n:Int}:V0 Tryz.prog κ 64 (mC n) [I n] .s:=
 cE tok Tryz.call64 Tryz.func64 Tryz.results64 Q Q<|c0 Q (fun _=>cW) fun x1=>bG [6] Q Q (cJ Q Q)<|fun hF=>YZ (α:=UInt8) dC Q Q Q Q fun s1=>wi hF<|tS s1 [] (fun(p:Int×(List UInt8)) (s3:AC)=>[(0,I p.1),(3,.h s3 p.2.length)]) [0] [] (fun p s3=>[ow s3 (p.2:List UInt8)]) id [] (fun(p:Int×(List UInt8)) (s4:AC)=>[(0,I p.1),(3,.h s4 p.2.length)]) [] (fun p s4=>[ow s4 (p.2:List UInt8)]) Q Q (fun hF1 ⟨x4,x5⟩ s3 hr1=>bG [9] Q Q (fun hG1=>IW oU [] (u8 (cN .or .i64 (cN .and .i64 x4 127) 128)) () dC Q Q Q Q Q Q Q Q Q Q Q Q Q fun s7=>ap 0 dC Q Q Q Q Q Q Q (fun h=>(h.o 1 Q)) Q Q hG1 fun hG1 s8=>wi hG1<|GA s8 [0] Q)<|HP s3 [0] Q) fun⟨x6,x7⟩ s4=>fun hF=>IW oU [] (u8 x6) () dC Q Q Q Q Q Q Q Q Q Q Q Q Q fun s5=>ap 0 dC Q Q Q Q Q Q Q (fun h=>(h.o 1 Q)) Q Q hF fun hF s6=>qbo 0 Q Q Q Q Q Q Q<|wi hF<|cJ Q Q
theorem M8{s:aC}{s1:AC}(h1:bL κ s1 s.aJ):V0 Tryz.prog κ 77 (vX s) [.g [.h s1 s.aJ.length]] .s:=
 cE tok Tryz.call77 Tryz.func77 Tryz.results77 Q Q<|c0 Q (fun _=>kZ) fun x1=>tS () [11,12] (fun(p:(List UInt8)×Int) (_:Unit)=>[(3,.s p.1),(13,I p.2)]) [] [] (fun p _=>[]) id [] (fun(x6:(List UInt8)) (_:Unit)=>[(3,.s x6)]) [] (fun x6 _=>[]) Q Q (fun hF1 ⟨x4,x5⟩ _ hr1=>bG [14] Q Q (K8 Q h1 Q fun x7=>c0 Q (fun _=>kZ) fun x8=>fun hG1=>cat Q Q Q Q hG1 fun hG1=>wi hG1<|y9 [] Q)<|zA [] Q) fun x6 _=>cJ Q Q
theorem G7{m:Mem}{s1 s2 s3 s4:AC}(h1:bL κ s1 m.aB.Bytes)(h2:bL κ s2 m.aB.Class)(h3:bL κ s3 m.aA.Global)(h4:bL κ s4 m.aA.bB):V0 Tryz.prog κ 29 (mD m) [.g (gM m s1 s2 s3 s4)] .s:=
 cE tok Tryz.call29 Tryz.func29 Tryz.results29 Q Q<|c0 Q (fun h=>LP (h.a h1) (h.a h2) (h.a h3) (h.a h4)) fun x1=>bG [15] Q Q (cJ Q Q)<|fun hF=>YZ (α:=UInt8) dC Q Q Q Q fun s5=>wi hF<|tS s5 [1,19,20] (fun(p:(List UInt8)×Int) (s7:AC)=>[(3,.h s7 p.1.length),(21,I p.2)]) [1,0] [0] (fun p s7=>[ow s7 (p.1:List UInt8)]) id [1] (fun(x6:(List UInt8)) (s8:AC)=>[(3,.h s8 x6.length)]) [0] (fun x6 s8=>[ow s8 (x6:List UInt8)]) Q Q (fun hF1 ⟨x4,x5⟩ s7 hr1=>bG [22] Q Q (K8 Q h1 Q fun x27=>fun hG1=>IW oU [] (u8 x27) () dC Q Q Q Q Q Q Q Q Q Q Q Q Q fun s16=>ap 0 dC Q Q Q Q Q Q Q (fun h=>(h.o 3 Q)) Q Q hG1 fun hG1 s17=>wi hG1<|GA s17 [0,1] Q)<|HP s7 [0,1] Q) fun x6 s8=>tS s8 [1,33,34] (fun(p:(List UInt8)×Int) (s10:AC)=>[(3,.h s10 p.1.length),(35,I p.2)]) [0,1] [1] (fun p s10=>[ow s10 (p.1:List UInt8)]) id [1] (fun(x11:(List UInt8)) (s11:AC)=>[(3,.h s11 x11.length)]) [1] (fun x11 s11=>[ow s11 (x11:List UInt8)]) Q Q (fun hF2 ⟨x9,x10⟩ s10 hr2=>bG [36] Q Q (K8 Q h2 Q fun x26=>fun hG2=>IW oU [] (u8 (aV (x26+1))) () dC Q Q Q Q Q Q Q Q Q Q Q Q Q fun s14=>ap 0 dC Q Q Q Q Q Q Q (fun h=>(h.o 3 Q)) Q Q hG2 fun hG2 s15=>wi hG2<|GA s15 [0,1] Q)<|HP s10 [0,1] Q) fun x11 s11=>fun hF=>qbo 0 Q Q Q Q Q Q Q<|wi hF<|tS () [1,50,51] (fun(p:(List UInt8)×Int) (_:Unit)=>[(8,.s p.1),(52,I p.2)]) [1] [1] (fun p _=>[]) id [1] (fun(x16:(List UInt8)) (_:Unit)=>[(8,.s x16)]) [1] (fun x16 _=>[]) Q Q (fun hF3 ⟨x14,x15⟩ _ hr3=>bG [53] Q Q (D4 mT Q h3 Q fun x24 s13 h6=>c0 Q (fun h=>M8 (h.a h6)) fun x25=>fun hG3=>cat Q Q Q Q hG3 fun hG3=>wi hG3<|y9 [0] Q)<|zA [0] Q) fun x16 _=>tS () [63,64] (fun(p:(List UInt8)×Int) (_:Unit)=>[(8,.s p.1),(65,I p.2)]) [] [] (fun p _=>[]) id [] (fun(x21:(List UInt8)) (_:Unit)=>[(8,.s x21)]) [] (fun x21 _=>[]) Q Q (fun hF4 ⟨x19,x20⟩ _ hr4=>bG [66] Q Q (D4 mT Q h4 Q fun x22 s12 h5=>c0 Q (fun h=>M8 (h.a h5)) fun x23=>fun hG4=>cat Q Q Q Q hG4 fun hG4=>wi hG4<|y9 [] Q)<|zA [] Q) fun x21 _=>cJ Q Q
theorem LQ{s:List eX}{f:(eX→Option Bool)}{s1:AC}{g_f:FuncId}{cap_f:List Value}(h1:bL κ s1 s)(h_f:Fu1 Tryz.prog κ (aAY:QL eX) .b g_f cap_f f):V0 Tryz.prog κ 304 (sT s f) [.h s1 s.length,.k (.func (.func g_f) #[] cap_f.toArray)] I:=
 cE tok Tryz.call304 Tryz.func304 Tryz.results304 Q Q<|L9 8 [0,1,7] [] Out.brk [] [] Q Q (fun hF1 x2 hr1=>bG [9] Q Q (D4 aAY Q h1 Q fun x3 _ _=>fun hG1=>fa1 h_f x3 () Q Q Q Q Q trivial hG1 fun x4 _ hG1=>wi hG1<|bG [16] Q Q (J4 hr1 hF1<|cJ Q Q)<|y9 [] Q)<|zA [] Q)<|cJ Q Q
theorem HT{s:List eX}{f:(eX→Option Bool)}{s1:AC}{g_f:FuncId}{cap_f:List Value}(h1:bL κ s1 s)(h_f:Fu1 Tryz.prog κ (aAY:QL eX) .b g_f cap_f f):V0 Tryz.prog κ 231 (i5 s f) [.h s1 s.length,.k (.func (.func g_f) #[] cap_f.toArray)] .b:=
 cE tok Tryz.call231 Tryz.func231 Tryz.results231 Q Q<|c0 Q (fun h=>LQ (h.a h1) (h.u1 h_f)) fun x1=>cJ Q Q
theorem VM{p:eX}{k0:aI}{s1:AC}{b0:Nat×Nat}(h1:bL κ s1 k0.aX):VS Tryz.prog κ 232 (sU p k0) [.g [.b p.On,I p.aK,.b p.dT,I p.Seen],.p 0 0] [b0] [.ro 0 [I k0.aK,.h s1 k0.aX.length]] (fun r (_:Unit)=>.b r) (fun _ _=>[]):=
 cE tok Tryz.call232 Tryz.func232 Tryz.results232 Q Q<|dE 0 2 i6 [] 3 [] Q (c0 Q (fun _=>cW) fun x2=>eE [9,10] Q Q (cA [] Q Q)<|c0 Q (fun _=>cW) fun x3=>eE [14,15,16] Q Q (cA [] Q Q)<|eE [19,20] Q Q (fun hF=>neS Tryz.eqGuardType59 Tryz.stoodInHeld59 Tryz.underlying59 (R7 9997 p (⟨false,0,false,0⟩:eX)) Q Q Q Q Q Q<|wi hF<|cA [] Q Q)<|cA [] Q Q) fun x1=>cJ Q Q
theorem AY{c:aI}{s1:AC}(h1:bL κ s1 c.aX):V0 Tryz.prog κ 145 (mE c) [.g [I c.aK,.h s1 c.aX.length]] .b:=
 cE tok Tryz.call145 Tryz.func145 Tryz.results145 Q Q<|dE 0 1 qO [] 2 [] Q (c0 Q (fun _=>cW) fun x2=>eE [5,6] Q Q (eE [10,11,12] Q Q (fun hF=>mf [0] Q Q Q<|wi hF<|aJP [0] Q Q Q Q (fun h=>fun hB=>HT (h.a h1) (aJO (cs:=[(0,[I c.aK,.h s1 c.aX.length])]) Tryz.call232 hB Q fun hk _=>VM (rk hk (h.a h1)))) fun x3=>cA [] Q Q)<|cA [] Q Q)<|cA [] Q Q) fun x1=>cJ Q Q
theorem EM{h:Int}:V0 Tryz.prog κ 206 (f8 h) [I h] .b:=
 cE tok Tryz.call206 Tryz.func206 Tryz.results206 Q Q<|dE 0 0 kI [] 2 [] Q (c0 Q (fun _=>cW) fun x2=>eE [4,5] Q Q (cA [] Q Q)<|cA [] Q Q) fun x1=>cJ Q Q
theorem AZ{l:List aP}{s1:AC}(h_s1:bL κ s1 l):V0 Tryz.prog κ 146 (jV l) [.h s1 l.length] .b:=
 fun r hF=>aYP Tryz.call146 fun hm vs hv=>by cases hv;exact Calls.mono (aAX (hm (y7 [AC.v s1 l.length] l) h_s1) hF) fun _ _ ⟨v,h1,h2,h3⟩=>⟨v,h1,by rw [h2];rfl,h3⟩
theorem aDP{h:Int}:V0 Tryz.prog κ 111 (OM h) [I h] .b:=
 cE tok Tryz.call111 Tryz.func111 Tryz.results111 Q Q<|dE 0 0 zX [] 2 [] Q (eE [4,5] Q Q (cA [] Q Q)<|c0 Q (fun _=>EM) fun x2=>cA [] Q Q) fun x1=>cJ Q Q
theorem aBB{h:Int}:V0 Tryz.prog κ 234 (FG h) [I h] .b:=
 cE tok Tryz.call234 Tryz.func234 Tryz.results234 Q Q<|c0 Q (fun _=>aDP) fun x1=>cJ Q Q
theorem aF6{z:List Int}{s1:AC}(h1:bL κ s1 z):V0 Tryz.prog κ 147 (BP z) [.h s1 z.length] .b:=
 cE tok Tryz.call147 Tryz.func147 Tryz.results147 Q Q<|dE 0 0 CV [] 2 [] Q (eE [5,6] Q Q (c0 Q (fun h=>g9 (h.a h1) (aTR Tryz.call234 fun _=>aBB)) fun x2=>cA [] Q Q)<|cA [] Q Q) fun x1=>cJ Q Q
theorem JF{s:List aP}{f:(aP→Option Bool)}{s1:AC}{g_f:FuncId}{cap_f:List Value}(h1:bL κ s1 s)(h_f:Fu1 Tryz.prog κ (rM:QL aP) .b g_f cap_f f):V0 Tryz.prog κ 235 (pI s f) [.h s1 s.length,.k (.func (.func g_f) #[] cap_f.toArray)] I:=
 cE tok Tryz.call235 Tryz.func235 Tryz.results235 Q Q<|L9 8 [0,1,7] [] Out.brk [] [] Q Q (fun hF1 x2 hr1=>bG [9] Q Q (D4 rM Q h1 Q fun x3 s2 h2=>fun hG1=>fa1 h_f x3 s2 Q Q Q Q Q h2 hG1 fun x4 _ hG1=>wi hG1<|bG [16] Q Q (J4 hr1 hF1<|cJ Q Q)<|y9 [] Q)<|zA [] Q)<|cJ Q Q
theorem rV{s:List aP}{f:(aP→Option Bool)}{s1:AC}{g_f:FuncId}{cap_f:List Value}(h1:bL κ s1 s)(h_f:Fu1 Tryz.prog κ (rM:QL aP) .b g_f cap_f f):V0 Tryz.prog κ 148 (fC s f) [.h s1 s.length,.k (.func (.func g_f) #[] cap_f.toArray)] .b:=
 cE tok Tryz.call148 Tryz.func148 Tryz.results148 Q Q<|c0 Q (fun h=>JF (h.a h1) (h.u1 h_f)) fun x1=>cJ Q Q
theorem KQ{s:List bC}{f:(bC→Option Bool)}{s1:AC}{g_f:FuncId}{cap_f:List Value}(h1:bL κ s1 s)(h_f:Fu1 Tryz.prog κ (Q9:QL bC) .b g_f cap_f f):V0 Tryz.prog κ 236 (rL s f) [.h s1 s.length,.k (.func (.func g_f) #[] cap_f.toArray)] I:=
 cE tok Tryz.call236 Tryz.func236 Tryz.results236 Q Q<|L9 8 [0,1,7] [] Out.brk [] [] Q Q (fun hF1 x2 hr1=>bG [9] Q Q (D4 Q9 Q h1 Q fun x3 _ _=>fun hG1=>fa1 h_f x3 () Q Q Q Q Q trivial hG1 fun x4 _ hG1=>wi hG1<|bG [16] Q Q (J4 hr1 hF1<|cJ Q Q)<|y9 [] Q)<|zA [] Q)<|cJ Q Q
theorem tH{s:List bC}{f:(bC→Option Bool)}{s1:AC}{g_f:FuncId}{cap_f:List Value}(h1:bL κ s1 s)(h_f:Fu1 Tryz.prog κ (Q9:QL bC) .b g_f cap_f f):V0 Tryz.prog κ 150 (fJ s f) [.h s1 s.length,.k (.func (.func g_f) #[] cap_f.toArray)] .b:=
 cE tok Tryz.call150 Tryz.func150 Tryz.results150 Q Q<|c0 Q (fun h=>KQ (h.a h1) (h.u1 h_f)) fun x1=>cJ Q Q
theorem G8{s:List Int}{v:Int}{s1:AC}(h1:bL κ s1 s):V0 Tryz.prog κ 348 (kJ s v) [.h s1 s.length,I v] I:=
 cE tok Tryz.call348 Tryz.func348 Tryz.results348 Q Q<|L9 8 [0,1,7] [] Out.brk [] [] Q Q (fun hF1 x2 hr1=>bG [9] Q Q (K8 Q h1 Q fun x3=>bG [16] Q Q (J4 hr1 hF1<|cJ Q Q)<|y9 [] Q)<|zA [] Q)<|cJ Q Q
theorem NR{s:List Int}{v:Int}{s1:AC}(h1:bL κ s1 s):V0 Tryz.prog κ 342 (m7 s v) [.h s1 s.length,I v] .b:=
 cE tok Tryz.call342 Tryz.func342 Tryz.results342 Q Q<|c0 Q (fun h=>G8 (h.a h1)) fun x1=>cJ Q Q
theorem M9{s:aC}{k0:Int}{s1:AC}{b0:Nat×Nat}(h1:bL κ s1 s.aJ):VS Tryz.prog κ 341 (mO s k0) [.g [.h s1 s.aJ.length],.p 0 0] [b0] [.ro 0 [I k0]] (fun r (_:Unit)=>.b r) (fun _ _=>[]):=
 cE tok Tryz.call341 Tryz.func341 Tryz.results341 Q Q<|c0 Q (fun h=>NR (h.a h1)) fun x1=>cJ Q Q
theorem JG{s:List aC}{f:(aC→Option Bool)}{s1:AC}{g_f:FuncId}{cap_f:List Value}(h1:bL κ s1 s)(h_f:Fu1 Tryz.prog κ (mT:QL aC) .b g_f cap_f f):V0 Tryz.prog κ 351 (pJ s f) [.h s1 s.length,.k (.func (.func g_f) #[] cap_f.toArray)] I:=
 cE tok Tryz.call351 Tryz.func351 Tryz.results351 Q Q<|L9 8 [0,1,7] [] Out.brk [] [] Q Q (fun hF1 x2 hr1=>bG [9] Q Q (D4 mT Q h1 Q fun x3 s2 h2=>fun hG1=>fa1 h_f x3 s2 Q Q Q Q Q h2 hG1 fun x4 _ hG1=>wi hG1<|bG [16] Q Q (J4 hr1 hF1<|cJ Q Q)<|y9 [] Q)<|zA [] Q)<|cJ Q Q
theorem rW{s:List aC}{f:(aC→Option Bool)}{s1:AC}{g_f:FuncId}{cap_f:List Value}(h1:bL κ s1 s)(h_f:Fu1 Tryz.prog κ (mT:QL aC) .b g_f cap_f f):V0 Tryz.prog κ 343 (fE s f) [.h s1 s.length,.k (.func (.func g_f) #[] cap_f.toArray)] .b:=
 cE tok Tryz.call343 Tryz.func343 Tryz.results343 Q Q<|c0 Q (fun h=>JG (h.a h1) (h.u1 h_f)) fun x1=>cJ Q Q
theorem RM{l:aA}{slot:Int}{s1 s2:AC}(h1:bL κ s1 l.Global)(h2:bL κ s2 l.bB):V0 Tryz.prog κ 305 (DT l slot) [.g [.h s1 l.Global.length,.h s2 l.bB.length],I slot] .b:=
 cE tok Tryz.call305 Tryz.func305 Tryz.results305 Q Q<|fun hF=>mf [1] Q Q Q<|wi hF<|dE 0 2 zY [] 4 [] Q (aJP [1] Q Q Q Q (fun h=>fun hB=>rW (h.a h1) (aJO (cs:=[(1,[I slot])]) Tryz.call341 hB Q fun _ hy=>M9 hy)) fun x2=>eE [10,11] Q Q (cA [] Q Q)<|aJP [1] Q Q Q Q (fun h=>fun hB=>rW (h.a h2) (aJO (cs:=[(1,[I slot])]) Tryz.call341 hB Q fun _ hy=>M9 hy)) fun x3=>cA [] Q Q) fun x1=>cJ Q Q
theorem aBC{m:Mem}{slot:Int}{s1 s2 s3 s4:AC}(h1:bL κ s1 m.aB.Bytes)(h2:bL κ s2 m.aB.Class)(h3:bL κ s3 m.aA.Global)(h4:bL κ s4 m.aA.bB):V0 Tryz.prog κ 237 (FH m slot) [.g (gM m s1 s2 s3 s4),I slot] I:=
 cE tok Tryz.call237 Tryz.func237 Tryz.results237 Q Q<|c0 Q (fun h=>AW (h.a h1) (h.a h2)) fun x1=>bG [5,10] Q Q (cJ Q Q)<|c0 Q (fun h=>RM (h.a h3) (h.a h4)) fun x2=>bG [11,15] Q Q (cJ Q Q)<|c0 Q (fun h=>FV (h.a h1) (h.a h2)) fun x3=>bG [16,21] Q Q (cJ Q Q)<|cJ Q Q
theorem RN{m:Mem}{h:Int}{s1 s2 s3 s4:AC}(h1:bL κ s1 m.aB.Bytes)(h2:bL κ s2 m.aB.Class)(h3:bL κ s3 m.aA.Global)(h4:bL κ s4 m.aA.bB):V0 Tryz.prog κ 152 (yW m h) [.g (gM m s1 s2 s3 s4),I h] .b:=
 cE tok Tryz.call152 Tryz.func152 Tryz.results152 Q Q<|dE 0 1 sW [] 4 [] Q (c0 Q (fun _=>EM) fun x2=>eE [6,7] Q Q (c0 Q (fun h=>aBC (h.a h1) (h.a h2) (h.a h3) (h.a h4)) fun x3=>eE [12,13,14] Q Q (c0 Q (fun h=>FV (h.a h1) (h.a h2)) fun x4=>cA [] Q Q)<|cA [] Q Q)<|cA [] Q Q) fun x1=>cJ Q Q
theorem TU{r_:bC}{k0:aE}{s1 s2 s3 s4 s5 s6 s7:AC}{b0:Nat×Nat}(h1:bL κ s1 k0.Mem.aB.Bytes)(h2:bL κ s2 k0.Mem.aB.Class)(h3:bL κ s3 k0.Mem.aA.Global)(h4:bL κ s4 k0.Mem.aA.bB)(h5:bL κ s5 k0.aI.aX)(h6:bL κ s6 k0.aR)(h7:bL κ s7 k0.fW):VS Tryz.prog κ 151 (wT r_ k0) [.g [I r_.Handle,I r_.aK],.p 0 0] [b0] [.ro 0 (gB k0 s1 s2 s3 s4 s5 s6 s7)] (fun r (_:Unit)=>.b r) (fun _ _=>[]):=
 cE tok Tryz.call151 Tryz.func151 Tryz.results151 Q Q<|dE 0 2 pK [] 3 [] Q (c0 Q (fun h=>RN (h.a h1) (h.a h2) (h.a h3) (h.a h4)) fun x2=>eE [9,10] Q Q (cA [] Q Q)<|cA [] Q Q) fun x1=>cJ Q Q
theorem X4{l:aP}{k0:aE}{s1:AC}{s2 s3 s4 s5 s6 s7 s8:AC}{b0:Nat×Nat}(h1:bL κ s1 l.Rows)(h2:bL κ s2 k0.Mem.aB.Bytes)(h3:bL κ s3 k0.Mem.aB.Class)(h4:bL κ s4 k0.Mem.aA.Global)(h5:bL κ s5 k0.Mem.aA.bB)(h6:bL κ s6 k0.aI.aX)(h7:bL κ s7 k0.aR)(h8:bL κ s8 k0.fW):VS Tryz.prog κ 149 (CX l k0) [.g [.h s1 l.Rows.length],.p 0 0] [b0] [.ro 0 (gB k0 s2 s3 s4 s5 s6 s7 s8)] (fun r (_:Unit)=>.b r) (fun _ _=>[]):=
 cE tok Tryz.call149 Tryz.func149 Tryz.results149 Q Q<|fun hF=>mf [0] Q Q Q<|wi hF<|aJP [0] Q Q Q Q (fun h=>fun hB=>tH (h.a h1) (aJO (cs:=[(0,(gB k0 s2 s3 s4 s5 s6 s7 s8))]) Tryz.call151 hB Q fun hk _=>TU (rk hk (h.a h2)) (rk hk (h.a h3)) (rk hk (h.a h4)) (rk hk (h.a h5)) (rk hk (h.a h6)) (rk hk (h.a h7)) (rk hk (h.a h8)))) fun x1=>cJ Q Q
theorem JH{b:aE}{s1 s2 s3 s4 s5 s6 s7:AC}(h1:bL κ s1 b.Mem.aB.Bytes)(h2:bL κ s2 b.Mem.aB.Class)(h3:bL κ s3 b.Mem.aA.Global)(h4:bL κ s4 b.Mem.aA.bB)(h5:bL κ s5 b.aI.aX)(h6:bL κ s6 b.aR)(h7:bL κ s7 b.fW):V0 Tryz.prog κ 63 (yX b) [.g (gB b s1 s2 s3 s4 s5 s6 s7)] .b:=
 cE tok Tryz.call63 Tryz.func63 Tryz.results63 Q Q<|dE 0 1 (nU b) [1] 24 [0] Q (c0 Q (fun h=>LP (h.a h1) (h.a h2) (h.a h3) (h.a h4)) fun x3=>eE [6,7] Q Q (cA [0] Q Q)<|c0 Q (fun h=>AY (h.a h5)) fun x4=>eE [11,12,13] Q Q (cA [0] Q Q)<|c0 Q (fun h=>AZ (h.a h6)) fun x5=>eE [17,18,19] Q Q (cA [0] Q Q)<|c0 Q (fun h=>aF6 (h.a h7)) fun x6=>cA [0] Q Q) fun x1=>bG [24] Q Q (cJ Q Q)<|fun hF=>mf [0] Q Q Q<|wi hF<|aJP [0] Q Q Q Q (fun h=>fun hB=>rV (h.a h6) (aJO (cs:=[(0,(gB b s1 s2 s3 s4 s5 s6 s7))]) Tryz.call149 hB Q fun hk hy=>X4 hy (rk hk (h.a h1)) (rk hk (h.a h2)) (rk hk (h.a h3)) (rk hk (h.a h4)) (rk hk (h.a h5)) (rk hk (h.a h6)) (rk hk (h.a h7)))) fun x2=>cJ Q Q
theorem WK{is:Bool}:V0 Tryz.prog κ 65 (P9 is) [.b is] I:=
 cE tok Tryz.call65 Tryz.func65 Tryz.results65 Q Q<|bG [0,3] Q Q (cJ Q Q)<|cJ Q Q
theorem EN{b:aE}{s1 s2 s3 s4 s5 s6 s7:AC}(h1:bL κ s1 b.Mem.aB.Bytes)(h2:bL κ s2 b.Mem.aB.Class)(h3:bL κ s3 b.Mem.aA.Global)(h4:bL κ s4 b.Mem.aA.bB)(h5:bL κ s5 b.aI.aX)(h6:bL κ s6 b.aR)(h7:bL κ s7 b.fW):V0 Tryz.prog κ 23 (kA b) [.g (gB b s1 s2 s3 s4 s5 s6 s7)] .s:=
 cE tok Tryz.call23 Tryz.func23 Tryz.results23 Q Q<|c0 Q (fun h=>JH (h.a h1) (h.a h2) (h.a h3) (h.a h4) (h.a h5) (h.a h6) (h.a h7)) fun x1=>bG [14] Q Q (cJ Q Q)<|eG aD [0] Q<|c0 Q (fun h=>G7 (h.a h1) (h.a h2) (h.a h3) (h.a h4)) fun x2=>c0 Q (fun _=>kZ) fun x3=>fun hF=>cat Q Q Q Q hF fun hF=>wi hF<|tS () [1,25,26] (fun(p:(List UInt8)×Int) (_:Unit)=>[(3,.s p.1),(27,I p.2)]) [0] [0] (fun p _=>[]) id [1] (fun(x8:(List UInt8)) (_:Unit)=>[(3,.s x8)]) [0] (fun x8 _=>[]) Q Q (fun hF1 ⟨x6,x7⟩ _ hr1=>bG [28] Q Q (D4 aAY Q h5 Q fun x31 _ _=>eG aD [0,1,2] Q<|c0 Q (fun _=>WK) fun x32=>c0 Q (fun _=>kZ) fun x33=>c0 Q (fun _=>kZ) fun x34=>fun hG1=>cat Q Q Q Q hG1 fun hG1=>wi hG1<|c0 Q (fun _=>WK) fun x35=>c0 Q (fun _=>kZ) fun x36=>fun hG1=>cat Q Q Q Q hG1 fun hG1=>wi hG1<|c0 Q (fun _=>kZ) fun x37=>fun hG1=>cat Q Q Q Q hG1 fun hG1=>cat Q Q Q Q hG1 fun hG1=>wi hG1<|y9 [0] Q)<|zA [0] Q) fun x8 _=>tS () [1,52,53] (fun(p:(List UInt8)×Int) (_:Unit)=>[(3,.s p.1),(54,I p.2)]) [0] [0] (fun p _=>[]) id [1] (fun(x13:(List UInt8)) (_:Unit)=>[(3,.s x13)]) [0] (fun x13 _=>[]) Q Q (fun hF2 ⟨x11,x12⟩ _ hr2=>bG [55] Q Q (D4 rM Q h6 Q fun x21 s8 h8=>c0 Q (fun _=>kZ) fun x22=>fun hG2=>cat Q Q Q Q hG2 fun hG2=>wi hG2<|tS () [1,52,53,54,65,66] (fun(p:(List UInt8)×Int) (_:Unit)=>[(3,.s p.1),(67,I p.2)]) [0] [0] (fun p _=>[]) id [1,52,53,54] (fun(x27:(List UInt8)) (_:Unit)=>[(3,.s x27)]) [0] (fun x27 _=>[]) Q Q (fun hF4 ⟨x25,x26⟩ _ hr4=>bG [68] Q Q (D4 Q9 Q h8 Q fun x28 _ _=>eG aD [0,1,2] Q<|c0 Q (fun _=>kZ) fun x29=>c0 Q (fun _=>kZ) fun x30=>fun hG4=>cat Q Q Q Q hG4 fun hG4=>cat Q Q Q Q hG4 fun hG4=>wi hG4<|y9 [0] Q)<|zA [0] Q) fun x27 _=>y9 [0] Q)<|zA [0] Q) fun x13 _=>tS () [83,84] (fun(p:(List UInt8)×Int) (_:Unit)=>[(3,.s p.1),(85,I p.2)]) [] [] (fun p _=>[]) id [] (fun(x18:(List UInt8)) (_:Unit)=>[(3,.s x18)]) [] (fun x18 _=>[]) Q Q (fun hF3 ⟨x16,x17⟩ _ hr3=>bG [86] Q Q (K8 Q h7 Q fun x19=>c0 Q (fun _=>kZ) fun x20=>fun hG3=>cat Q Q Q Q hG3 fun hG3=>wi hG3<|y9 [] Q)<|zA [] Q) fun x18 _=>cJ Q Q
theorem pQ{r_:Reader}{b0:Nat×Nat}:VS Tryz.prog κ 153 (fU r_) [.p 0 0] [b0] [.box 0 [.s r_.left.b,.b r_.bad]] (fun(r:Int×Reader) (y:Unit)=>I r.1) (fun(r:Int×Reader) (y:Unit)=>[.box 0 [.s r.2.left.b,.b r.2.bad]]):=
 cE tok Tryz.call153 Tryz.func153 Tryz.results153 Q Q<|bG [8] Q Q (dV () [0] Q Q)<|fun hF=>qsi Q Q Q Q Q hF fun x1 _ hF=>aEH Q Q Q Q Q hF fun hF=>wi hF<|dV () [0] Q Q
theorem aBD{s:List UInt8}:V0 Tryz.prog κ 155 (uD s) [.s s] (fun r=>.t [I r.1,I r.2]):=
 cE tok Tryz.call155 Tryz.func155 Tryz.results155 Q Q<|fun hF=>aZ5 Q Q Q Q<|wi hF<|tS () [0,8] (fun(p:Int×Int) (_:Unit)=>[(4,I p.1),(9,I p.2)]) [] [] (fun p _=>[]) Out.brk [] (fun(_:Unit) (_:Unit)=>[]) [] (fun _ _=>[]) Q Q (fun hF1 ⟨x3,x4⟩ _ hr1=>bG [10] Q Q (fun hG1=>qsi Q Q Q Q Q hG1 fun x5 _ hG1=>aYO Q Q Q Q hG1 fun hG1=>qsi Q Q Q Q Q hG1 fun x6 _ hG1=>wi hG1<|bG [26] Q Q (dE 0 0 (wU x3 x4 x5) [4,5] 34 [] Q (eE [28,29] Q Q (fun hG1=>qsi Q Q Q Q Q hG1 fun x8 _ hG1=>wi hG1<|cA [] Q Q)<|cA [] Q Q) fun x7=>bG [34] Q Q (zA [] Q)<|J4 hr1 hF1<|cJ Q Q)<|y9 [] Q)<|zA [] Q) fun() _=>cJ Q Q
theorem cO{r_:Reader}{b0:Nat×Nat}:VS Tryz.prog κ 67 (aT r_) [.p 0 0] [b0] [.box 0 [.s r_.left.b,.b r_.bad]] (fun(r:Int×Reader) (y:Unit)=>I r.1) (fun(r:Int×Reader) (y:Unit)=>[.box 0 [.s r.2.left.b,.b r.2.bad]]):=
 cE tok Tryz.call67 Tryz.func67 Tryz.results67 Q Q<|c0 Q (fun _=>aBD) fun x1=>dB 0 1 (hO r_ x1) [0,3,4] (fun(x2:Bool) (_:Unit)=>[]) [] (fun x2 _=>[.box 0 [.s r_.left.b,.b x2]]) Q (eE [17,18] Q Q (cA [0] Q Q)<|cA [0] Q Q) fun x2 _=>fun hF=>aEH Q Q Q Q Q hF fun hF=>wi hF<|dV () [0] Q Q
theorem EZ{r_:Reader}{b0:Nat×Nat}:VS Tryz.prog κ 68 (d8 r_) [.p 0 0] [b0] [.box 0 [.s r_.left.b,.b r_.bad]] (fun(r:Int×Reader) (y:Unit)=>I r.1) (fun(r:Int×Reader) (y:Unit)=>[.box 0 [.s r.2.left.b,.b r.2.bad]]):=
 cE tok Tryz.call68 Tryz.func68 Tryz.results68 Q Q<|bM 0 0 0 2 [] Q Q Q Q Q (fun _=>cO) fun x1 _=>bG [12] Q Q (dV () [0] Q Q)<|dV () [0] Q Q
theorem pR{r_:Reader}{b0:Nat×Nat}:VS Tryz.prog κ 154 (eJ r_) [.p 0 0] [b0] [.box 0 [.s r_.left.b,.b r_.bad]] (fun(r:aC×Reader) (y:AC)=>.g [.h y r.1.aJ.length]) (fun(r:aC×Reader) (y:AC)=>[.box 0 [.s r.2.left.b,.b r.2.bad],ow y r.1.aJ]):=
 cE tok Tryz.call154 Tryz.func154 Tryz.results154 Q Q<|bM 0 0 0 2 [] Q Q Q Q Q (fun _=>EZ) fun x1 _=>fun hF=>nw Int Q<|wi hF<|tS ⟨none,0⟩ [0,2,3,6] (fun(p:Int×(List UInt8)×Bool×(List Int)) (s2:AC)=>[(7,I p.1)]) [0,3,2,1] [1] (fun p s2=>[.box 0 [.s p.2.1,.b p.2.2.1],ow s2 (p.2.2.2:List Int),.box 2 [.h s2 p.2.2.2.length]]) id [0,2,3] (fun(p:(List UInt8)×Bool×(List Int)) (s3:AC)=>[]) [1] (fun p s3=>[.box 0 [.s p.1,.b p.2.1],ow s3 (p.2.2:List Int),.box 2 [.h s3 p.2.2.length]]) Q Q (fun hF1 ⟨x6,x7,x8,x9⟩ s2 hr1=>bG [8] Q Q (dB 0 3 (fun(p:(List UInt8)×Bool×(List Int))=>m8 x6 p.1 p.2.1 p.2.2) [0,2,3,6,7] (fun(p:(List UInt8)×Bool×(List Int)) (s4:AC)=>[]) [3] (fun p s4=>[.box 0 [.s p.1,.b p.2.1],ow s4 (p.2.2:List Int),.box 2 [.h s4 p.2.2.length]]) Q (eG aD [3] Q<|fun hG1=>bd hG1 fun x16 hA1 hG1=>nd hG1 fun hA2 hG1=>cQ Q Q (have hq1:=rb hA1;wi hq1<|bM 0 0 0 2 [] Q Q Q Q Q (fun _=>cO (r_:=(⟨(⟨x7⟩:pU),x8⟩:Reader))) fun u1 _=>fun hq1=>match u1,hq1 with | _,rfl=>NP Q aQ Q Q Q Q fun s7=>have hq2:=rn hA2;ap 1 aQ Q Q Q Q Q Q Q (fun h=>(h.o 4 Q)) Q Q hq2 fun hq2 s8=>wi hG1<|eP (p:=(x16.2.left.b,x16.2.bad,x9++([x16.1]))) s8 [0,1,2,3] Q Q) (have hq3:=rb hA1;wi hq3<|bM 0 0 0 2 [] Q Q Q Q Q (fun _=>cO (r_:=(⟨(⟨x7⟩:pU),x8⟩:Reader))) fun u2 _=>fun hq3=>match u2,hq3 with | _,rfl=>cQ Q Q (NP Q aQ Q Q Q Q fun s9=>have hq4:=rn hA2;ap 1 aQ Q Q Q Q Q Q Q (fun h=>(h.o 4 Q)) Q Q hq4 fun hq4 s10=>wi hG1<|eP (p:=(x16.2.left.b,x16.2.bad,x9++([x16.1]))) s10 [0,1,2,3] Q Q) (NP Q aQ Q Q Q Q fun s11=>have hq5:=rn hA2;ap 1 aQ Q Q Q Q Q Q Q (fun h=>(h.o 4 Q)) Q Q hq5 fun hq5 s12=>wi hG1<|eP (p:=(x16.2.left.b,x16.2.bad,x9++([x16.1]))) s12 [0,1,2,3] Q Q))) fun⟨x13,x14,x15⟩ s4=>GA s4 [0,1,2,3] Q)<|HP s2 [0,1,2,3] Q) fun⟨x10,x11,x12⟩ s3=>dV s3 [0,1] Q Q
theorem IN{r_:Reader}{b0:Nat×Nat}:VS Tryz.prog κ 66 (jK r_) [.p 0 0] [b0] [.box 0 [.s r_.left.b,.b r_.bad]] (fun(r:Mem×Reader) (y:VI)=>.g (yM r.1 y)) (fun(r:Mem×Reader) (y:VI)=>([.box 0 [.s r.2.left.b,.b r.2.bad]]++(zM r.1 y []))):=
 cE tok Tryz.call66 Tryz.func66 Tryz.results66 Q Q<|fun hF=>nw Int Q<|wi hF<|tS ⟨none,0⟩ [0,2,3] (fun(p:Int×(List UInt8)×Bool×(List Int)) (s2:AC)=>[(5,I p.1)]) [0,3,2,1] [1] (fun p s2=>[.box 0 [.s p.2.1,.b p.2.2.1],ow s2 (p.2.2.2:List Int),.box 2 [.h s2 p.2.2.2.length,.h ⟨none,0⟩ 0,.h ⟨none,0⟩ 0,.h ⟨none,0⟩ 0]]) id [0,2,3] (fun(p:(List UInt8)×Bool×(List Int)) (s3:AC)=>[]) [1] (fun p s3=>[.box 0 [.s p.1,.b p.2.1],ow s3 (p.2.2:List Int),.box 2 [.h s3 p.2.2.length,.h ⟨none,0⟩ 0,.h ⟨none,0⟩ 0,.h ⟨none,0⟩ 0]]) Q Q (fun hF1 ⟨x5,x6,x7,x8⟩ s2 hr1=>bG [6] Q Q (dB 0 3 (fun(p:(List UInt8)×Bool×(List Int))=>yC x5 p.1 p.2.1 p.2.2) [0,2,3,5] (fun(p:(List UInt8)×Bool×(List Int)) (s46:AC)=>[]) [3] (fun p s46=>[.box 0 [.s p.1,.b p.2.1],ow s46 (p.2.2:List Int),.box 2 [.h s46 p.2.2.length,.h ⟨none,0⟩ 0,.h ⟨none,0⟩ 0,.h ⟨none,0⟩ 0]]) Q (eG aD [3] Q<|fun hG1=>bd hG1 fun x60 hA7 hG1=>nd hG1 fun hA8 hG1=>cQ Q Q (have hq16:=rb hA7;wi hq16<|bM 0 0 0 2 [] Q Q Q Q Q (fun _=>pQ (r_:=(⟨(⟨x6⟩:pU),x7⟩:Reader))) fun u7 _=>fun hq16=>match u7,hq16 with | _,rfl=>NP Q aQ Q Q Q Q fun s49=>have hq17:=rn hA8;ap 1 aQ Q Q Q Q Q Q Q (fun h=>(h.o 4 Q)) Q Q hq17 fun hq17 s50=>wi hG1<|eP (p:=(x60.2.left.b,x60.2.bad,x8++([x60.1]))) s50 [0,1,2,3] Q Q) (have hq18:=rb hA7;wi hq18<|bM 0 0 0 2 [] Q Q Q Q Q (fun _=>pQ (r_:=(⟨(⟨x6⟩:pU),x7⟩:Reader))) fun u8 _=>fun hq18=>match u8,hq18 with | _,rfl=>cQ Q Q (NP Q aQ Q Q Q Q fun s51=>have hq19:=rn hA8;ap 1 aQ Q Q Q Q Q Q Q (fun h=>(h.o 4 Q)) Q Q hq19 fun hq19 s52=>wi hG1<|eP (p:=(x60.2.left.b,x60.2.bad,x8++([x60.1]))) s52 [0,1,2,3] Q Q) (NP Q aQ Q Q Q Q fun s53=>have hq20:=rn hA8;ap 1 aQ Q Q Q Q Q Q Q (fun h=>(h.o 4 Q)) Q Q hq20 fun hq20 s54=>wi hG1<|eP (p:=(x60.2.left.b,x60.2.bad,x8++([x60.1]))) s54 [0,1,2,3] Q Q))) fun⟨x57,x58,x59⟩ s46=>GA s46 [0,1,2,3] Q)<|HP s2 [0,1,2,3] Q) fun⟨x9,x10,x11⟩ s3=>fun hF=>nw Int Q<|wi hF<|tS ⟨none,0⟩ [0,2,3] (fun(p:Int×(List UInt8)×Bool×(List Int)) (s5:AC)=>[(17,I p.1)]) [0,4,2,3,1] [3,1] (fun p s5=>[.box 0 [.s p.2.1,.b p.2.2.1],ow s5 (p.2.2.2:List Int),.box 2 [.h s3 x11.length,.h s5 p.2.2.2.length,.h ⟨none,0⟩ 0,.h ⟨none,0⟩ 0]]) id [0,2,3] (fun(p:(List UInt8)×Bool×(List Int)) (s6:AC)=>[]) [3,1] (fun p s6=>[.box 0 [.s p.1,.b p.2.1],ow s6 (p.2.2:List Int),.box 2 [.h s3 x11.length,.h s6 p.2.2.length,.h ⟨none,0⟩ 0,.h ⟨none,0⟩ 0]]) Q Q (fun hF2 ⟨x16,x17,x18,x19⟩ s5 hr2=>bG [18] Q Q (dB 0 3 (fun(p:(List UInt8)×Bool×(List Int))=>xX x16 p.1 p.2.1 p.2.2) [0,2,3,17] (fun(p:(List UInt8)×Bool×(List Int)) (s37:AC)=>[]) [3,4] (fun p s37=>[.box 0 [.s p.1,.b p.2.1],ow s37 (p.2.2:List Int),.box 2 [.h s3 x11.length,.h s37 p.2.2.length,.h ⟨none,0⟩ 0,.h ⟨none,0⟩ 0]]) Q (eG aD [3] Q<|fun hG2=>bd hG2 fun x56 hA5 hG2=>nd hG2 fun hA6 hG2=>cQ Q Q (have hq11:=rb hA5;wi hq11<|bM 0 0 0 2 [] Q Q Q Q Q (fun _=>pQ (r_:=(⟨(⟨x17⟩:pU),x18⟩:Reader))) fun u5 _=>fun hq11=>match u5,hq11 with | _,rfl=>NP Q aQ Q Q Q Q fun s40=>have hq12:=rn hA6;ap 1 aQ Q Q Q Q Q Q Q (fun h=>(h.o 5 Q)) Q Q hq12 fun hq12 s41=>wi hG2<|eP (p:=(x56.2.left.b,x56.2.bad,x19++([aV (x56.1 - 1)]))) s41 [0,1,2,3,4] Q Q) (have hq13:=rb hA5;wi hq13<|bM 0 0 0 2 [] Q Q Q Q Q (fun _=>pQ (r_:=(⟨(⟨x17⟩:pU),x18⟩:Reader))) fun u6 _=>fun hq13=>match u6,hq13 with | _,rfl=>cQ Q Q (NP Q aQ Q Q Q Q fun s42=>have hq14:=rn hA6;ap 1 aQ Q Q Q Q Q Q Q (fun h=>(h.o 5 Q)) Q Q hq14 fun hq14 s43=>wi hG2<|eP (p:=(x56.2.left.b,x56.2.bad,x19++([aV (x56.1 - 1)]))) s43 [0,1,2,3,4] Q Q) (NP Q aQ Q Q Q Q fun s44=>have hq15:=rn hA6;ap 1 aQ Q Q Q Q Q Q Q (fun h=>(h.o 5 Q)) Q Q hq15 fun hq15 s45=>wi hG2<|eP (p:=(x56.2.left.b,x56.2.bad,x19++([aV (x56.1 - 1)]))) s45 [0,1,2,3,4] Q Q))) fun⟨x53,x54,x55⟩ s37=>GA s37 [0,1,2,3,4] Q)<|HP s5 [0,1,2,3,4] Q) fun⟨x20,x21,x22⟩ s6=>fun hF=>nw aC Q<|wi hF<|tS ⟨none,0⟩ [0,2,3] (fun(p:Int×(List UInt8)×Bool×(List aC)) (s8:AC)=>[(30,I p.1)]) [0,5,2,3,4,1] [3,4,1] (fun p s8=>[.box 0 [.s p.2.1,.b p.2.2.1],ow s8 (p.2.2.2:List aC),.box 2 [.h s3 x11.length,.h s6 x22.length,.h s8 p.2.2.2.length,.h ⟨none,0⟩ 0]]) id [0,2,3] (fun(p:(List UInt8)×Bool×(List aC)) (s9:AC)=>[]) [3,4,1] (fun p s9=>[.box 0 [.s p.1,.b p.2.1],ow s9 (p.2.2:List aC),.box 2 [.h s3 x11.length,.h s6 x22.length,.h s9 p.2.2.length,.h ⟨none,0⟩ 0]]) Q Q (fun hF3 ⟨x27,x28,x29,x30⟩ s8 hr3=>bG [31] Q Q (dB 0 3 (fun(p:(List UInt8)×Bool×(List aC))=>xT x27 p.1 p.2.1 p.2.2) [0,2,3,30] (fun(p:(List UInt8)×Bool×(List aC)) (s25:AC)=>[]) [3,4,5] (fun p s25=>[.box 0 [.s p.1,.b p.2.1],ow s25 (p.2.2:List aC),.box 2 [.h s3 x11.length,.h s6 x22.length,.h s25 p.2.2.length,.h ⟨none,0⟩ 0]]) Q (eG aD [3] Q<|fun hG3=>bd hG3 fun x52 hA3 hG3=>nd hG3 fun hA4 hG3=>cQ Q Q (have hq6:=rb hA3;wi hq6<|bM 0 0 0 2 [] Q Q Q Q Q (fun _=>pR (r_:=(⟨(⟨x28⟩:pU),x29⟩:Reader))) fun u3 s29=>fun hq6=>match u3,hq6 with | _,rfl=>IW cT [6] (x52.1) s29 bO Q Q Q Q Q Q Q Q Q Q Q Q Q fun s30=>have hq7:=rn hA4;apN 1 7 bO Q Q Q Q Q Q Q Q Q Q Q hq7 fun hq7 s31=>wi hG3<|eP (p:=(x52.2.left.b,x52.2.bad,x30++([x52.1]))) s31 [0,8,2,3,4,5] Q Q) (have hq8:=rb hA3;wi hq8<|bM 0 0 0 2 [] Q Q Q Q Q (fun _=>pR (r_:=(⟨(⟨x28⟩:pU),x29⟩:Reader))) fun u4 s32=>fun hq8=>match u4,hq8 with | _,rfl=>cQ Q Q (IW cT [6] (x52.1) s32 bO Q Q Q Q Q Q Q Q Q Q Q Q Q fun s33=>have hq9:=rn hA4;apN 1 7 bO Q Q Q Q Q Q Q Q Q Q Q hq9 fun hq9 s34=>wi hG3<|eP (p:=(x52.2.left.b,x52.2.bad,x30++([x52.1]))) s34 [0,8,2,3,4,5] Q Q) (IW cT [6] (x52.1) s32 bO Q Q Q Q Q Q Q Q Q Q Q Q Q fun s35=>have hq10:=rn hA4;apN 1 7 bO Q Q Q Q Q Q Q Q Q Q Q hq10 fun hq10 s36=>wi hG3<|eP (p:=(x52.2.left.b,x52.2.bad,x30++([x52.1]))) s36 [0,8,2,3,4,5] Q Q))) fun⟨x49,x50,x51⟩ s25=>GA s25 [0,1,2,3,4,5] Q)<|HP s8 [0,1,2,3,4,5] Q) fun⟨x31,x32,x33⟩ s9=>fun hF=>nw aC Q<|wi hF<|tS ⟨none,0⟩ [0,2,3] (fun(p:Int×(List UInt8)×Bool×Mem) (s11:AC)=>[(42,I p.1)]) [0,4,5,1,6,2,3] [3] (fun p s11=>([.box 0 [.s p.2.1,.b p.2.2.1]]++(oM p.2.2.2 s3 s6 s9 s11 [.box 2 (gM p.2.2.2 s3 s6 s9 s11)]))) id [0,2,3] (fun(p:(List UInt8)×Bool×Mem) (s12:AC)=>[]) [3] (fun p s12=>([.box 0 [.s p.1,.b p.2.1]]++(oM p.2.2 s3 s6 s9 s12 [.box 2 (gM p.2.2 s3 s6 s9 s12)]))) Q Q (fun hF4 ⟨x38,x39,x40,x41⟩ s11 hr4=>bG [43] Q Q (dB 0 3 (fun(p:(List UInt8)×Bool×Mem)=>xQ x38 p.1 p.2.1 p.2.2) [0,2,3,42] (fun(p:(List UInt8)×Bool×Mem) (s13:AC)=>[]) [6] (fun p s13=>([.box 0 [.s p.1,.b p.2.1]]++(oM p.2.2 s3 s6 s9 s13 [.box 2 (gM p.2.2 s3 s6 s9 s13)]))) Q (eG aD [6] Q<|fun hG4=>bd hG4 fun x48 hA1 hG4=>nd hG4 fun hA2 hG4=>cQ Q Q (have hq1:=rb hA1;wi hq1<|bM 0 0 0 2 [] Q Q Q Q Q (fun _=>pR (r_:=(⟨(⟨x39⟩:pU),x40⟩:Reader))) fun u1 s17=>fun hq1=>match u1,hq1 with | _,rfl=>IW cT [7] (x48.1) s17 bO Q Q Q Q Q Q Q Q Q Q Q Q Q fun s18=>have hq2:=rn hA2;apN 4 8 bO Q Q Q Q Q Q Q Q Q Q Q hq2 fun hq2 s19=>wi hG4<|eP (p:=(x48.2.left.b,x48.2.bad,(⟨x41.aB,(⟨x41.aA.Global,x41.aA.bB++([x48.1])⟩:aA)⟩:Mem))) s19 [0,1,2,3,9,5,6] Q Q) (have hq3:=rb hA1;wi hq3<|bM 0 0 0 2 [] Q Q Q Q Q (fun _=>pR (r_:=(⟨(⟨x39⟩:pU),x40⟩:Reader))) fun u2 s20=>fun hq3=>match u2,hq3 with | _,rfl=>cQ Q Q (IW cT [7] (x48.1) s20 bO Q Q Q Q Q Q Q Q Q Q Q Q Q fun s21=>have hq4:=rn hA2;apN 4 8 bO Q Q Q Q Q Q Q Q Q Q Q hq4 fun hq4 s22=>wi hG4<|eP (p:=(x48.2.left.b,x48.2.bad,(⟨x41.aB,(⟨x41.aA.Global,x41.aA.bB++([x48.1])⟩:aA)⟩:Mem))) s22 [0,1,2,3,9,5,6] Q Q) (IW cT [7] (x48.1) s20 bO Q Q Q Q Q Q Q Q Q Q Q Q Q fun s23=>have hq5:=rn hA2;apN 4 8 bO Q Q Q Q Q Q Q Q Q Q Q hq5 fun hq5 s24=>wi hG4<|eP (p:=(x48.2.left.b,x48.2.bad,(⟨x41.aB,(⟨x41.aA.Global,x41.aA.bB++([x48.1])⟩:aA)⟩:Mem))) s24 [0,1,2,3,9,5,6] Q Q))) fun⟨x45,x46,x47⟩ s13=>GA s13 [0,1,2,3,4,5,6] Q)<|HP s11 [0,1,2,3,4,5,6] Q) fun⟨x42,x43,x44⟩ s12=>dV (s3,s6,s9,s12) [0,1,2,3,4] Q Q
theorem NA{s:List UInt8}:VS Tryz.prog κ 24 (mP s) [.s s] [] [] (fun r (y:QB)=>.t [.g (yB r.1 y),.b r.2]) (fun r y=>(zB r.1 y [])):=
 cE tok Tryz.call24 Tryz.func24 Tryz.results24 Q Q<|fun hF=>bx 1 Q Q Q<|wi hF<|bM 1 1 0 2 [] Q Q Q Q Q (fun _=>IN (r_:=(⟨(⟨s⟩:pU),false⟩:Reader))) fun x1 s1=>bM 1 1 0 2 [] Q Q Q Q Q (fun _=>cO) fun x2 _=>fun hF=>nw eX Q<|wi hF<|tS ⟨none,0⟩ [0,2,4,5] (fun(p:Int×(List UInt8)×Bool×(List eX)) (s3:AC)=>[(20,I p.1)]) [1,7,6,0,2,3,4,5] [0,2,3,4,5] (fun p s3=>[.box 1 [.s p.2.1,.b p.2.2.1],ow s3 (p.2.2.2:List eX),.box 2 [.h s1.1 x1.1.aB.Bytes.length,.h s1.2.1 x1.1.aB.Class.length,.h s1.2.2.1 x1.1.aA.Global.length,.h s1.2.2.2 x1.1.aA.bB.length,I x2.1,.h s3 p.2.2.2.length,.h ⟨none,0⟩ 0,.h ⟨none,0⟩ 0]]) id [0,2,4,5] (fun(p:(List UInt8)×Bool×aE) (s4:AC)=>[]) [0] (fun p s4=>([.box 1 [.s p.1,.b p.2.1]]++(zM p.2.2.Mem s1 [ow s4 (p.2.2.aI.aX:List eX),.box 2 [.h s1.1 p.2.2.Mem.aB.Bytes.length,.h s1.2.1 p.2.2.Mem.aB.Class.length,.h s1.2.2.1 p.2.2.Mem.aA.Global.length,.h s1.2.2.2 p.2.2.Mem.aA.bB.length,I p.2.2.aI.aK,.h s4 p.2.2.aI.aX.length,.h ⟨none,0⟩ 0,.h ⟨none,0⟩ 0]]))) Q Q (fun hF1 ⟨x7,x8,x9,x10⟩ s3 hr1=>bG [21] Q Q (bM 0 1 0 2 [] Q Q Q Q Q (fun _=>cO (r_:=(⟨(⟨x8⟩:pU),x9⟩:Reader))) fun x59 _=>bM 0 1 0 2 [] Q Q Q Q Q (fun _=>cO) fun x60 _=>bM 0 1 0 2 [] Q Q Q Q Q (fun _=>cO) fun x61 _=>bM 0 1 0 2 [] Q Q Q Q Q (fun _=>cO) fun x62 _=>fun hG1=>IW CA [] ((⟨x59.1 == 1,x60.1,x61.1 == 1,x62.1⟩:eX)) () pP Q Q Q Q Q Q Q Q Q Q Q Q Q fun s27=>ap 1 pP Q Q Q Q Q Q Q (fun h=>(h.o 8 Q)) Q Q hG1 fun hG1 s28=>wi hG1<|GA s28 [0,1,2,3,4,5,6,7] Q)<|HP s3 [0,4,5,6,7,1,2,3] Q) fun⟨x11,x12,x13⟩ s4=>fun hF=>nw aP Q<|wi hF<|tS ⟨none,0⟩ [0,2,4,5] (fun(p:Int×(List UInt8)×Bool×aE) (s6:AC)=>[(41,I p.1)]) [0,1,2,3,4,5,8,6,7] [7] (fun p s6=>([.box 1 [.s p.2.1,.b p.2.2.1]]++(zM p.2.2.2.Mem s1 [ow s4 (p.2.2.2.aI.aX:List eX),ow s6 (p.2.2.2.aR:List aP),.box 2 [.h s1.1 p.2.2.2.Mem.aB.Bytes.length,.h s1.2.1 p.2.2.2.Mem.aB.Class.length,.h s1.2.2.1 p.2.2.2.Mem.aA.Global.length,.h s1.2.2.2 p.2.2.2.Mem.aA.bB.length,I p.2.2.2.aI.aK,.h s4 p.2.2.2.aI.aX.length,.h s6 p.2.2.2.aR.length,.h ⟨none,0⟩ 0]]))) id [0,2,4,5] (fun(p:(List UInt8)×Bool×aE) (s7:AC)=>[]) [7] (fun p s7=>([.box 1 [.s p.1,.b p.2.1]]++(zM p.2.2.Mem s1 [ow s4 (p.2.2.aI.aX:List eX),ow s7 (p.2.2.aR:List aP),.box 2 [.h s1.1 p.2.2.Mem.aB.Bytes.length,.h s1.2.1 p.2.2.Mem.aB.Class.length,.h s1.2.2.1 p.2.2.Mem.aA.Global.length,.h s1.2.2.2 p.2.2.Mem.aA.bB.length,I p.2.2.aI.aK,.h s4 p.2.2.aI.aX.length,.h s7 p.2.2.aR.length,.h ⟨none,0⟩ 0]]))) Q Q (fun hF2 ⟨x18,x19,x20,x21⟩ s6 hr2=>bG [42] Q Q (bM 0 1 0 2 [] Q Q Q Q Q (fun _=>EZ (r_:=(⟨(⟨x19⟩:pU),x20⟩:Reader))) fun x44 _=>fun hG2=>nw bC Q<|wi hG2<|tS ⟨none,0⟩ [0,2,4,5,10,41,44] (fun(p:Int×(List UInt8)×Bool×(List bC)) (s21:AC)=>[(45,I p.1)]) [0,10,9,8,1,2,3,4,5,6,7] [8,1,2,3,4,5,6,7] (fun p s21=>[.box 1 [.s p.2.1,.b p.2.2.1],ow s21 (p.2.2.2:List bC),.box 3 [.h s21 p.2.2.2.length]]) id [0,2,4,5,10,41] (fun(p:(List UInt8)×Bool×aE×(List bC)) (s22:AC)=>[]) [8] (fun p s22=>([.box 1 [.s p.1,.b p.2.1]]++(zM p.2.2.1.Mem s1 [ow s4 (p.2.2.1.aI.aX:List eX),ow s6 (p.2.2.1.aR:List aP),.box 2 [.h s1.1 p.2.2.1.Mem.aB.Bytes.length,.h s1.2.1 p.2.2.1.Mem.aB.Class.length,.h s1.2.2.1 p.2.2.1.Mem.aA.Global.length,.h s1.2.2.2 p.2.2.1.Mem.aA.bB.length,I p.2.2.1.aI.aK,.h s4 p.2.2.1.aI.aX.length,.h s6 p.2.2.1.aR.length,.h ⟨none,0⟩ 0],ow s22 (p.2.2.2:List bC),.box 3 [.h s22 p.2.2.2.length]]))) Q Q (fun hF6 ⟨x49,x50,x51,x52⟩ s21 hr6=>bG [46] Q Q (bM 0 1 0 2 [] Q Q Q Q Q (fun _=>cO (r_:=(⟨(⟨x50⟩:pU),x51⟩:Reader))) fun x57 _=>bM 0 1 0 2 [] Q Q Q Q Q (fun _=>cO) fun x58 _=>fun hG6=>IW iS [] ((⟨x57.1,x58.1⟩:bC)) () cC Q Q Q Q Q Q Q Q Q Q Q Q Q fun s25=>ap 1 cC Q Q Q Q Q Q Q (fun h=>(h.o 11 Q)) Q Q hG6 fun hG6 s26=>wi hG6<|GA s26 [0,1,2,3,4,5,6,7,8,9,10] Q)<|HP s21 [0,4,5,6,7,8,9,10,1,2,3] Q) fun⟨x53,x54,x55,x56⟩ s22=>fun hG2=>IW eA [8] ((⟨x56⟩:aP)) s22 iQ Q Q Q Q Q Q Q Q Q Q Q Q Q fun s23=>apN 6 11 iQ Q Q Q Q Q Q Q Q Q Q Q hG2 fun hG2 s24=>wi hG2<|GA s24 [0,1,2,3,4,5,12,7,10] Q)<|HP s6 [0,1,2,3,4,5,6,7,8] Q) fun⟨x22,x23,x24⟩ s7=>fun hF=>nw Int Q<|wi hF<|tS ⟨none,0⟩ [0,2,4,5] (fun(p:Int×(List UInt8)×Bool×aE) (s9:AC)=>[(65,I p.1)]) [0,1,2,3,4,5,6,9,7,8] [8] (fun p s9=>([.box 1 [.s p.2.1,.b p.2.2.1]]++(oB p.2.2.2 s1.1 s1.2.1 s1.2.2.1 s1.2.2.2 s4 s7 s9 [.box 2 (gB p.2.2.2 s1.1 s1.2.1 s1.2.2.1 s1.2.2.2 s4 s7 s9)]))) id [0,2,4,5] (fun(p:(List UInt8)×Bool×aE) (s10:AC)=>[]) [8] (fun p s10=>([.box 1 [.s p.1,.b p.2.1]]++(oB p.2.2 s1.1 s1.2.1 s1.2.2.1 s1.2.2.2 s4 s7 s10 [.box 2 (gB p.2.2 s1.1 s1.2.1 s1.2.2.1 s1.2.2.2 s4 s7 s10)]))) Q Q (fun hF3 ⟨x29,x30,x31,x32⟩ s9 hr3=>bG [66] Q Q (dB 0 3 (fun(p:(List UInt8)×Bool×aE)=>BR x29 p.1 p.2.1 p.2.2) [0,2,4,5,65] (fun(p:(List UInt8)×Bool×aE) (s11:AC)=>[]) [9] (fun p s11=>([.box 1 [.s p.1,.b p.2.1]]++(oB p.2.2 s1.1 s1.2.1 s1.2.2.1 s1.2.2.2 s4 s7 s11 [.box 2 (gB p.2.2 s1.1 s1.2.1 s1.2.2.1 s1.2.2.2 s4 s7 s11)]))) Q (eG aD [9] Q<|fun hG3=>bd hG3 fun x43 hA1 hG3=>nd hG3 fun hA2 hG3=>cQ Q Q (have hq1:=rb hA1;wi hq1<|bM 0 1 0 2 [] Q Q Q Q Q (fun _=>cO (r_:=(⟨(⟨x30⟩:pU),x31⟩:Reader))) fun u1 _=>fun hq1=>match u1,hq1 with | _,rfl=>NP Q aQ Q Q Q Q fun s14=>have hq2:=rn hA2;ap 7 aQ Q Q Q Q Q Q Q (fun h=>(h.o 10 Q)) Q Q hq2 fun hq2 s15=>wi hG3<|eP (p:=(x43.2.left.b,x43.2.bad,({x32 with fW:=x32.fW++([x43.1])}:aE))) s15 [0,1,2,3,4,5,6,7,8,9] Q Q) (have hq3:=rb hA1;wi hq3<|bM 0 1 0 2 [] Q Q Q Q Q (fun _=>cO (r_:=(⟨(⟨x30⟩:pU),x31⟩:Reader))) fun u2 _=>fun hq3=>match u2,hq3 with | _,rfl=>cQ Q Q (NP Q aQ Q Q Q Q fun s16=>have hq4:=rn hA2;ap 7 aQ Q Q Q Q Q Q Q (fun h=>(h.o 10 Q)) Q Q hq4 fun hq4 s17=>wi hG3<|eP (p:=(x43.2.left.b,x43.2.bad,({x32 with fW:=x32.fW++([x43.1])}:aE))) s17 [0,1,2,3,4,5,6,7,8,9] Q Q) (NP Q aQ Q Q Q Q fun s18=>have hq5:=rn hA2;ap 7 aQ Q Q Q Q Q Q Q (fun h=>(h.o 10 Q)) Q Q hq5 fun hq5 s19=>wi hG3<|eP (p:=(x43.2.left.b,x43.2.bad,({x32 with fW:=x32.fW++([x43.1])}:aE))) s19 [0,1,2,3,4,5,6,7,8,9] Q Q))) fun⟨x40,x41,x42⟩ s11=>GA s11 [0,1,2,3,4,5,6,7,8,9] Q)<|HP s9 [0,1,2,3,4,5,6,7,8,9] Q) fun⟨x33,x34,x35⟩ s10=>dB 0 3 (fun(p:Bool×aE)=>kK p.1 p.2) [2,5] (fun(p:Bool×aE) (_:Unit)=>[(86,.b p.1)]) [9] (fun p _=>(oB p.2 s1.1 s1.2.1 s1.2.2.1 s1.2.2.2 s4 s7 s10 [.box 2 (gB p.2 s1.1 s1.2.1 s1.2.2.1 s1.2.2.2 s4 s7 s10)])) Q (eE [75,76] Q Q (cA (p:=(true,x35)) [1,2,3,4,5,6,7,8,9] Q Q)<|c0 Q (fun h=>JH (h.o 1 Q) (h.o 2 Q) (h.o 3 Q) (h.o 4 Q) (h.o 5 Q) (h.o 6 Q) (h.o 7 Q)) fun x38=>eE [79,80,81] Q Q (cA (p:=(true,x35)) [1,2,3,4,5,6,7,8,9] Q Q)<|c0 Q (fun h=>EN (h.o 1 Q) (h.o 2 Q) (h.o 3 Q) (h.o 4 Q) (h.o 5 Q) (h.o 6 Q) (h.o 7 Q)) fun x39=>cA (p:=(!(x39 == s),x35)) [1,2,3,4,5,6,7,8,9] Q Q) fun⟨x36,x37⟩ _=>bG [86] Q Q (fun hF=>sR Q<|WT Int<|WT Int<|WT aC<|WT aC<|WT eX<|WT aP<|WT Int<|L7 (hT:=tok) (⟨none,0⟩,⟨none,0⟩,⟨none,0⟩,⟨none,0⟩,⟨none,0⟩,⟨none,0⟩,⟨none,0⟩) [9,10,11,12,13,14,15] hF Q Tryz.results24 Q Q Q Q)<|dV (s1.1,s1.2.1,s1.2.2.1,s1.2.2.2,s4,s7,s10) [0,1,2,3,4,5,6] Q Q
theorem uO{a_ b:List Int}{s1:AC}{s2:AC}(h1:bL κ s1 a_)(h2:bL κ s2 b):V0 Tryz.prog κ 74 (kU a_ b) [.h s1 a_.length,.h s2 b.length] .b:=
 cE tok Tryz.call74 Tryz.func74 Tryz.results74 Q Q<|bG [10] Q Q (cJ Q Q)<|L9 5 [0,1] [] Out.brk [] [] Q Q (fun hF1 x2 hr1=>bG [14] Q Q (eG aD [] Q<|K8 Q h1 Q fun x3=>K8 Q h2 Q fun x4=>bG [25] Q Q (J4 hr1 hF1<|cJ Q Q)<|y9 [] Q)<|zA [] Q)<|cJ Q Q
theorem X5{a_ b:aB}{s1 s2:AC}{s3 s4:AC}(h1:bL κ s1 a_.Bytes)(h2:bL κ s2 a_.Class)(h3:bL κ s3 b.Bytes)(h4:bL κ s4 b.Class):V0 Tryz.prog κ 82 (I4 a_ b) [.g [.h s1 a_.Bytes.length,.h s2 a_.Class.length],.g [.h s3 b.Bytes.length,.h s4 b.Class.length]] .b:=
 cE tok Tryz.call82 Tryz.func82 Tryz.results82 Q Q<|dE 0 2 BX [] 4 [] Q (c0 Q (fun h=>uO (h.a h1) (h.a h3)) fun x2=>eE [9,10] Q Q (c0 Q (fun h=>uO (h.a h2) (h.a h4)) fun x3=>cA [] Q Q)<|cA [] Q Q) fun x1=>cJ Q Q
theorem RO{a_ b:List aC}{s1:AC}{s2:AC}(h1:bL κ s1 a_)(h2:bL κ s2 b):V0 Tryz.prog κ 169 (DU a_ b) [.h s1 a_.length,.h s2 b.length] .b:=
 cE tok Tryz.call169 Tryz.func169 Tryz.results169 Q Q<|bG [10] Q Q (cJ Q Q)<|L9 5 [0,1] [] Out.brk [] [] Q Q (fun hF1 x2 hr1=>bG [14] Q Q (eG aD [] Q<|D4 mT Q h1 Q fun x3 s3 h3=>D4 mT Q h2 Q fun x4 s4 h4=>c0 Q (fun h=>uO (h.a h3) (h.a h4)) fun x5=>bG [28] Q Q (J4 hr1 hF1<|cJ Q Q)<|y9 [] Q)<|zA [] Q)<|cJ Q Q
theorem VN{a_ b:aA}{s1 s2:AC}{s3 s4:AC}(h1:bL κ s1 a_.Global)(h2:bL κ s2 a_.bB)(h3:bL κ s3 b.Global)(h4:bL κ s4 b.bB):V0 Tryz.prog κ 83 (GN a_ b) [.g [.h s1 a_.Global.length,.h s2 a_.bB.length],.g [.h s3 b.Global.length,.h s4 b.bB.length]] .b:=
 cE tok Tryz.call83 Tryz.func83 Tryz.results83 Q Q<|dE 0 2 z4 [] 4 [] Q (c0 Q (fun h=>RO (h.a h1) (h.a h3)) fun x2=>eE [9,10] Q Q (c0 Q (fun h=>RO (h.a h2) (h.a h4)) fun x3=>cA [] Q Q)<|cA [] Q Q) fun x1=>cJ Q Q
theorem O5{a_ b:Mem}{s1 s2 s3 s4:AC}{s5 s6 s7 s8:AC}(h1:bL κ s1 a_.aB.Bytes)(h2:bL κ s2 a_.aB.Class)(h3:bL κ s3 a_.aA.Global)(h4:bL κ s4 a_.aA.bB)(h5:bL κ s5 b.aB.Bytes)(h6:bL κ s6 b.aB.Class)(h7:bL κ s7 b.aA.Global)(h8:bL κ s8 b.aA.bB):V0 Tryz.prog κ 31 (z5 a_ b) [.g (gM a_ s1 s2 s3 s4),.g (gM b s5 s6 s7 s8)] .b:=
 cE tok Tryz.call31 Tryz.func31 Tryz.results31 Q Q<|dE 0 2 EG [] 4 [] Q (c0 Q (fun h=>X5 (h.a h1) (h.a h2) (h.a h5) (h.a h6)) fun x2=>eE [9,10] Q Q (c0 Q (fun h=>VN (h.a h3) (h.a h4) (h.a h7) (h.a h8)) fun x3=>cA [] Q Q)<|cA [] Q Q) fun x1=>cJ Q Q
theorem VO{a_ b:aI}{s1:AC}{s2:AC}(h1:bL κ s1 a_.aX)(h2:bL κ s2 b.aX):V0 Tryz.prog κ 72 (z7 a_ b) [.g [I a_.aK,.h s1 a_.aX.length],.g [I b.aK,.h s2 b.aX.length]] .b:=
 cE tok Tryz.call72 Tryz.func72 Tryz.results72 Q Q<|dE 0 2 (rR a_ b) [2,3] 19 [0,1] Q (eE [10,11] Q Q (cA [0,1] Q Q)<|cA [0,1] Q Q) fun x1=>bG [19] Q Q (cJ Q Q)<|L9 5 [2,3] [0,1] Out.brk [] [] Q Q (fun hF2 x3 hr2=>bG [24] Q Q (eG aD [0,1] Q<|D4 aAY Q h1 Q fun x4 _ _=>D4 aAY Q h2 Q fun x5 _ _=>fun hG2=>neS Tryz.eqGuardType59 Tryz.stoodInHeld59 Tryz.underlying59 (R7 9997 x4 x5) Q Q Q Q Q Q<|wi hG2<|bG [37] Q Q (J4 hr2 hF2<|cJ Q Q)<|y9 [0,1] Q)<|zA [] Q)<|cJ Q Q
theorem VQ{a_ b:List aP}{s1:AC}{s2:AC}(h1:bL κ s1 a_)(h2:bL κ s2 b):V0 Tryz.prog κ 73 (z9 a_ b) [.h s1 a_.length,.h s2 b.length] .b:=
 cE tok Tryz.call73 Tryz.func73 Tryz.results73 Q Q<|bG [11] Q Q (cJ Q Q)<|L9 5 [0,1] [] Out.brk [] [] Q Q (fun hF1 x2 hr1=>bG [15] Q Q (eG aD [] Q<|D4 rM Q h1 Q fun x3 s3 h3=>D4 rM Q h2 Q fun x4 s4 h4=>bG [30] Q Q (J4 hr1 hF1<|cJ Q Q)<|L9 6 [0,1,5] [] Out.brk [0,1,5] [] Q Q (fun hF2 x6 hr2=>D4 rM Q h1 Q fun x7 s5 h5=>bG [38] Q Q (eG aD [0] Q<|D4 rM Q h1 Q fun x8 s6 h6=>D4 Q9 Q h6 Q fun x9 _ _=>D4 rM Q h2 Q fun x10 s7 h7=>D4 Q9 Q h7 Q fun x11 _ _=>fun hG2=>neS Tryz.eqGuardType108 Tryz.stoodInHeld108 Tryz.underlying108 (aHY 9997 x9 x11) Q Q Q Q Q Q<|wi hG2<|bG [57] Q Q (J4 hr2 hF2<|J4 hr1 hF1<|cJ Q Q)<|y9 [] Q)<|zA [] Q)<|y9 [] Q)<|zA [] Q)<|cJ Q Q
theorem NB{a_ b:aE}{s1 s2 s3 s4 s5 s6 s7:AC}{s8 s9 s10 s11 s12 s13 s14:AC}(h1:bL κ s1 a_.Mem.aB.Bytes)(h2:bL κ s2 a_.Mem.aB.Class)(h3:bL κ s3 a_.Mem.aA.Global)(h4:bL κ s4 a_.Mem.aA.bB)(h5:bL κ s5 a_.aI.aX)(h6:bL κ s6 a_.aR)(h7:bL κ s7 a_.fW)(h8:bL κ s8 b.Mem.aB.Bytes)(h9:bL κ s9 b.Mem.aB.Class)(h10:bL κ s10 b.Mem.aA.Global)(h11:bL κ s11 b.Mem.aA.bB)(h12:bL κ s12 b.aI.aX)(h13:bL κ s13 b.aR)(h14:bL κ s14 b.fW):V0 Tryz.prog κ 26 (vZ a_ b) [.g (gB a_ s1 s2 s3 s4 s5 s6 s7),.g (gB b s8 s9 s10 s11 s12 s13 s14)] .b:=
 cE tok Tryz.call26 Tryz.func26 Tryz.results26 Q Q<|dE 0 2 oA [] 4 [] Q (c0 Q (fun h=>O5 (h.a h1) (h.a h2) (h.a h3) (h.a h4) (h.a h8) (h.a h9) (h.a h10) (h.a h11)) fun x2=>eE [9,10] Q Q (c0 Q (fun h=>VO (h.a h5) (h.a h12)) fun x3=>eE [15,16,17] Q Q (c0 Q (fun h=>VQ (h.a h6) (h.a h13)) fun x4=>eE [22,23,24] Q Q (c0 Q (fun h=>uO (h.a h7) (h.a h14)) fun x5=>cA [] Q Q)<|cA [] Q Q)<|cA [] Q Q)<|cA [] Q Q) fun x1=>cJ Q Q
theorem R8{code:List UInt8}{s1:AC}(h1:bL κ s1 code):VS Tryz.prog κ 27 (uE code) [.h s1 code.length] [] [] (fun r (y:VI)=>.g (yM r y)) (fun r y=>(zM r y [])):=
 cE tok Tryz.call27 Tryz.func27 Tryz.results27 Q Q<|cP Q (fun h=>LN (h.a h1)) fun x1=>bM 1 1 0 3 [] Q Q Q Q Q (fun h=>TO (c:=(⟨code,x1.1,x1.2⟩:aO)) (h.a h1)) fun x2 s2=>dV s2 [2,3,4,5] Q Q
theorem aBE{s:List UInt8}:VS Tryz.prog κ 28 (uF s) [.s s] [] [] (fun r (y:VI)=>.t [.g (yM r.1 y),.b r.2]) (fun r y=>(zM r.1 y [])):=
 cE tok Tryz.call28 Tryz.func28 Tryz.results28 Q Q<|fun hF=>bx 1 Q Q Q<|wi hF<|bM 1 1 0 2 [] Q Q Q Q Q (fun _=>IN (r_:=(⟨(⟨s⟩:pU),false⟩:Reader))) fun x1 s1=>dB 0 3 (fun(p:Bool×Mem)=>lT p.1 p.2) [2,5] (fun(p:Bool×Mem) (_:Unit)=>[(21,.b p.1)]) [0] (fun p _=>(zM p.2 s1 [.box 2 (yM p.2 s1)])) Q (eE [10,11] Q Q (cA (p:=(true,x1.1)) [2,3,4,5,6,0] Q Q)<|c0 Q (fun h=>LP (h.o 2 Q) (h.o 3 Q) (h.o 4 Q) (h.o 5 Q)) fun x4=>eE [14,15,16] Q Q (cA (p:=(true,x1.1)) [2,3,4,5,6,0] Q Q)<|c0 Q (fun h=>G7 (h.o 2 Q) (h.o 3 Q) (h.o 4 Q) (h.o 5 Q)) fun x5=>cA (p:=(!(x5 == s),x1.1)) [2,3,4,5,6,0] Q Q) fun⟨x2,x3⟩ _=>bG [21] Q Q (fun hF=>sR Q<|WT Int<|WT Int<|WT aC<|WT aC<|L7 (hT:=tok) (⟨none,0⟩,⟨none,0⟩,⟨none,0⟩,⟨none,0⟩) [6,7,8,9] hF Q Tryz.results28 Q Q Q Q)<|dV s1 [0,1,2,3] Q Q
theorem aDQ{c:aO}{most:Int}{s1:AC}{b0:Nat×Nat}(h1:bL κ s1 c.b):VS Tryz.prog κ 259 (IH c most) [.p 0 0,I most] [b0] [.box 0 [.h s1 c.b.length,I c.i,I c.h]] (fun(r:(List UInt8)×(Int×Int)) (y:Unit)=>.s r.1) (fun(r:(List UInt8)×(Int×Int)) (y:Unit)=>[.box 0 [.h s1 c.b.length,I r.2.1,I r.2.2]]):=
 cE tok Tryz.call259 Tryz.func259 Tryz.results259 Q Q<|fun hF=>YZ (α:=UInt8) dC Q Q Q Q fun s2=>wi hF<|bM 0 0 0 3 [] Q Q Q Q Q (fun h=>aH (h.a h1)) fun x1 _=>bM 0 0 0 3 [] Q Q Q Q Q (fun h=>aH (c:=(⟨c.b,x1.2.1,x1.2.2⟩:aO)) (h.a h1)) fun x2 _=>tS s2 [0,6] (fun(p:(List UInt8)×Int×Int×Int) (s4:AC)=>[(5,.h s4 p.1.length),(7,I p.2.1)]) [1,0] [] (fun p s4=>[ow s4 (p.1:List UInt8),.box 0 [.h s1 c.b.length,I p.2.2.1,I p.2.2.2]]) id [0] (fun(p:(List UInt8)×Int×Int) (s5:AC)=>[(5,.h s5 p.1.length)]) [] (fun p s5=>[ow s5 (p.1:List UInt8),.box 0 [.h s1 c.b.length,I p.2.1,I p.2.2]]) Q Q (fun hF1 ⟨x7,x8,x9,x10⟩ s4 hr1=>bG [17] Q Q (bM 1 0 0 3 [] Q Q Q Q Q (fun h=>mU (c:=(⟨c.b,x9,x10⟩:aO)) (h.a h1)) fun x14 _=>dB 0 1 (AA x1 x7 x8 x14) [0,5,6,7] (fun(x15:Int) (_:Unit)=>[(8,I x15)]) [0,1] (fun x15 _=>[]) Q (bG [23] Q Q (cA [0,1] Q Q)<|cA [0,1] Q Q) fun x15 _=>dB 0 1 (sY x7 x8 x14) [0,5,6,7] (fun(x16:Int) (_:Unit)=>[(8,I x16)]) [0,1] (fun x16 _=>[]) Q (bG [27] Q Q (cA [0,1] Q Q)<|cA [0,1] Q Q) fun x16 _=>fun hG1=>IW oU [] (u8 x16) () dC Q Q Q Q Q Q Q Q Q Q Q Q Q fun s6=>ap 0 dC Q Q Q Q Q Q Q (fun h=>(h.o 2 Q)) Q Q hG1 fun hG1 s7=>wi hG1<|GA s7 [0,1] Q)<|HP s4 [0,1] Q) fun⟨x11,x12,x13⟩ s5=>fun hF=>qbo 0 Q Q Q Q Q Q Q<|wi hF<|dV () [1] Q Q
theorem aBF{c:aO}{s:List UInt8}{s1:AC}{b0:Nat×Nat}(h1:bL κ s1 c.b):VS Tryz.prog κ 176 (FI c s) [.p 0 0,.s s] [b0] [.box 0 [.h s1 c.b.length,I c.i,I c.h]] (fun(r:(List UInt8)×(Int×Int)) (y:Unit)=>.s r.1) (fun(r:(List UInt8)×(Int×Int)) (y:Unit)=>[.box 0 [.h s1 c.b.length,I r.2.1,I r.2.2]]):=
 cE tok Tryz.call176 Tryz.func176 Tryz.results176 Q Q<|bG [8] Q Q (bM 0 0 0 3 [] Q Q Q Q Q (fun h=>aDQ (h.a h1)) fun x1 _=>dV () [0] Q Q)<|bM 0 0 0 3 [] Q Q Q Q Q (fun h=>aH (h.a h1)) fun x2 _=>bM 0 0 0 3 [] Q Q Q Q Q (fun h=>aH (c:=(⟨c.b,x2.2.1,x2.2.2⟩:aO)) (h.a h1)) fun x3 _=>bG [17,18] Q Q (eG aD [0] Q<|fun hF=>aEI Q Q Q Q Q hF fun hF=>aEH Q Q Q Q Q hF fun hF=>cat Q Q Q Q hF fun hF=>wi hF<|dV () [0] Q Q)<|bG [27,28] Q Q (eG aD [] Q<|fun hF=>aEI Q Q Q Q Q hF fun hF=>aEH Q Q Q Q Q hF fun hF=>wi hF<|bM 0 0 0 3 [] Q Q Q Q Q (fun h=>mU (c:=(⟨c.b,x3.2.1,x3.2.2⟩:aO)) (h.a h1)) fun x4 _=>fun hF=>IW oU [] (u8 x4.1) () dC Q Q Q Q Q Q Q Q Q Q Q Q Q fun s2=>qbd 1 7 Q Q Q Q Q Q Q Q Q Q Q<|cat Q Q Q Q hF fun hF=>cat Q Q Q Q hF fun hF=>wi hF<|dV () [0] Q Q)<|bG [42,43] Q Q (fun hF=>aEI Q Q Q Q Q hF fun hF=>wi hF<|dV () [0] Q Q)<|eG aD [] Q<|fun hF=>aEI Q Q Q Q Q hF fun hF=>qsi Q Q Q Q Q hF fun x5 _ hF=>aEH Q Q Q Q Q hF fun hF=>wi hF<|bM 0 0 0 3 [] Q Q Q Q Q (fun h=>aH (c:=(⟨c.b,x3.2.1,x3.2.2⟩:aO)) (h.a h1)) fun x6 _=>fun hF=>IW oU [] (u8 (cN .xor .i64 (x5.toNat:Int) (aV (1+x6.1)))) () dC Q Q Q Q Q Q Q Q Q Q Q Q Q fun s3=>qbd 1 13 Q Q Q Q Q Q Q Q Q Q Q<|cat Q Q Q Q hF fun hF=>cat Q Q Q Q hF fun hF=>wi hF<|dV () [0] Q Q
theorem X6{c:aO}{s:List UInt8}{s1:AC}{b0:Nat×Nat}(h1:bL κ s1 c.b):VS Tryz.prog κ 85 (CY c s) [.p 0 0,.s s] [b0] [.box 0 [.h s1 c.b.length,I c.i,I c.h]] (fun(r:(List UInt8)×(Int×Int)) (y:Unit)=>.s r.1) (fun(r:(List UInt8)×(Int×Int)) (y:Unit)=>[.box 0 [.h s1 c.b.length,I r.2.1,I r.2.2]]):=
 cE tok Tryz.call85 Tryz.func85 Tryz.results85 Q Q<|bM 0 0 0 3 [] Q Q Q Q Q (fun h=>aH (h.a h1)) fun x1 _=>bG [7,8] Q Q (bM 0 0 0 3 [] Q Q Q Q Q (fun h=>aBF (c:=(⟨c.b,x1.2.1,x1.2.2⟩:aO)) (h.a h1)) fun x2 _=>dV () [0] Q Q)<|bG [12,13] Q Q (bM 0 0 0 3 [] Q Q Q Q Q (fun h=>aH (c:=(⟨c.b,x1.2.1,x1.2.2⟩:aO)) (h.a h1)) fun x3 _=>fun hF=>aEI Q Q Q Q Q hF fun hF=>wi hF<|dV () [0] Q Q)<|bG [21,22] Q Q (fun hF=>cat Q Q Q Q hF fun hF=>wi hF<|dV () [0] Q Q)<|dV () [0] Q Q
theorem jM{n:Int}:V0 Tryz.prog κ 178 (kV n) [I n] .s:=
 cE tok Tryz.call178 Tryz.func178 Tryz.results178 Q Q<|c0 Q (fun _=>a8) fun x1=>bG [6] Q Q (cJ Q Q)<|fun hF=>YZ (α:=UInt8) dC Q Q Q Q fun s1=>wi hF<|tS s1 [] (fun(p:Int×(List UInt8)) (s3:AC)=>[(0,I p.1),(3,.h s3 p.2.length)]) [0] [] (fun p s3=>[ow s3 (p.2:List UInt8)]) id [] (fun(p:Int×(List UInt8)) (s4:AC)=>[(0,I p.1),(3,.h s4 p.2.length)]) [] (fun p s4=>[ow s4 (p.2:List UInt8)]) Q Q (fun hF1 ⟨x4,x5⟩ s3 hr1=>bG [9] Q Q (fun hG1=>IW oU [] (u8 (aV (128+(Int.tmod x4 128)))) () dC Q Q Q Q Q Q Q Q Q Q Q Q Q fun s7=>ap 0 dC Q Q Q Q Q Q Q (fun h=>(h.o 1 Q)) Q Q hG1 fun hG1 s8=>wi hG1<|GA s8 [0] Q)<|HP s3 [0] Q) fun⟨x6,x7⟩ s4=>fun hF=>IW oU [] (u8 x6) () dC Q Q Q Q Q Q Q Q Q Q Q Q Q fun s5=>ap 0 dC Q Q Q Q Q Q Q (fun h=>(h.o 1 Q)) Q Q hF fun hF s6=>qbo 0 Q Q Q Q Q Q Q<|wi hF<|cJ Q Q
theorem NC{l:List aC}{s1:AC}(h1:bL κ s1 l):V0 Tryz.prog κ 260 (v5 l) [.h s1 l.length] .s:=
 cE tok Tryz.call260 Tryz.func260 Tryz.results260 Q Q<|tS () [0] (fun(p:(List UInt8)×Int) (_:Unit)=>[(3,.s p.1),(4,I p.2)]) [] [] (fun p _=>[]) id [] (fun(x5:(List UInt8)) (_:Unit)=>[(3,.s x5)]) [] (fun x5 _=>[]) Q Q (fun hF1 ⟨x3,x4⟩ _ hr1=>bG [9] Q Q (D4 mT Q h1 Q fun x6 s2 h2=>c0 Q (fun _=>jM) fun x7=>fun hG1=>cat Q Q Q Q hG1 fun hG1=>wi hG1<|tS () [0,4] (fun(p:(List UInt8)×Int) (_:Unit)=>[(3,.s p.1),(5,I p.2)]) [] [] (fun p _=>[]) id [0,4] (fun(x12:(List UInt8)) (_:Unit)=>[(3,.s x12)]) [] (fun x12 _=>[]) Q Q (fun hF2 ⟨x10,x11⟩ _ hr2=>D4 mT Q h1 Q fun x13 s3 h3=>bG [28] Q Q (D4 mT Q h1 Q fun x14 s4 h4=>K8 Q h4 Q fun x15=>c0 Q (fun _=>jM) fun x16=>fun hG2=>cat Q Q Q Q hG2 fun hG2=>wi hG2<|y9 [] Q)<|zA [] Q) fun x12 _=>y9 [] Q)<|zA [] Q) fun x5 _=>cJ Q Q
theorem aBG{m:Mem}{s1 s2 s3 s4:AC}(h1:bL κ s1 m.aB.Bytes)(h2:bL κ s2 m.aB.Class)(h3:bL κ s3 m.aA.Global)(h4:bL κ s4 m.aA.bB):V0 Tryz.prog κ 177 (FJ m) [.g (gM m s1 s2 s3 s4)] .s:=
 cE tok Tryz.call177 Tryz.func177 Tryz.results177 Q Q<|c0 Q (fun h=>uM (h.a h1) (h.a h2) (h.a h3) (h.a h4)) fun x1=>bG [8] Q Q (cJ Q Q)<|fun hF=>YZ (α:=UInt8) dC Q Q Q Q fun s5=>wi hF<|tS s5 [1] (fun(p:(List UInt8)×Int) (s7:AC)=>[(3,.h s7 p.1.length),(4,I p.2)]) [1,0] [0] (fun p s7=>[ow s7 (p.1:List UInt8)]) id [1] (fun(x6:(List UInt8)) (s8:AC)=>[(3,.h s8 x6.length)]) [0] (fun x6 s8=>[ow s8 (x6:List UInt8)]) Q Q (fun hF1 ⟨x4,x5⟩ s7 hr1=>bG [15] Q Q (K8 Q h1 Q fun x15=>fun hG1=>IW oU [] (u8 x15) () dC Q Q Q Q Q Q Q Q Q Q Q Q Q fun s14=>ap 0 dC Q Q Q Q Q Q Q (fun h=>(h.o 3 Q)) Q Q hG1 fun hG1 s15=>wi hG1<|GA s15 [0,1] Q)<|HP s7 [0,1] Q) fun x6 s8=>tS s8 [1] (fun(p:(List UInt8)×Int) (s10:AC)=>[(3,.h s10 p.1.length),(5,I p.2)]) [0,1] [1] (fun p s10=>[ow s10 (p.1:List UInt8)]) id [1] (fun(x11:(List UInt8)) (s11:AC)=>[(3,.h s11 x11.length)]) [1] (fun x11 s11=>[ow s11 (x11:List UInt8)]) Q Q (fun hF2 ⟨x9,x10⟩ s10 hr2=>bG [29] Q Q (K8 Q h2 Q fun x14=>fun hG2=>IW oU [] (u8 (aV (x14+1))) () dC Q Q Q Q Q Q Q Q Q Q Q Q Q fun s12=>ap 0 dC Q Q Q Q Q Q Q (fun h=>(h.o 3 Q)) Q Q hG2 fun hG2 s13=>wi hG2<|GA s13 [0,1] Q)<|HP s10 [0,1] Q) fun x11 s11=>eG aD [0,1] Q<|fun hF=>qbo 0 Q Q Q Q Q Q Q<|wi hF<|c0 Q (fun h=>NC (h.a h3)) fun x12=>fun hF=>cat Q Q Q Q hF fun hF=>wi hF<|c0 Q (fun h=>NC (h.a h4)) fun x13=>fun hF=>cat Q Q Q Q hF fun hF=>wi hF<|cJ Q Q
theorem O6{b:Bool}:V0 Tryz.prog κ 179 (FK b) [.b b] I:=
 cE tok Tryz.call179 Tryz.func179 Tryz.results179 Q Q<|bG [0,3] Q Q (cJ Q Q)<|cJ Q Q
theorem ND{b:aE}{s1 s2 s3 s4 s5 s6 s7:AC}(h1:bL κ s1 b.Mem.aB.Bytes)(h2:bL κ s2 b.Mem.aB.Class)(h3:bL κ s3 b.Mem.aA.Global)(h4:bL κ s4 b.Mem.aA.bB)(h5:bL κ s5 b.aI.aX)(h6:bL κ s6 b.aR)(h7:bL κ s7 b.fW):V0 Tryz.prog κ 86 (mQ b) [.g (gB b s1 s2 s3 s4 s5 s6 s7)] .s:=
 cE tok Tryz.call86 Tryz.func86 Tryz.results86 Q Q<|c0 Q (fun h=>DC (h.a h1) (h.a h2) (h.a h3) (h.a h4) (h.a h5) (h.a h6) (h.a h7)) fun x1=>bG [11] Q Q (cJ Q Q)<|eG aD [0] Q<|c0 Q (fun h=>aBG (h.a h1) (h.a h2) (h.a h3) (h.a h4)) fun x2=>c0 Q (fun _=>jM) fun x3=>fun hF=>cat Q Q Q Q hF fun hF=>wi hF<|tS () [1] (fun(p:(List UInt8)×Int) (_:Unit)=>[(3,.s p.1),(4,I p.2)]) [0] [0] (fun p _=>[]) id [1] (fun(x8:(List UInt8)) (_:Unit)=>[(3,.s x8)]) [0] (fun x8 _=>[]) Q Q (fun hF1 ⟨x6,x7⟩ _ hr1=>bG [21] Q Q (D4 aAY Q h5 Q fun x35 _ _=>eG aD [0,1,2] Q<|c0 Q (fun _=>O6) fun x36=>c0 Q (fun _=>jM) fun x37=>fun hG1=>cat Q Q Q Q hG1 fun hG1=>wi hG1<|c0 Q (fun _=>jM) fun x38=>fun hG1=>cat Q Q Q Q hG1 fun hG1=>wi hG1<|c0 Q (fun _=>O6) fun x39=>c0 Q (fun _=>jM) fun x40=>fun hG1=>cat Q Q Q Q hG1 fun hG1=>wi hG1<|c0 Q (fun _=>jM) fun x41=>fun hG1=>cat Q Q Q Q hG1 fun hG1=>wi hG1<|y9 [0] Q)<|zA [0] Q) fun x8 _=>tS () [1] (fun(p:(List UInt8)×Int) (_:Unit)=>[(3,.s p.1),(6,I p.2)]) [0] [0] (fun p _=>[]) id [1] (fun(x13:(List UInt8)) (_:Unit)=>[(3,.s x13)]) [0] (fun x13 _=>[]) Q Q (fun hF2 ⟨x11,x12⟩ _ hr2=>bG [50] Q Q (D4 rM Q h6 Q fun x21 s8 h8=>c0 Q (fun _=>jM) fun x22=>fun hG2=>cat Q Q Q Q hG2 fun hG2=>wi hG2<|tS () [1,6] (fun(p:(List UInt8)×Int) (_:Unit)=>[(3,.s p.1),(7,I p.2)]) [0] [0] (fun p _=>[]) id [1,6] (fun(x27:(List UInt8)) (_:Unit)=>[(3,.s x27)]) [0] (fun x27 _=>[]) Q Q (fun hF4 ⟨x25,x26⟩ _ hr4=>D4 rM Q h6 Q fun x28 s9 h9=>bG [71] Q Q (eG aD [0,1] Q<|D4 rM Q h6 Q fun x29 s10 h10=>D4 Q9 Q h10 Q fun x30 _ _=>D4 rM Q h6 Q fun x31 s11 h11=>D4 Q9 Q h11 Q fun x32 _ _=>c0 Q (fun _=>jM) fun x33=>fun hG4=>cat Q Q Q Q hG4 fun hG4=>wi hG4<|c0 Q (fun _=>jM) fun x34=>fun hG4=>cat Q Q Q Q hG4 fun hG4=>wi hG4<|y9 [0] Q)<|zA [0] Q) fun x27 _=>y9 [0] Q)<|zA [0] Q) fun x13 _=>tS () [1] (fun(p:(List UInt8)×Int) (_:Unit)=>[(3,.s p.1),(8,I p.2)]) [0] [0] (fun p _=>[]) id [] (fun(x18:(List UInt8)) (_:Unit)=>[(3,.s x18)]) [] (fun x18 _=>[]) Q Q (fun hF3 ⟨x16,x17⟩ _ hr3=>bG [100] Q Q (K8 Q h7 Q fun x19=>c0 Q (fun _=>jM) fun x20=>fun hG3=>cat Q Q Q Q hG3 fun hG3=>wi hG3<|y9 [0] Q)<|zA [] Q) fun x18 _=>cJ Q Q
theorem QP{code:List UInt8}{s1:AC}(h1:bL κ s1 code):V0 Tryz.prog κ 32 (rT code) [.h s1 code.length] .s:=
 cE tok Tryz.call32 Tryz.func32 Tryz.results32 Q Q<|cP Q (fun h=>LN (h.a h1)) fun x1=>bM 0 0 0 3 [] Q Q Q Q Q (fun h=>O3 (c:=(⟨code,x1.1,x1.2⟩:aO)) (h.a h1)) fun x2 s2=>c0 Q (fun h=>ND (h.o 1 Q) (h.o 2 Q) (h.o 3 Q) (h.o 4 Q) (h.o 5 Q) (h.o 6 Q) (h.o 7 Q)) fun x3=>bM 0 0 0 3 [] Q Q Q Q Q (fun h=>X6 (c:=(⟨code,x2.2.2.1,x2.2.2.2⟩:aO)) (h.a h1)) fun x4 _=>cJ Q Q
theorem aBH{s:List UInt8}:V0 Tryz.prog κ 181 (uG s) [.s s] (fun r=>.t [I r.1,I r.2]):=
 cE tok Tryz.call181 Tryz.func181 Tryz.results181 Q Q<|L9 4 [0] [] Out.brk [] [] Q Q (fun hF1 x2 hr1=>dE 0 0 (wV s x2) [0,4] 14 [] Q (eE [8,9] Q Q (cA [] Q Q)<|cA [] Q Q) fun x3=>bG [14] Q Q (tS () [0,4] (fun(p:Int×Int) (_:Unit)=>[(5,I p.1),(6,I p.2)]) [] [] (fun p _=>[]) id [0,4] (fun(x8:Int) (_:Unit)=>[(5,I x8)]) [] (fun x8 _=>[]) Q Q (fun hF3 ⟨x6,x7⟩ _ hr3=>bG [20] Q Q (fun hG3=>qsi Q Q Q Q Q hG3 fun x10 _ hG3=>wi hG3<|y9 [] Q)<|zA [] Q) fun x8 _=>eG aD [] Q<|fun hG1=>aEI Q Q Q Q Q hG1 fun hG1=>wi hG1<|c0 Q (fun _=>jM) fun x9=>bG [36] Q Q (J4 hr1 hF1<|cJ Q Q)<|y9 [] Q)<|zA [] Q)<|cJ Q Q
theorem fL{s:List UInt8}{at_:Int}:V0 Tryz.prog κ 88 (dK s at_) [.s s,I at_] (fun r=>.t [I r.1,I r.2]):=
 cE tok Tryz.call88 Tryz.func88 Tryz.results88 Q Q<|bG [9] Q Q (cJ Q Q)<|fun hF=>aEH Q Q Q Q Q hF fun hF=>wi hF<|c0 Q (fun _=>aBH) fun x1=>bG [18] Q Q (cJ Q Q)<|cJ Q Q
theorem NF{s:List UInt8}{at_ n:Int}:VS Tryz.prog κ 180 (mR s at_ n) [.s s,I at_,I n] [] [] (fun r (y:AC)=>.t [.h y r.1.length,I r.2]) (fun r y=>[ow y r.1]):=
 cE tok Tryz.call180 Tryz.func180 Tryz.results180 Q Q<|fun hF=>YZ (α:=aC) bO Q Q Q Q fun s1=>wi hF<|tS s1 [0,2] (fun(p:Int×(List aC)×Int) (s3:AC)=>[(1,I p.1),(8,.h s3 p.2.1.length),(9,I p.2.2)]) [0] [] (fun p s3=>[ow s3 (p.2.1:List aC)]) id [] (fun(p:Int×(List aC)) (s4:AC)=>[(1,I p.1),(8,.h s4 p.2.length)]) [] (fun p s4=>[ow s4 (p.2:List aC)]) Q Q (fun hF1 ⟨x4,x5,x6⟩ s3 hr1=>bG [19] Q Q (c0 Q (fun _=>fL) fun x9=>fun hG1=>nw Int Q<|wi hG1<|tS ⟨none,0⟩ [0,2,8,9,10,11] (fun(p:Int×Int×(List Int)) (s6:AC)=>[(1,I p.1),(13,I p.2.1)]) [2,1,0] [0] (fun p s6=>[ow s6 (p.2.2:List Int),.box 0 [.h s6 p.2.2.length]]) id [0,2,8,9,10] (fun(p:Int×(List Int)) (s7:AC)=>[(1,I p.1)]) [0] (fun p s7=>[ow s7 (p.2:List Int),.box 0 [.h s7 p.2.length]]) Q Q (fun hF2 ⟨x13,x14,x15⟩ s6 hr2=>dE 0 1 (kL s x13 x14 x15) [0,1,2,8,9,10,11,13] 36 [2,0,1] Q (eE [32,33] Q Q (cA [2,0,1] Q Q)<|cA [2,0,1] Q Q) fun x18=>bG [36] Q Q (c0 Q (fun _=>fL) fun x19=>fun hG2=>NP Q aQ Q Q Q Q fun s10=>ap 1 aQ Q Q Q Q Q Q Q (fun h=>(h.o 3 Q)) Q Q hG2 fun hG2 s11=>wi hG2<|GA s11 [1,2,0] Q)<|HP s6 [1,2,0] Q) fun⟨x16,x17⟩ s7=>fun hG1=>IW cT [0] ((⟨x17⟩:aC)) s7 bO Q Q Q Q Q Q Q Q Q Q Q Q Q fun s8=>apN 2 3 bO Q Q Q Q Q Q Q Q Q Q Q hG1 fun hG1 s9=>wi hG1<|GA s9 [4] Q)<|HP s3 [0] Q) fun⟨x7,x8⟩ s4=>dV s4 [0] Q Q
theorem aDR{s:List UInt8}:VS Tryz.prog κ 87 (yY s) [.s s] [] [] (fun r (y:VI)=>.t [.g (yM r.1 y),I r.2]) (fun r y=>(zM r.1 y [])):=
 cE tok Tryz.call87 Tryz.func87 Tryz.results87 Q Q<|bG [11] Q Q (fun hF=>sR Q<|WT Int<|WT Int<|WT aC<|WT aC<|L7 (hT:=tok) (⟨none,0⟩,⟨none,0⟩,⟨none,0⟩,⟨none,0⟩) [2,3,4,5] hF Q Tryz.results87 Q Q Q Q)<|fun hF=>nw Int Q<|wi hF<|tS ⟨none,0⟩ [0,2,4] (fun(p:Int×(List Int)) (s2:AC)=>[(5,I p.1)]) [2,1,0] [0] (fun p s2=>[ow s2 (p.2:List Int),.box 1 [.h s2 p.2.length,.h ⟨none,0⟩ 0,.h ⟨none,0⟩ 0,.h ⟨none,0⟩ 0]]) id [0,2,4] (fun(x5:(List Int)) (s3:AC)=>[]) [0] (fun x5 s3=>[ow s3 (x5:List Int),.box 1 [.h s3 x5.length,.h ⟨none,0⟩ 0,.h ⟨none,0⟩ 0,.h ⟨none,0⟩ 0]]) Q Q (fun hF1 ⟨x3,x4⟩ s2 hr1=>bG [14] Q Q (dB 0 2 (GS x3) [0,2,4,5] (fun(x15:(List Int)) (s16:AC)=>[]) [2] (fun x15 s16=>[ow s16 (x15:List Int),.box 1 [.h s16 x15.length,.h ⟨none,0⟩ 0,.h ⟨none,0⟩ 0,.h ⟨none,0⟩ 0]]) Q (eG aD [2] Q<|fun hG1=>qsi Q Q Q Q Q hG1 fun x16 _ hG1=>nd hG1 fun hA2 hG1=>cQ Q Q (NP Q aQ Q Q Q Q fun s19=>have hq3:=rn hA2;ap 0 aQ Q Q Q Q Q Q Q (fun h=>(h.o 3 Q)) Q Q hq3 fun hq3 s20=>wi hG1<|eP (p:=(x4++([(x16.toNat:Int)]))) s20 [0,1,2] Q Q) (NP Q aQ Q Q Q Q fun s21=>have hq4:=rn hA2;ap 0 aQ Q Q Q Q Q Q Q (fun h=>(h.o 3 Q)) Q Q hq4 fun hq4 s22=>wi hG1<|eP (p:=(x4++([(x16.toNat:Int)]))) s22 [0,1,2] Q Q)) fun x15 s16=>GA s16 [0,1,2] Q)<|HP s2 [0,1,2] Q) fun x5 s3=>fun hF=>nw Int Q<|wi hF<|tS ⟨none,0⟩ [0,2,4] (fun(p:Int×(List Int)) (s5:AC)=>[(6,I p.1)]) [3,1,2,0] [2,0] (fun p s5=>[ow s5 (p.2:List Int),.box 1 [.h s3 x5.length,.h s5 p.2.length,.h ⟨none,0⟩ 0,.h ⟨none,0⟩ 0]]) id [0,2,4] (fun(x10:(List Int)) (s6:AC)=>[]) [2,0] (fun x10 s6=>[ow s6 (x10:List Int),.box 1 [.h s3 x5.length,.h s6 x10.length,.h ⟨none,0⟩ 0,.h ⟨none,0⟩ 0]]) Q Q (fun hF2 ⟨x8,x9⟩ s5 hr2=>bG [29] Q Q (dB 0 2 (GP x8) [0,2,4,6] (fun(x13:(List Int)) (s9:AC)=>[]) [2,3] (fun x13 s9=>[ow s9 (x13:List Int),.box 1 [.h s3 x5.length,.h s9 x13.length,.h ⟨none,0⟩ 0,.h ⟨none,0⟩ 0]]) Q (eG aD [2] Q<|fun hG2=>qsi Q Q Q Q Q hG2 fun x14 _ hG2=>nd hG2 fun hA1 hG2=>cQ Q Q (NP Q aQ Q Q Q Q fun s12=>have hq1:=rn hA1;ap 0 aQ Q Q Q Q Q Q Q (fun h=>(h.o 4 Q)) Q Q hq1 fun hq1 s13=>wi hG2<|eP (p:=(x9++([aV ((x14.toNat:Int) - 1)]))) s13 [0,1,2,3] Q Q) (NP Q aQ Q Q Q Q fun s14=>have hq2:=rn hA1;ap 0 aQ Q Q Q Q Q Q Q (fun h=>(h.o 4 Q)) Q Q hq2 fun hq2 s15=>wi hG2<|eP (p:=(x9++([aV ((x14.toNat:Int) - 1)]))) s15 [0,1,2,3] Q Q)) fun x13 s9=>GA s9 [0,1,2,3] Q)<|HP s5 [0,1,2,3] Q) fun x10 s6=>c1 Q (fun _=>NF) fun x11 s7=>c1 Q (fun _=>NF) fun x12 s8=>dV (s3,s6,s7,s8) [3,0,4,5] Q Q
theorem aDS{s:List UInt8}{at_:Int}:V0 Tryz.prog κ 89 (mF s at_) [.s s,I at_] (fun r=>.t [.g [.b r.1.On,I r.1.aK,.b r.1.dT,I r.1.Seen],I r.2]):=
 cE tok Tryz.call89 Tryz.func89 Tryz.results89 Q Q<|c0 Q (fun _=>fL) fun x1=>c0 Q (fun _=>fL) fun x2=>c0 Q (fun _=>fL) fun x3=>c0 Q (fun _=>fL) fun x4=>cJ Q Q
theorem aBI{s:List UInt8}{at_:Int}:VS Tryz.prog κ 90 (jW s at_) [.s s,I at_] [] [] (fun r (y:AC)=>.t [.g [.h y r.1.Rows.length],I r.2]) (fun r y=>[ow y r.1.Rows]):=
 cE tok Tryz.call90 Tryz.func90 Tryz.results90 Q Q<|c0 Q (fun _=>fL) fun x1=>fun hF=>nw bC Q<|wi hF<|tS ⟨none,0⟩ [0,4,6,7] (fun(p:Int×Int×(List bC)) (s2:AC)=>[(1,I p.1),(9,I p.2.1)]) [2,1,0] [0] (fun p s2=>[ow s2 (p.2.2:List bC),.box 1 [.h s2 p.2.2.length]]) id [4,6] (fun(p:Int×(List bC)) (s3:AC)=>[(1,I p.1)]) [0] (fun p s3=>[ow s3 (p.2:List bC),.box 1 [.h s3 p.2.length]]) Q Q (fun hF1 ⟨x5,x6,x7⟩ s2 hr1=>dE 0 2 (lU s x5 x6 x7) [0,1,4,6,7,9] 28 [2,0,1] Q (eE [24,25] Q Q (cA [2,0,1] Q Q)<|cA [2,0,1] Q Q) fun x10=>bG [28] Q Q (c0 Q (fun _=>fL) fun x11=>c0 Q (fun _=>fL) fun x12=>fun hG1=>IW iS [] ((⟨x11.1,x12.1⟩:bC)) () cC Q Q Q Q Q Q Q Q Q Q Q Q Q fun s4=>ap 1 cC Q Q Q Q Q Q Q (fun h=>(h.o 3 Q)) Q Q hG1 fun hG1 s5=>wi hG1<|GA s5 [1,2,0] Q)<|HP s2 [1,2,0] Q) fun⟨x8,x9⟩ s3=>dV s3 [0] Q Q
theorem X7{s:List UInt8}:VS Tryz.prog κ 33 (rC s) [.s s] [] [] (fun r (y:QB)=>.t [.g (yB r.1 y),.b r.2]) (fun r y=>(zB r.1 y [])):=
 cE tok Tryz.call33 Tryz.func33 Tryz.results33 Q Q<|c1 Q (fun _=>aDR) fun x1 s1=>c0 Q (fun _=>fL) fun x2=>fun hF=>nw eX Q<|wi hF<|tS ⟨none,0⟩ [0,2,6] (fun(p:Int×Int×(List eX)) (s3:AC)=>[(5,I p.1),(8,I p.2.1)]) [7,6,0,1,2,3,4] [0,1,2,3,4] (fun p s3=>[ow s3 (p.2.2:List eX),.box 2 [.h s1.1 x1.1.aB.Bytes.length,.h s1.2.1 x1.1.aB.Class.length,.h s1.2.2.1 x1.1.aA.Global.length,.h s1.2.2.2 x1.1.aA.bB.length,I x2.1,.h s3 p.2.2.length,.h ⟨none,0⟩ 0,.h ⟨none,0⟩ 0]]) id [0,2,6] (fun(p:Int×aE) (s4:AC)=>[(5,I p.1)]) [0] (fun p s4=>(zM p.2.Mem s1 [ow s4 (p.2.aI.aX:List eX),.box 2 [.h s1.1 p.2.Mem.aB.Bytes.length,.h s1.2.1 p.2.Mem.aB.Class.length,.h s1.2.2.1 p.2.Mem.aA.Global.length,.h s1.2.2.2 p.2.Mem.aA.bB.length,I p.2.aI.aK,.h s4 p.2.aI.aX.length,.h ⟨none,0⟩ 0,.h ⟨none,0⟩ 0]])) Q Q (fun hF1 ⟨x6,x7,x8⟩ s3 hr1=>bG [34] Q Q (c0 Q (fun _=>aDS) fun x33=>fun hG1=>IW CA [] (x33.1) () pP Q Q Q Q Q Q Q Q Q Q Q Q Q fun s16=>ap 0 pP Q Q Q Q Q Q Q (fun h=>(h.o 8 Q)) Q Q hG1 fun hG1 s17=>wi hG1<|GA s17 [0,1,2,3,4,5,6] Q)<|HP s3 [3,4,5,6,0,1,2] Q) fun⟨x9,x10⟩ s4=>fun hF=>nw aP Q<|wi hF<|tS ⟨none,0⟩ [0,2,6] (fun(p:Int×Int×(List aP)) (s6:AC)=>[(5,I p.1),(11,I p.2.1)]) [7,5,6,0,1,2,3,4] [6,0,1,2,3,4] (fun p s6=>[ow s6 (p.2.2:List aP),.box 2 [.h s1.1 x10.Mem.aB.Bytes.length,.h s1.2.1 x10.Mem.aB.Class.length,.h s1.2.2.1 x10.Mem.aA.Global.length,.h s1.2.2.2 x10.Mem.aA.bB.length,I x10.aI.aK,.h s4 x10.aI.aX.length,.h s6 p.2.2.length,.h ⟨none,0⟩ 0]]) id [0,2,6] (fun(p:Int×aE) (s7:AC)=>[(5,I p.1)]) [6] (fun p s7=>(zM p.2.Mem s1 [ow s4 (p.2.aI.aX:List eX),ow s7 (p.2.aR:List aP),.box 2 [.h s1.1 p.2.Mem.aB.Bytes.length,.h s1.2.1 p.2.Mem.aB.Class.length,.h s1.2.2.1 p.2.Mem.aA.Global.length,.h s1.2.2.2 p.2.Mem.aA.bB.length,I p.2.aI.aK,.h s4 p.2.aI.aX.length,.h s7 p.2.aR.length,.h ⟨none,0⟩ 0]])) Q Q (fun hF2 ⟨x14,x15,x16⟩ s6 hr2=>bG [53] Q Q (c1 Q (fun _=>aBI) fun x32 s13=>fun hG2=>IW eA [8] (x32.1) s13 iQ Q Q Q Q Q Q Q Q Q Q Q Q Q fun s14=>apN 0 10 iQ Q Q Q Q Q Q Q Q Q Q Q hG2 fun hG2 s15=>wi hG2<|GA s15 [11,1,2,3,4,5,6,7] Q)<|HP s6 [3,4,5,6,7,0,1,2] Q) fun⟨x17,x18⟩ s7=>fun hF=>nw Int Q<|wi hF<|tS ⟨none,0⟩ [0,2,6] (fun(p:Int×Int×(List Int)) (s9:AC)=>[(5,I p.1),(14,I p.2.1)]) [8,6,7,0,1,2,3,4,5] [7,0,1,2,3,4,5] (fun p s9=>[ow s9 (p.2.2:List Int),.box 2 [.h s1.1 x18.Mem.aB.Bytes.length,.h s1.2.1 x18.Mem.aB.Class.length,.h s1.2.2.1 x18.Mem.aA.Global.length,.h s1.2.2.2 x18.Mem.aA.bB.length,I x18.aI.aK,.h s4 x18.aI.aX.length,.h s7 x18.aR.length,.h s9 p.2.2.length]]) id [0,2,6] (fun(p:Int×aE) (s10:AC)=>[(5,I p.1)]) [7] (fun p s10=>(oB p.2 s1.1 s1.2.1 s1.2.2.1 s1.2.2.2 s4 s7 s10 [.box 2 (gB p.2 s1.1 s1.2.1 s1.2.2.1 s1.2.2.2 s4 s7 s10)])) Q Q (fun hF3 ⟨x22,x23,x24⟩ s9 hr3=>bG [70] Q Q (c0 Q (fun _=>fL) fun x31=>fun hG3=>NP Q aQ Q Q Q Q fun s11=>ap 0 aQ Q Q Q Q Q Q Q (fun h=>(h.o 9 Q)) Q Q hG3 fun hG3 s12=>wi hG3<|GA s12 [0,1,2,3,4,5,6,7,8] Q)<|HP s9 [3,4,5,6,7,8,0,1,2] Q) fun⟨x25,x26⟩ s10=>dB 0 3 (fun(p:Bool×aE)=>kM p.1 p.2) [2,6] (fun(p:Bool×aE) (_:Unit)=>[(100,.b p.1)]) [8] (fun p _=>(oB p.2 s1.1 s1.2.1 s1.2.2.1 s1.2.2.2 s4 s7 s10 [.box 2 (gB p.2 s1.1 s1.2.1 s1.2.2.1 s1.2.2.2 s4 s7 s10)])) Q (eE [89,90] Q Q (cA (p:=(true,x26)) [0,1,2,3,4,5,6,7,8] Q Q)<|c0 Q (fun h=>DC (h.o 0 Q) (h.o 1 Q) (h.o 2 Q) (h.o 3 Q) (h.o 4 Q) (h.o 5 Q) (h.o 6 Q)) fun x29=>eE [93,94,95] Q Q (cA (p:=(true,x26)) [0,1,2,3,4,5,6,7,8] Q Q)<|c0 Q (fun h=>ND (h.o 0 Q) (h.o 1 Q) (h.o 2 Q) (h.o 3 Q) (h.o 4 Q) (h.o 5 Q) (h.o 6 Q)) fun x30=>cA (p:=(!(x30 == s),x26)) [0,1,2,3,4,5,6,7,8] Q Q) fun⟨x27,x28⟩ _=>bG [100] Q Q (fun hF=>sR Q<|WT Int<|WT Int<|WT aC<|WT aC<|WT eX<|WT aP<|WT Int<|L7 (hT:=tok) (⟨none,0⟩,⟨none,0⟩,⟨none,0⟩,⟨none,0⟩,⟨none,0⟩,⟨none,0⟩,⟨none,0⟩) [9,10,11,12,13,14,15] hF Q Tryz.results33 Q Q Q Q)<|dV (s1.1,s1.2.1,s1.2.2.1,s1.2.2.2,s4,s7,s10) [0,1,2,3,4,5,6] Q Q
theorem gT{w_:Int}:V0 Tryz.prog κ 56 (d9 w_) [I w_] .b:=
 cE tok Tryz.call56 Tryz.func56 Tryz.results56 Q Q<|c0 Q (fun _=>cW) fun x1=>cJ Q Q
theorem fP{s:List Int}{s1:AC}(h1:bL κ s1 s):VS Tryz.prog κ 105 (eK s) [.h s1 s.length] [] [] (fun r (y:AC)=>.h y r.length) (fun r y=>[ow y r]):=
 cE tok Tryz.call105 Tryz.func105 Tryz.results105 Q Q<|fun hF=>eqn Q Q Q Q (fun h2=>have hF:=cln h1 h2 hF;sR Q<|WT Int<|L7 (hT:=tok) ⟨none,0⟩ [0] hF Q Tryz.results105 Q Q Q Q)<|YZ (α:=Int) aQ Q Q Q Q fun s2=>ap 0 aQ Q Q Q Q Q Q Q (fun h=>(h.a h1)) Q Q hF fun hF s3=>wi hF<|dV s3 [0] Q Q
theorem xD{h:aB}{s1 s2:AC}(h1:bL κ s1 h.Bytes)(h2:bL κ s2 h.Class):VS Tryz.prog κ 261 (rD h) [.g [.h s1 h.Bytes.length,.h s2 h.Class.length]] [] [] (fun r (y:AC×AC)=>.g [.h y.1 r.Bytes.length,.h y.2 r.Class.length]) (fun r y=>[ow y.1 r.Bytes,ow y.2 r.Class]):=
 cE tok Tryz.call261 Tryz.func261 Tryz.results261 Q Q<|eG aD [0] Q<|c1 Q (fun h=>fP (h.a h1)) fun x1 s3=>c1 Q (fun h=>fP (h.a h2)) fun x2 s4=>dV (s3,s4) [2,3] Q Q
theorem fX{l:aA}{s1 s2:AC}(h1:bL κ s1 l.Global)(h2:bL κ s2 l.bB):VS Tryz.prog κ 262 (fK l) [.g [.h s1 l.Global.length,.h s2 l.bB.length]] [] [] (fun r (y:AC×AC)=>.g [.h y.1 r.Global.length,.h y.2 r.bB.length]) (fun r y=>[ow y.1 r.Global,ow y.2 r.bB]):=
 cE tok Tryz.call262 Tryz.func262 Tryz.results262 Q Q<|fun hF=>nw aC Q<|wi hF<|tS ⟨none,0⟩ [1,2,3,10,11] (fun(p:Int×(List aC)) (s4:AC)=>[(12,I p.1)]) [3,2,0,1] [0,1] (fun p s4=>[ow s4 (p.2:List aC),.box 2 [.h s4 p.2.length,.h ⟨none,0⟩ 0]]) id [1,2,3] (fun(x5:(List aC)) (s5:AC)=>[]) [0,1] (fun x5 s5=>[ow s5 (x5:List aC),.box 2 [.h s5 x5.length,.h ⟨none,0⟩ 0]]) Q Q (fun hF1 ⟨x3,x4⟩ s4 hr1=>bG [13] Q Q (D4 mT Q h1 Q fun x14 s22 h4=>dB 0 5 (AE x3) [1,2,3,10,11,12] (fun(x15:(List aC)) (s23:AC)=>[]) [2,3] (fun x15 s23=>[ow s23 (x15:List aC),.box 2 [.h s23 x15.length,.h ⟨none,0⟩ 0]]) Q (eG aD [2,3,4,5] Q<|fun hG1=>bd hG1 fun x16 hA3 hG1=>nd hG1 fun hA4 hG1=>cQ Q Q (have hq6:=rb hA3;wi hq6<|c1 Q (fun h=>fP (h.a h4)) fun u3 s27=>fun hq6=>match u3,hq6 with | _,rfl=>IW cT [6] ((⟨x16⟩:aC)) s27 bO Q Q Q Q Q Q Q Q Q Q Q Q Q fun s28=>have hq7:=rn hA4;apN 0 7 bO Q Q Q Q Q Q Q Q Q Q Q hq7 fun hq7 s29=>wi hG1<|eP (p:=(x4++([(⟨x16⟩:aC)]))) s29 [8,1,2,3] Q Q) (have hq8:=rb hA3;wi hq8<|c1 Q (fun h=>fP (h.a h4)) fun u4 s30=>fun hq8=>match u4,hq8 with | _,rfl=>cQ Q Q (IW cT [6] ((⟨x16⟩:aC)) s30 bO Q Q Q Q Q Q Q Q Q Q Q Q Q fun s31=>have hq9:=rn hA4;apN 0 7 bO Q Q Q Q Q Q Q Q Q Q Q hq9 fun hq9 s32=>wi hG1<|eP (p:=(x4++([(⟨x16⟩:aC)]))) s32 [8,1,2,3] Q Q) (IW cT [6] ((⟨x16⟩:aC)) s30 bO Q Q Q Q Q Q Q Q Q Q Q Q Q fun s33=>have hq10:=rn hA4;apN 0 7 bO Q Q Q Q Q Q Q Q Q Q Q hq10 fun hq10 s34=>wi hG1<|eP (p:=(x4++([(⟨x16⟩:aC)]))) s34 [8,1,2,3] Q Q))) fun x15 s23=>GA s23 [0,1,2,3] Q)<|HP s4 [0,1,2,3] Q) fun x5 s5=>fun hF=>nw aC Q<|wi hF<|tS ⟨none,0⟩ [2,3,27,28] (fun(p:Int×(List aC)) (s7:AC)=>[(29,I p.1)]) [4,1,3,0] [3,0] (fun p s7=>[ow s7 (p.2:List aC),.box 2 [.h s5 x5.length,.h s7 p.2.length]]) id [2,3] (fun(x10:(List aC)) (s8:AC)=>[]) [3,0] (fun x10 s8=>[ow s8 (x10:List aC),.box 2 [.h s5 x5.length,.h s8 x10.length]]) Q Q (fun hF2 ⟨x8,x9⟩ s7 hr2=>bG [30] Q Q (D4 mT Q h2 Q fun x11 s9 h3=>dB 0 5 (AB x8) [2,3,27,28,29] (fun(x12:(List aC)) (s10:AC)=>[]) [2,3] (fun x12 s10=>[ow s10 (x12:List aC),.box 2 [.h s5 x5.length,.h s10 x12.length]]) Q (eG aD [2,4,5] Q<|fun hG2=>bd hG2 fun x13 hA1 hG2=>nd hG2 fun hA2 hG2=>cQ Q Q (have hq1:=rb hA1;wi hq1<|c1 Q (fun h=>fP (h.a h3)) fun u1 s14=>fun hq1=>match u1,hq1 with | _,rfl=>IW cT [6] ((⟨x13⟩:aC)) s14 bO Q Q Q Q Q Q Q Q Q Q Q Q Q fun s15=>have hq2:=rn hA2;apN 0 7 bO Q Q Q Q Q Q Q Q Q Q Q hq2 fun hq2 s16=>wi hG2<|eP (p:=(x9++([(⟨x13⟩:aC)]))) s16 [8,1,2,3] Q Q) (have hq3:=rb hA1;wi hq3<|c1 Q (fun h=>fP (h.a h3)) fun u2 s17=>fun hq3=>match u2,hq3 with | _,rfl=>cQ Q Q (IW cT [6] ((⟨x13⟩:aC)) s17 bO Q Q Q Q Q Q Q Q Q Q Q Q Q fun s18=>have hq4:=rn hA2;apN 0 7 bO Q Q Q Q Q Q Q Q Q Q Q hq4 fun hq4 s19=>wi hG2<|eP (p:=(x9++([(⟨x13⟩:aC)]))) s19 [8,1,2,3] Q Q) (IW cT [6] ((⟨x13⟩:aC)) s17 bO Q Q Q Q Q Q Q Q Q Q Q Q Q fun s20=>have hq5:=rn hA2;apN 0 7 bO Q Q Q Q Q Q Q Q Q Q Q hq5 fun hq5 s21=>wi hG2<|eP (p:=(x9++([(⟨x13⟩:aC)]))) s21 [8,1,2,3] Q Q))) fun x12 s10=>GA s10 [0,1,2,3] Q)<|HP s7 [0,1,2,3] Q) fun x10 s8=>dV (s5,s8) [3,0] Q Q
theorem aBJ{m:Mem}{s1 s2 s3 s4:AC}(h1:bL κ s1 m.aB.Bytes)(h2:bL κ s2 m.aB.Class)(h3:bL κ s3 m.aA.Global)(h4:bL κ s4 m.aA.bB):VS Tryz.prog κ 182 (AG m) [.g (gM m s1 s2 s3 s4)] [] [] (fun r (y:VI)=>.g (yM r y)) (fun r y=>(zM r y [])):=
 cE tok Tryz.call182 Tryz.func182 Tryz.results182 Q Q<|eG aD [0] Q<|c1 Q (fun h=>xD (h.a h1) (h.a h2)) fun x1 s5=>c1 Q (fun h=>fX (h.a h3) (h.a h4)) fun x2 s6=>dV (s5.1,s5.2,s6.1,s6.2) [2,3,4,5] Q Q
theorem R9{s:List eX}{s1:AC}(h1:bL κ s1 s):VS Tryz.prog κ 263 (uH s) [.h s1 s.length] [] [] (fun r (y:AC)=>.h y r.length) (fun r y=>[ow y r]):=
 cE tok Tryz.call263 Tryz.func263 Tryz.results263 Q Q<|fun hF=>eqn Q Q Q Q (fun h2=>have hF:=cln h1 h2 hF;sR Q<|WT eX<|L7 (hT:=tok) ⟨none,0⟩ [0] hF Q Tryz.results263 Q Q Q Q)<|YZ (α:=eX) pP Q Q Q Q fun s2=>ap 0 pP Q Q Q Q Q Q Q (fun h=>(h.a h1)) Q Q hF fun hF s3=>wi hF<|dV s3 [0] Q Q
theorem uP{c:aI}{s1:AC}(h1:bL κ s1 c.aX):VS Tryz.prog κ 183 (iN c) [.g [I c.aK,.h s1 c.aX.length]] [] [] (fun r (y:AC)=>.g [I r.aK,.h y r.aX.length]) (fun r y=>[ow y r.aX]):=
 cE tok Tryz.call183 Tryz.func183 Tryz.results183 Q Q<|eG aD [0] Q<|c1 Q (fun h=>R9 (h.a h1)) fun x1 s2=>dV s2 [2] Q Q
theorem QQ{s:List bC}{s1:AC}(h1:bL κ s1 s):VS Tryz.prog κ 264 (rU s) [.h s1 s.length] [] [] (fun r (y:AC)=>.h y r.length) (fun r y=>[ow y r]):=
 cE tok Tryz.call264 Tryz.func264 Tryz.results264 Q Q<|fun hF=>eqn Q Q Q Q (fun h2=>have hF:=cln h1 h2 hF;sR Q<|WT bC<|L7 (hT:=tok) ⟨none,0⟩ [0] hF Q Tryz.results264 Q Q Q Q)<|YZ (α:=bC) cC Q Q Q Q fun s2=>ap 0 cC Q Q Q Q Q Q Q (fun h=>(h.a h1)) Q Q hF fun hF s3=>wi hF<|dV s3 [0] Q Q
theorem oT{l:List aP}{s1:AC}(h1:bL κ s1 l):VS Tryz.prog κ 184 (iO l) [.h s1 l.length] [] [] (fun r (y:AC)=>.h y r.length) (fun r y=>[ow y r]):=
 cE tok Tryz.call184 Tryz.func184 Tryz.results184 Q Q<|fun hF=>YZ (α:=aP) iQ Q Q Q Q fun s2=>wi hF<|tS s2 [7,8] (fun(p:(List aP)×Int) (s4:AC)=>[(3,.h s4 p.1.length),(9,I p.2)]) [0] [] (fun p s4=>[ow s4 (p.1:List aP)]) id [] (fun(x5:(List aP)) (s5:AC)=>[(3,.h s5 x5.length)]) [] (fun x5 s5=>[ow s5 (x5:List aP)]) Q Q (fun hF1 ⟨x3,x4⟩ s4 hr1=>bG [10] Q Q (D4 rM Q h1 Q fun x6 s6 h2=>c1 Q (fun h=>QQ (h.a h2)) fun x7 s7=>fun hG1=>IW eA [3] ((⟨x7⟩:aP)) s7 iQ Q Q Q Q Q Q Q Q Q Q Q Q Q fun s8=>apN 0 4 iQ Q Q Q Q Q Q Q Q Q Q Q hG1 fun hG1 s9=>wi hG1<|GA s9 [5] Q)<|HP s4 [0] Q) fun x5 s5=>dV s5 [0] Q Q
theorem X8{b:aE}{s1 s2 s3 s4 s5 s6 s7:AC}(h1:bL κ s1 b.Mem.aB.Bytes)(h2:bL κ s2 b.Mem.aB.Class)(h3:bL κ s3 b.Mem.aA.Global)(h4:bL κ s4 b.Mem.aA.bB)(h5:bL κ s5 b.aI.aX)(h6:bL κ s6 b.aR)(h7:bL κ s7 b.fW):VS Tryz.prog κ 91 (CZ b) [.g (gB b s1 s2 s3 s4 s5 s6 s7)] [] [] (fun r (y:QB)=>.g (yB r y)) (fun r y=>(zB r y [])):=
 cE tok Tryz.call91 Tryz.func91 Tryz.results91 Q Q<|eG aD [0] Q<|c1 Q (fun h=>aBJ (h.a h1) (h.a h2) (h.a h3) (h.a h4)) fun x1 s8=>c1 Q (fun h=>uP (h.a h5)) fun x2 s9=>c1 Q (fun h=>oT (h.a h6)) fun x3 s10=>c1 Q (fun h=>fP (h.a h7)) fun x4 s11=>dV (s8.1,s8.2.1,s8.2.2.1,s8.2.2.2,s9,s10,s11) [2,3,4,5,6,7,8] Q Q
theorem cD{s:Sub}{code:Int}{b0:Nat×Nat}:VS Tryz.prog κ 190 (bA s code) [.p 0 0,I code] [b0] [.box 0 [I s.Kind,I s.A,I s.Pc,I s.E,I s.Row,I s.B,I s.H,I s.Out,I s.Code,.b s.eI]] (fun(r:Sub) (y:Unit)=>.t []) (fun(r:Sub) (y:Unit)=>[.box 0 [I r.Kind,I r.A,I r.Pc,I r.E,I r.Row,I r.B,I r.H,I r.Out,I r.Code,.b r.eI]]):=
 cE tok Tryz.call190 Tryz.func190 Tryz.results190 Q Q<|S3 () [0] Q Q
theorem aBK{size:Int}:V0 Tryz.prog κ 265 (FL size) [I size] I:=
 cE tok Tryz.call265 Tryz.func265 Tryz.results265 Q Q<|L9 4 [0] [] Out.brk [] [] Q Q (fun hF1 x2 hr1=>bG [5] Q Q (dE 0 0 (wW x2) [0,3,4] 14 [] Q (eE [8,9] Q Q (c0 Q (fun _=>RK) fun x4=>cA [] Q Q)<|cA [] Q Q) fun x3=>bG [14] Q Q (J4 hr1 hF1<|cJ Q Q)<|y9 [] Q)<|zA [] Q)<|cJ Q Q
theorem TV{w_ c:Int}:V0 Tryz.prog κ 326 (GV w_ c) [I w_,I c] I:=
 cE tok Tryz.call326 Tryz.func326 Tryz.results326 Q Q<|dE 0 0 (C0 w_ c) [0,1] 12 [] Q (c0 Q (fun _=>gT) fun x2=>eE [7,8] Q Q (cA [] Q Q)<|c0 Q (fun _=>kY) fun x3=>cA [] Q Q) fun x1=>bG [12] Q Q (cJ Q Q)<|cJ Q Q
theorem KR{s:aC}{s1:AC}{b0:Nat×Nat}:VS Tryz.prog κ 327 (tB s) [.p 0 0] [b0] [.box 0 [.h s1 s.aJ.length],ow s1 (s.aJ:List Int)] (fun(r:Int×aC) (y:AC)=>I r.1) (fun(r:Int×aC) (y:AC)=>[.box 0 [.h y r.2.aJ.length],ow y r.2.aJ]):=
 cE tok Tryz.call327 Tryz.func327 Tryz.results327 Q Q<|bG [12] Q Q (dV s1 [0,1] Q Q)<|qX oI 1 Q Q Q fun x1 h1 _ h2=>fun hF=>iC 1 h2 h1 Q Q Q Q Q<|cqS oI 2 [] h1 () Q Q Q Q Q Q Q Q Q<|cpc 5 Q Q fun hc1=>aYM hc1 Q Q Q Q Q Q Q hF fun hF h3=>sR Q<|pmR 5 ((aV ((s.aJ.length:Int) - 1)).toNat) ((aV ((s.aJ.length:Int) - 1)).toNat) Q Q h3 Q<|L7 (hT:=tok) ⟨(AC.sub s1 1 0).a,(aV ((s.aJ.length:Int) - 1)).toNat⟩ [0,5] hF Q Tryz.results327 Q Q Q Q
theorem aBL{l:aA}{w_ c:Int}{s1 s2:AC}(h1:bL κ s1 l.Global)(h2:bL κ s2 l.bB):VS Tryz.prog κ 266 (FM l w_ c) [.g [.h s1 l.Global.length,.h s2 l.bB.length],I w_,I c] [] [] (fun r (y:AC×AC)=>.t [.g [.h y.1 r.1.Global.length,.h y.2 r.1.bB.length],I r.2]) (fun r y=>[ow y.1 r.1.Global,ow y.2 r.1.bB]):=
 cE tok Tryz.call266 Tryz.func266 Tryz.results266 Q Q<|c1 Q (fun h=>fX (h.a h1) (h.a h2)) fun x1 s3=>c0 Q (fun _=>TV) fun x2=>dE 0 3 (wX x1 x2) [6,8,9] 22 [1,2,3,4] Q (c0 Q (fun h=>AV (h.a h1) (h.a h2)) fun x6=>eE [18,19] Q Q (cA [1,2,3,4] Q Q)<|cA [1,2,3,4] Q Q) fun x3=>bG [22] Q Q (dV (s3.1,s3.2) [1,2] Q Q)<|qX cT 2 Q Q Q fun x4 h3 s4 h4=>fun hF=>iC 3 h4 h3 Q Q Q Q Q<|wi hF<|bM 5 3 0 1 [7] Q Q Q Q Q (fun _=>KR) fun x5 s5=>fun hF=>sR Q<|A6 cT 4 [8] [25] x5.2 s5 Q Q Q Q Q Q Q Q<|HQ s3.2 List.length_set.symm [(29,1)] [(0,1),(3,1)] Q Q Q<|fR Q Q<|L7 (hT:=tok) (s3.1,s3.2) [1,9] hF Q Tryz.results266 Q Q Q Q
theorem TW{l:aA}{c:Int}{s1 s2:AC}(h1:bL κ s1 l.Global)(h2:bL κ s2 l.bB):VS Tryz.prog κ 267 (wY l c) [.g [.h s1 l.Global.length,.h s2 l.bB.length],I c] [] [] (fun r (y:AC×AC)=>.t [.g [.h y.1 r.1.Global.length,.h y.2 r.1.bB.length],I r.2]) (fun r y=>[ow y.1 r.1.Global,ow y.2 r.1.bB]):=
 cE tok Tryz.call267 Tryz.func267 Tryz.results267 Q Q<|c1 Q (fun h=>fX (h.a h1) (h.a h2)) fun x1 s3=>dE 0 3 (pM c x1) [1,4,6] 17 [1,2,3,4] Q (c0 Q (fun h=>AV (h.a h1) (h.a h2)) fun x5=>eE [12,13] Q Q (cA [1,2,3,4] Q Q)<|c0 Q (fun _=>kY) fun x6=>cA [1,2,3,4] Q Q) fun x2=>bG [17] Q Q (dV (s3.1,s3.2) [1,2] Q Q)<|qX cT 1 Q Q Q fun x3 h3 s4 h4=>fun hF=>iC 3 h4 h3 Q Q Q Q Q<|wi hF<|bM 5 3 0 1 [7] Q Q Q Q Q (fun _=>KR) fun x4 s5=>fun hF=>sR Q<|A6 cT 4 [8] [20] x4.2 s5 Q Q Q Q Q Q Q Q<|HQ s3.1 List.length_set.symm [(24,0)] [(0,0),(3,0)] Q Q Q<|fR Q Q<|L7 (hT:=tok) (s3.1,s3.2) [9,2] hF Q Tryz.results267 Q Q Q Q
theorem aBM{width:Int}:V0 Tryz.prog κ 339 (pN width) [I width] .b:=
 cE tok Tryz.call339 Tryz.func339 Tryz.results339 Q Q<|c0 Q (fun _=>cW) fun x1=>cJ Q Q
theorem uQ{n width:Int}:V0 Tryz.prog κ 292 (yF n width) [I n,I width] .s:=
 cE tok Tryz.call292 Tryz.func292 Tryz.results292 Q Q<|dE 0 0 (v7 n width) [0,1] 21 [] Q (c0 Q (fun _=>aBM) fun x10=>eE [9,10] Q Q (cA [] Q Q)<|eE [12,13,14] Q Q (cA [] Q Q)<|fun hF=>aYO Q Q Q Q hF fun hF=>wi hF<|cA [] Q Q) fun x1=>bG [21] Q Q (cJ Q Q)<|fun hF=>mks (0:UInt8) dC (fun w=>aTL Q w) Q Q Q Q Q Q Q hF fun hF s1=>wi hF<|tS () [] (fun(p:Int×(List UInt8)×Int) (_:Unit)=>[(0,I p.1),(5,.h s1 p.2.1.length),(6,I p.2.2)]) [0] [] (fun p _=>[ow s1 (p.2.1:List UInt8)]) id [] (fun(x8:(List UInt8)) (_:Unit)=>[(5,.h s1 x8.length)]) [] (fun x8 _=>[ow s1 (x8:List UInt8)]) Q Q (fun hF2 ⟨x5,x6,x7⟩ _ hr2=>bG [27] Q Q (qX oU 0 Q Q Q fun x9 h1 _ h2=>fun hG2=>iC 0 h2 h1 Q Q Q Q Q<|sF Q<|A6 oU 1 [] [5,30] (u8 x5) () Q Q Q Q Q Q Q Q<|nxR () [4] hG2 Q)<|zA [0] Q) fun x8 _=>fun hF=>qbo 0 Q Q Q Q Q Q Q<|wi hF<|cJ Q Q
theorem rG{b:List Int}{at_:Int}{text:List UInt8}{s1:AC}:VS Tryz.prog κ 294 (tC b at_ text) [.h s1 b.length,I at_,.s text] [] [ow s1 (b:List Int)] (fun(r:(List Int)) (y:Unit)=>.t []) (fun(r:(List Int)) (y:Unit)=>[.o (eY [AC.v s1 b.length] r)]):=
 cE tok Tryz.call294 Tryz.func294 Tryz.results294 Q Q<|tS () [1,2,8] (fun(p:(List Int)×Int) (_:Unit)=>[(0,.h s1 p.1.length),(9,I p.2)]) [0] [] (fun p _=>[ow s1 (p.1:List Int)]) id [] (fun(x5:(List Int)) (_:Unit)=>[(0,.h s1 x5.length)]) [] (fun x5 _=>[ow s1 (x5:List Int)]) Q Q (fun hF1 ⟨x3,x4⟩ _ hr1=>fun hG1=>nd hG1 fun hl3 hG1=>wi hG1<|bG [10] Q Q (fun hG1=>qsi Q Q Q Q Q hG1 fun x6 _ hG1=>wi hG1<|qX oI 0 Q Q Q fun x7 h1 _ h2=>fun hG1=>iC 0 h2 h1 Q Q Q Q Q<|sF Q<|A6 oI 1 [] [0,12] (x6.toNat:Int) () Q Q Q Q Q Q Q Q<|nxR () [4] hG1 Q)<|zA [0] Q) fun x5 _=>fun hF=>nd hF fun hl2 hF=>sF Q<|pnR 0 hl2 Q<|L7 (hT:=tok) () [0] hF Q Tryz.results294 Q Q Q Q
theorem aDT{page index:Int}:V0 Tryz.prog κ 349 (IK page index) [I page,I index] I:=
 cE tok Tryz.call349 Tryz.func349 Tryz.results349 Q Q<|dE 0 0 (AJ page index) [0,1] 12 [] Q (c0 Q (fun _=>cW) fun x2=>eE [7,8] Q Q (cA [] Q Q)<|c0 Q (fun _=>cW) fun x3=>cA [] Q Q) fun x1=>bG [12] Q Q (cJ Q Q)<|cJ Q Q
theorem aF7{h:aB}{c:Int}{s1 s2:AC}(h1:bL κ s1 h.Bytes)(h2:bL κ s2 h.Class):VS Tryz.prog κ 329 (B9 h c) [.g [.h s1 h.Bytes.length,.h s2 h.Class.length],I c] [] [] (fun r (y:AC×AC×AC)=>.t [.g [.h y.1 r.1.Bytes.length,.h y.2.1 r.1.Class.length],.h y.2.2 r.2.length]) (fun r y=>[ow y.1 r.1.Bytes,ow y.2.1 r.1.Class,ow y.2.2 r.2]):=
 cE tok Tryz.call329 Tryz.func329 Tryz.results329 Q Q<|c1 Q (fun h=>xD (h.a h1) (h.a h2)) fun x1 s3=>fun hF=>YZ (α:=Int) aQ Q Q Q Q fun s4=>wi hF<|c0 Q (fun h=>G8 (h.a h2)) fun x2=>dE 0 3 (v8 c x1 x2) [1,4,6,7,8] 28 [4,1,2,3,5] Q (c0 Q (fun h=>RL (h.a h1) (h.a h2)) fun x21=>eE [19,20] Q Q (cA [4,1,2,3,5] Q Q)<|c0 Q (fun _=>kY) fun x22=>eE [23,24,25] Q Q (cA [4,1,2,3,5] Q Q)<|cA [4,1,2,3,5] Q Q) fun x3=>bG [28] Q Q (dV (s3.1,s3.2,s4) [2,3,0] Q Q)<|qX oI 3 Q Q Q fun x4 h3 _ h4=>fun hF=>iC 3 h4 h3 Q Q Q Q Q<|wi hF<|dB 0 4 (I6 c x1 x2) [1,4,6,7,8] (fun(x5:(List Int)) (_:Unit)=>[]) [0,1] (fun x5 _=>[ow s3.1 (x5:List Int),ow s3.2 (x1.Class.set x2.toNat c:List Int),.box 2 [.h s3.1 x5.length,.h s3.2 (x1.Class.set x2.toNat c).length]]) Q (eG aD [1,7] Q<|fun hF=>nd hF fun hA4 hF=>bd hF fun x20 hA5 hF=>cQ Q Q (cpc 2 Q Q fun hc2=>have hq9:=rn hA4;aJJ hc2 Q Q Q Q Q Q hq9 fun hq9 h6=>have hq10:=rb hA5;wi hq10<|c0 Q (fun _=>oS) fun u9=>fun hq10=>match u9,hq10 with | _,rfl=>ltK oI () ([171,c,x20]:List Int) aQ Q Q Q Q Q Q Q Q Q Q (fun _=>Q) fun s11=>cpy (xs:=([171,c,x20]:List Int)) 2 ((aV (x2 * 64)).toNat) h6 (fun h=>(h.o 8 Q)) Q Q Q Q Q Q Q Q<|rr s3.1 (fG (xs:=([171,c,x20]:List Int)) h6.1).symm [37] [] [(4,0)] Q Q Q Q<|sF Q<|A6 oI 5 [] [32] c () Q Q Q Q Q Q Q Q<|HQ s3.2 List.length_set.symm [] [(4,1)] Q Q Q<|fR Q Q<|hJ (p:=(c9 x1.Bytes ((aV (x2 * 64)).toNat) ([171,c,x20]:List Int))) () [2,9,4,0,1] hF Q) (have hq11:=rb hA5;wi hq11<|c0 Q (fun _=>oS) fun u10=>fun hq11=>match u10,hq11 with | _,rfl=>cQ Q Q (cpc 2 Q Q fun hc3=>have hq12:=rn hA4;aJJ hc3 Q Q Q Q Q Q hq12 fun hq12 h7=>ltK oI () ([171,c,x20]:List Int) aQ Q Q Q Q Q Q Q Q Q Q (fun _=>Q) fun s12=>cpy (xs:=([171,c,x20]:List Int)) 2 ((aV (x2 * 64)).toNat) h7 (fun h=>(h.o 8 Q)) Q Q Q Q Q Q Q Q<|rr s3.1 (fG (xs:=([171,c,x20]:List Int)) h7.1).symm [37] [] [(4,0)] Q Q Q Q<|sF Q<|A6 oI 5 [] [32] c () Q Q Q Q Q Q Q Q<|HQ s3.2 List.length_set.symm [] [(4,1)] Q Q Q<|fR Q Q<|hJ (p:=(c9 x1.Bytes ((aV (x2 * 64)).toNat) ([171,c,x20]:List Int))) () [2,9,4,0,1] hF Q) (ltK oI () ([171,c,x20]:List Int) aQ Q Q Q Q Q Q Q Q Q Q (fun _=>Q) fun s13=>cpc 2 Q Q fun hc4=>have hq13:=rn hA4;aJJ hc4 Q Q Q Q Q Q hq13 fun hq13 h8=>cpy (xs:=([171,c,x20]:List Int)) 2 ((aV (x2 * 64)).toNat) h8 (fun h=>(h.o 8 Q)) Q Q Q Q Q Q Q Q<|rr s3.1 (fG (xs:=([171,c,x20]:List Int)) h8.1).symm [37] [] [(4,0)] Q Q Q Q<|sF Q<|A6 oI 5 [] [32] c () Q Q Q Q Q Q Q Q<|HQ s3.2 List.length_set.symm [] [(4,1)] Q Q Q<|fR Q Q<|hJ (p:=(c9 x1.Bytes ((aV (x2 * 64)).toNat) ([171,c,x20]:List Int))) () [2,9,4,0,1] hF Q))) fun x5 _=>c0 Q (fun _=>oS) fun x6=>tS s4 [1,4,6,8,47] (fun(p:(List Int)×Int×(List Int)) (s6:AC)=>[(7,.h s6 p.1.length),(48,I p.2.1)]) [3,0,2,4,1] [4,1] (fun p s6=>[ow s6 (p.1:List Int),ow s3.1 (p.2.2:List Int),.box 2 [.h s3.1 p.2.2.length,.h s3.2 (x1.Class.set x2.toNat c).length]]) id [4,6] (fun(p:(List Int)×(List Int)) (s7:AC)=>[(7,.h s7 p.1.length)]) [4,1] (fun p s7=>[ow s7 (p.1:List Int),ow s3.1 (p.2:List Int),.box 2 [.h s3.1 p.2.length,.h s3.2 (x1.Class.set x2.toNat c).length]]) Q Q (fun hF3 ⟨x10,x11,x12⟩ s6 hr3=>bG [49] Q Q (c0 Q (fun _=>aDT) fun x15=>dB 0 4 (I5 x10 x11 x15) [1,4,6,7,8,10,47,48] (fun(x16:(List Int)) (_:Unit)=>[]) [0,3,4] (fun x16 _=>[ow s3.1 (x16:List Int),.box 2 [.h s3.1 x16.length,.h s3.2 (x1.Class.set x2.toNat c).length]]) Q (eG aD [3] Q<|fun hG3=>bd hG3 fun x17 hA1 hG3=>bd hG3 fun x18 hA2 hG3=>bd hG3 fun x19 hA3 hG3=>cQ Q Q (have hq1:=rb hA1;wi hq1<|c0 Q (fun _=>uN) fun u1=>fun hq1=>match u1,hq1 with | _,rfl=>have hq2:=rb hA2;wi hq2<|c0 Q (fun _=>uQ) fun u2=>fun hq2=>match u2,hq2 with | _,rfl=>have hq3:=rb hA3;wi hq3<|rZ [1] Q Q Q Q (fun _=>rG) fun u3 _=>fun hq3=>un 5 [55] [] [(2,0)] Q Q Q Q Q Q fun hl3=>match u3,hq3 with | _,rfl=>wi hG3<|cA (p:=(x19)) [5,2,0,3,4] Q Q) (have hq4:=rb hA1;wi hq4<|c0 Q (fun _=>uN) fun u4=>fun hq4=>match u4,hq4 with | _,rfl=>cQ Q Q (have hq5:=rb hA2;wi hq5<|c0 Q (fun _=>uQ) fun u5=>fun hq5=>match u5,hq5 with | _,rfl=>have hq6:=rb hA3;wi hq6<|rZ [1] Q Q Q Q (fun _=>rG) fun u6 _=>fun hq6=>un 5 [55] [] [(2,0)] Q Q Q Q Q Q fun hl4=>match u6,hq6 with | _,rfl=>wi hG3<|cA (p:=(x19)) [5,2,0,3,4] Q Q) (have hq7:=rb hA2;wi hq7<|c0 Q (fun _=>uQ) fun u7=>fun hq7=>match u7,hq7 with | _,rfl=>have hq8:=rb hA3;wi hq8<|rZ [1] Q Q Q Q (fun _=>rG) fun u8 _=>fun hq8=>un 5 [55] [] [(2,0)] Q Q Q Q Q Q fun hl5=>match u8,hq8 with | _,rfl=>wi hG3<|cA (p:=(x19)) [5,2,0,3,4] Q Q))) fun x16 _=>fun hG3=>NP Q aQ Q Q Q Q fun s8=>ap 2 aQ Q Q Q Q Q Q Q (fun h=>(h.o 5 Q)) Q Q hG3 fun hG3 s9=>wi hG3<|GA s9 [2,0,1,3,4] Q)<|HP s6 [0,1,2,3,4] Q) fun⟨x13,x14⟩ s7=>dV (s3.1,s3.2,s7) [1,4,0] Q Q
theorem aBN{m:Mem}{c:Int}{s1 s2 s3 s4:AC}(h1:bL κ s1 m.aB.Bytes)(h2:bL κ s2 m.aB.Class)(h3:bL κ s3 m.aA.Global)(h4:bL κ s4 m.aA.bB):VS Tryz.prog κ 268 (FN m c) [.g (gM m s1 s2 s3 s4),I c] [] [] (fun r (y:VI)=>.t [.g (yM r.1 y),I r.2]) (fun r y=>(zM r.1 y [])):=
 cE tok Tryz.call268 Tryz.func268 Tryz.results268 Q Q<|c1 Q (fun h=>aF7 (h.a h1) (h.a h2)) fun x1 s5=>dB 0 4 (EI c x1) [1,4,7] (fun(x2:Mem) (u:AC×AC)=>[(8,.p 3 0)]) [4,1] (fun x2 u=>(oM x2 s5.1 s5.2.1 u.1 u.2 [.box 3 (gM x2 s5.1 s5.2.1 u.1 u.2)])) Q (eG aD [0,1,5] Q<|fun hF=>bd hF fun x7 hA1 hF=>cQ Q Q (have hq1:=rb hA1;wi hq1<|c1 Q (fun h=>fX (h.a h3) (h.a h4)) fun u1 s11=>fun hq1=>match u1,hq1 with | _,rfl=>wi hF<|eP (p:=((⟨x1.1,x7⟩:Mem))) (s11.1,s11.2) [2,3,6,7,8,4,1] Q Q) (have hq2:=rb hA1;wi hq2<|c1 Q (fun h=>fX (h.a h3) (h.a h4)) fun u2 s12=>fun hq2=>match u2,hq2 with | _,rfl=>wi hF<|eP (p:=((⟨x1.1,x7⟩:Mem))) (s12.1,s12.2) [2,3,7,8,6,4,1] Q Q)) fun x2 ⟨s6,s7⟩=>bG [23] Q Q (dV (s5.1,s5.2.1,s6,s7) [0,1,2,3] Q Q)<|eG aD [4,6] Q<|qX cT 2 Q Q Q fun x3 h5 s8 h6=>fun hF=>iC 4 h6 h5 Q Q Q Q Q<|cpc 5 Q Q fun hc1=>aJJ hc1 Q Q Q Q Q Q hF fun hF h7=>ap 10 aQ Q Q Q Q Q Q Q (fun h=>((h.o 5 Q).sub (L8 h7.1 h7.2) h7)) Q Q hF fun hF s9=>iC 4 h6 h5 Q Q Q Q Q<|wi hF<|dB 0 5 (fun(p:Int×Mem)=>EH p.1 p.2) [4] (fun(p:Int×Mem) (_:Unit)=>[(5,I p.1)]) [] (fun p _=>(oM p.2 s5.1 s5.2.1 s6 s7 [.box 1 (gM p.2 s5.1 s5.2.1 s6 s7)])) Q (eG aD [4,9] Q<|qX oI 5 Q Q Q fun x6 h8 _ h9=>fun hF=>iC 5 h9 h8 Q Q Q Q Q<|cQ Q Q (sF Q<|tR oI 11 [] h8 () Q Q Q Q Q Q Q<|A6 cT 7 [10] [27,31] (⟨x3.aJ++((x1.2.take x1.2.length).drop ((1:Int).toNat))⟩:aC) s9 Q Q Q Q Q Q Q Q<|HQ s6 List.length_set.symm [(41,2)] [(4,2),(6,2)] Q Q Q<|fR Q Q<|hJ (p:=(x6,(⟨x2.aB,(⟨x2.aA.Global.set c.toNat (⟨x3.aJ++((x1.2.take x1.2.length).drop ((1:Int).toNat))⟩:aC),x2.aA.bB⟩:aA)⟩:Mem))) () [0,1,15,3,6] hF Q) (sF Q<|tR oI 11 [] h8 () Q Q Q Q Q Q Q<|A6 cT 7 [10] [27,31] (⟨x3.aJ++((x1.2.take x1.2.length).drop ((1:Int).toNat))⟩:aC) s9 Q Q Q Q Q Q Q Q<|HQ s6 List.length_set.symm [(41,2)] [(4,2),(6,2)] Q Q Q<|fR Q Q<|hJ (p:=(x6,(⟨x2.aB,(⟨x2.aA.Global.set c.toNat (⟨x3.aJ++((x1.2.take x1.2.length).drop ((1:Int).toNat))⟩:aC),x2.aA.bB⟩:aA)⟩:Mem))) () [0,1,15,3,6] hF Q)) fun⟨x4,x5⟩ _=>dV (s5.1,s5.2.1,s6,s7) [0,1,2,3] Q Q
theorem X9{slot gen:Int}:V0 Tryz.prog κ 330 (I7 slot gen) [I slot,I gen] I:=
 cE tok Tryz.call330 Tryz.func330 Tryz.results330 Q Q<|dE 0 0 (uI slot gen) [0,1] 12 [] Q (c0 Q (fun _=>DD) fun x2=>eE [7,8] Q Q (cA [] Q Q)<|c0 Q (fun _=>cW) fun x3=>cA [] Q Q) fun x1=>bG [12] Q Q (cJ Q Q)<|cJ Q Q
theorem YA{m:Mem}{slot:Int}{s1 s2 s3 s4:AC}(h1:bL κ s1 m.aB.Bytes)(h2:bL κ s2 m.aB.Class)(h3:bL κ s3 m.aA.Global)(h4:bL κ s4 m.aA.bB):V0 Tryz.prog κ 269 (C4 m slot) [.g (gM m s1 s2 s3 s4),I slot] I:=
 cE tok Tryz.call269 Tryz.func269 Tryz.results269 Q Q<|c0 Q (fun h=>FV (h.a h1) (h.a h2)) fun x1=>c0 Q (fun _=>X9) fun x2=>cJ Q Q
theorem O7{s:Sub}{b:aE}{w_:Int}{s1 s2 s3 s4 s5 s6 s7:AC}{b0 b1:Nat×Nat}:VS Tryz.prog κ 185 (pO s b w_) [.p 0 0,.p 1 0,I w_] [b0,b1] ([.box 0 [I s.Kind,I s.A,I s.Pc,I s.E,I s.Row,I s.B,I s.H,I s.Out,I s.Code,.b s.eI],.box 1 (gB b s1 s2 s3 s4 s5 s6 s7)]++(oB b s1 s2 s3 s4 s5 s6 s7 [])) (fun(r:Sub×aE) (y:VI)=>.t []) (fun(r:Sub×aE) (y:VI)=>([.box 0 [I r.1.Kind,I r.1.A,I r.1.Pc,I r.1.E,I r.1.Row,I r.1.B,I r.1.H,I r.1.Out,I r.1.Code,.b r.1.eI],.box 1 (gB r.2 y.1 y.2.1 y.2.2.1 y.2.2.2 s5 s6 s7)]++(oB r.2 y.1 y.2.1 y.2.2.1 y.2.2.2 s5 s6 s7 []))):=
 cE tok Tryz.call185 Tryz.func185 Tryz.results185 Q Q<|c0 Q (fun _=>aBK) fun x1=>bG [14] Q Q (bM 0 0 0 10 [] Q Q Q Q Q (fun _=>cD) fun x2 _=>dV (s1,s2,s3,s4) [0,1,2,3,4,5,6,7,8] Q Q)<|dB 1 2 (fun(p:Int×aE)=>fH s p.1 p.2) [0,1] (fun(p:Int×aE) (u:VI)=>[(7,I p.1)]) [0] (fun p u=>(oB p.2 u.1 u.2.1 u.2.2.1 u.2.2.2 s5 s6 s7 [.box 1 (gB p.2 u.1 u.2.1 u.2.2.1 u.2.2.2 s5 s6 s7)])) Q (bG [23,24] Q Q (c1 Q (fun h=>aBL (h.o 4 Q) (h.o 5 Q)) fun x8 s12=>eP (p:=(x8.2,({b with Mem:=(⟨b.Mem.aB,x8.1⟩:Mem)}:aE))) (s1,s2,s12.1,s12.2) [2,3,9,10,6,7,8,1,0] Q Q)<|dE 0 2 (lC s b x1) [0,1,6,20] 40 [0,2,3,4,5,6,7,8,1] Q (bG [40,41] Q Q (cA [0,2,3,4,5,6,7,8,1] Q Q)<|cA [0,2,3,4,5,6,7,8,1] Q Q) fun x9=>bG [40] Q Q (c1 Q (fun h=>TW (h.o 3 Q) (h.o 4 Q)) fun x10 s13=>eP (p:=(x10.2,({b with Mem:=(⟨b.Mem.aB,x10.1⟩:Mem)}:aE))) (s1,s2,s13.1,s13.2) [1,2,9,10,5,6,7,8,0] Q Q)<|bG [57,58] Q Q (c1 Q (fun h=>aBN (h.o 1 Q) (h.o 2 Q) (h.o 3 Q) (h.o 4 Q)) fun x11 s14=>eP (p:=(x11.2,({b with Mem:=x11.1}:aE))) s14 [9,10,11,12,5,6,7,8,0] Q Q)<|bM 0 0 0 10 [] Q Q Q Q Q (fun _=>cD) fun x12 _=>dV (s1,s2,s3,s4) [0,8,1,2,3,4,5,6,7] Q Q) fun⟨x3,x4⟩ ⟨s8,s9,s10,s11⟩=>bG [78,80] Q Q (c0 Q (fun h=>YA (h.o 0 Q) (h.o 1 Q) (h.o 2 Q) (h.o 3 Q)) fun x5=>bM 8 0 0 10 [] Q Q Q Q Q (fun _=>cD (s:=({s with Out:=x5}:Sub))) fun x6 _=>S3 (s8,s9,s10,s11) [8,7,0,1,2,3,4,5,6] Q Q)<|bG [92,97] Q Q (bM 8 0 0 10 [] Q Q Q Q Q (fun _=>cD) fun x7 _=>S3 (s8,s9,s10,s11) [8,7,0,1,2,3,4,5,6] Q Q)<|S3 (s8,s9,s10,s11) [8,7,0,1,2,3,4,5,6] Q Q
theorem SA{r_:bC}{k0:Int}{b0:Nat×Nat}:VS Tryz.prog κ 332 (oN r_ k0) [.g [I r_.Handle,I r_.aK],.p 0 0] [b0] [.ro 0 [I k0]] (fun r (_:Unit)=>.b r) (fun _ _=>[]):=
 cE tok Tryz.call332 Tryz.func332 Tryz.results332 Q Q<|dE 0 2 m9 [] 3 [] Q (c0 Q (fun _=>EM) fun x2=>eE [6,7] Q Q (cA [] Q Q)<|cA [] Q Q) fun x1=>cJ Q Q
theorem VR{own:aP}{k0:Int}{s1:AC}{b0:Nat×Nat}(h1:bL κ s1 own.Rows):VS Tryz.prog κ 331 (AK own k0) [.g [.h s1 own.Rows.length],.p 0 0] [b0] [.ro 0 [I k0]] (fun r (_:Unit)=>.b r) (fun _ _=>[]):=
 cE tok Tryz.call331 Tryz.func331 Tryz.results331 Q Q<|fun hF=>mf [0] Q Q Q<|wi hF<|aJP [0] Q Q Q Q (fun h=>fun hB=>tH (h.a h1) (aJO (cs:=[(0,[I k0])]) Tryz.call332 hB Q fun _ _=>SA)) fun x1=>cJ Q Q
theorem aBO{l:List aP}{slot:Int}{s1:AC}(h1:bL κ s1 l):V0 Tryz.prog κ 270 (FO l slot) [.h s1 l.length,I slot] .b:=
 cE tok Tryz.call270 Tryz.func270 Tryz.results270 Q Q<|fun hF=>mf [0] Q Q Q<|wi hF<|aJP [0] Q Q Q Q (fun h=>fun hB=>rV (h.a h1) (aJO (cs:=[(0,[I slot])]) Tryz.call331 hB Q fun _ hy=>VR hy)) fun x1=>cJ Q Q
theorem YB{l:List aP}{w_ h e_:Int}{s1:AC}(h1:bL κ s1 l):VS Tryz.prog κ 271 (C5 l w_ h e_) [.h s1 l.length,I w_,I h,I e_] [] [] (fun r (y:AC)=>.t [.h y r.1.length,.b r.2]) (fun r y=>[ow y r.1]):=
 cE tok Tryz.call271 Tryz.func271 Tryz.results271 Q Q<|dE 0 0 (uJ l w_ h e_) [0,1,2,3] 18 [] Q (c0 Q (fun h=>AZ (h.a h1)) fun x7=>eE [13,14] Q Q (cA [] Q Q)<|c0 Q (fun _=>gT) fun x8=>cA [] Q Q) fun x1=>bG [18] Q Q (c1 Q (fun h=>oT (h.a h1)) fun x2 s2=>dV s2 [0] Q Q)<|c1 Q (fun h=>oT (h.a h1)) fun x3 s3=>qX eA 0 Q Q Q fun x4 h2 s4 h3=>fun hF=>iC 0 h3 h2 Q Q Q Q Q<|IW iS [] ((⟨h,e_⟩:bC)) () cC Q Q Q Q Q Q Q Q Q Q Q Q Q fun s5=>ap 4 cC Q Q Q Q Q Q Q (fun h=>(h.o 5 Q)) Q Q hF fun hF s6=>iC 0 h3 h2 Q Q Q Q Q<|ceS eA 1 [4] [10,22,23,25,37] (⟨x4.Rows++([(⟨h,e_⟩:bC)])⟩:aP) s6 Q Q Q Q Q Q Q Q Q Q<|wi hF<|c0 Q (fun h=>AZ (h.o 6 Q)) fun x5=>bG [39] Q Q (c1 Q (fun h=>oT (h.a h1)) fun x6 s7=>dV s7 [7] Q Q)<|dV s3 [6] Q Q
theorem NS{s:Sub}{b:aE}{w_:Int}{s1 s2 s3 s4 s5 s6 s7:AC}{b0 b1:Nat×Nat}:VS Tryz.prog κ 186 (nA s b w_) [.p 0 0,.p 1 0,I w_] [b0,b1] ([.box 0 [I s.Kind,I s.A,I s.Pc,I s.E,I s.Row,I s.B,I s.H,I s.Out,I s.Code,.b s.eI],.box 1 (gB b s1 s2 s3 s4 s5 s6 s7)]++(oB b s1 s2 s3 s4 s5 s6 s7 [])) (fun(r:Sub×aE) (y:AC)=>.t []) (fun(r:Sub×aE) (y:AC)=>([.box 0 [I r.1.Kind,I r.1.A,I r.1.Pc,I r.1.E,I r.1.Row,I r.1.B,I r.1.H,I r.1.Out,I r.1.Code,.b r.1.eI],.box 1 (gB r.2 s1 s2 s3 s4 s5 y s7)]++(oB r.2 s1 s2 s3 s4 s5 y s7 []))):=
 cE tok Tryz.call186 Tryz.func186 Tryz.results186 Q Q<|bG [28,33] Q Q (S3 s6 [0,1,2,3,4,5,6,7,8] Q Q)<|dE 0 2 (jY s b w_) [0,1,2] 45 [0,2,3,4,5,6,7,8,1] Q (eG aD [0,1] Q<|eE [50,51] Q Q (cA [0,2,3,4,5,6,7,8,1] Q Q)<|c0 Q (fun _=>cW) fun x9=>cA [0,2,3,4,5,6,7,8,1] Q Q) fun x1=>bG [45] Q Q (bM 0 0 0 10 [] Q Q Q Q Q (fun _=>cD) fun x2 _=>S3 s6 [0,8,1,2,3,4,5,6,7] Q Q)<|dE 0 2 (jX s b w_) [0,1,2] 66 [0,1,2,3,4,5,6,7,8] Q (eG aD [0,8] Q<|c0 Q (fun h=>RN (h.o 1 Q) (h.o 2 Q) (h.o 3 Q) (h.o 4 Q)) fun x7=>eE [76,77] Q Q (cA [0,1,2,3,4,5,6,7,8] Q Q)<|c0 Q (fun h=>aBO (h.o 6 Q)) fun x8=>cA [0,1,2,3,4,5,6,7,8] Q Q) fun x3=>bG [66] Q Q (bM 0 0 0 10 [] Q Q Q Q Q (fun _=>cD) fun x4 _=>S3 s6 [0,8,1,2,3,4,5,6,7] Q Q)<|eG aD [0] Q<|c1 Q (fun h=>YB (h.o 6 Q)) fun x5 s8=>bM 0 0 0 10 [] Q Q Q Q Q (fun _=>cD) fun x6 _=>S3 s8 [0,8,1,2,3,4,5,9,7] Q Q
theorem aDU{c:aI}{w_ e_:Int}{s1:AC}(h1:bL κ s1 c.aX):VS Tryz.prog κ 272 (IL c w_ e_) [.g [I c.aK,.h s1 c.aX.length],I w_,I e_] [] [] (fun r (y:AC)=>.t [.g [I r.1.aK,.h y r.1.aX.length],.b r.2]) (fun r y=>[ow y r.1.aX]):=
 cE tok Tryz.call272 Tryz.func272 Tryz.results272 Q Q<|c1 Q (fun h=>uP (h.a h1)) fun x1 s2=>dE 0 3 (AL w_ e_ x1) [1,2,6,8] 19 [1,2,3] Q (c0 Q (fun h=>AY (h.a h1)) fun x6=>eE [14,15] Q Q (cA [1,2,3] Q Q)<|c0 Q (fun _=>gT) fun x7=>cA [1,2,3] Q Q) fun x2=>bG [19] Q Q (dV s2 [1] Q Q)<|qX CA 1 Q Q Q fun x3 h2 _ h3=>fun hF=>iC 3 h3 h2 Q Q Q Q Q<|wi hF<|dB 0 4 (oO w_ x1) [6,8,9] (fun(x4:Bool) (_:Unit)=>[(25,.b x4)]) [0,2,5] (fun x4 _=>[ow s2 (x1.aX:List eX)]) Q (eE [30,31] Q Q (fun hF=>sF Q<|tR CA 3 [] h2 () Q Q Q Q Q Q Q<|hJ () [6,0,2,5] hF Q)<|eE [35,36,37] Q Q (fun hF=>sF Q<|tR CA 3 [] h2 () Q Q Q Q Q Q Q<|hJ () [6,0,2,5] hF Q)<|fun hF=>sF Q<|tR CA 3 [] h2 () Q Q Q Q Q Q Q<|hJ () [6,0,2,5] hF Q) fun x4 _=>bG [25] Q Q (dV s2 [0] Q Q)<|fun hF=>ro CA 0 3 3 Q Q Q Q hF fun x5 h4 hF _=>wi hF<|bG [46,51] Q Q (fun hF=>sR Q<|A6 CA 4 [] [] ({x5 with Seen:=aV (x5.Seen+1)}:eX) () Q Q Q Q Q Q Q Q<|HQ s2 List.length_set.symm [(59,1)] [(1,1),(2,1)] Q Q Q<|fR Q Q<|L7 (hT:=tok) s2 [7] hF Q Tryz.results272 Q Q Q Q)<|fun hF=>sR Q<|A6 CA 4 [] [] ({x5 with dT:=true,Seen:=0}:eX) () Q Q Q Q Q Q Q Q<|HQ s2 List.length_set.symm [(66,1)] [(1,1),(2,1)] Q Q Q<|fR Q Q<|L7 (hT:=tok) s2 [7] hF Q Tryz.results272 Q Q Q Q
theorem aHZ{c:aI}{e_:Int}{s1:AC}(h1:bL κ s1 c.aX):VS Tryz.prog κ 273 (QA c e_) [.g [I c.aK,.h s1 c.aX.length],I e_] [] [] (fun r (y:AC)=>.t [.g [I r.1.aK,.h y r.1.aX.length],.b r.2]) (fun r y=>[ow y r.1.aX]):=
 cE tok Tryz.call273 Tryz.func273 Tryz.results273 Q Q<|c1 Q (fun h=>uP (h.a h1)) fun x1 s2=>dE 0 3 (AM x1) [4,6] 22 [1,2,3] Q (c0 Q (fun h=>AY (h.a h1)) fun x3=>eE [11,12] Q Q (cA [1,2,3] Q Q)<|eE [16,17,18] Q Q (cA [1,2,3] Q Q)<|cA [1,2,3] Q Q) fun x2=>bG [22] Q Q (dV s2 [1] Q Q)<|dV s2 [1] Q Q
theorem LR{s:Sub}{b:aE}{s1 s2 s3 s4 s5 s6 s7:AC}{b0 b1:Nat×Nat}:VS Tryz.prog κ 187 (mG s b) [.p 0 0,.p 1 0] [b0,b1] ([.box 0 [I s.Kind,I s.A,I s.Pc,I s.E,I s.Row,I s.B,I s.H,I s.Out,I s.Code,.b s.eI],.box 1 (gB b s1 s2 s3 s4 s5 s6 s7)]++(oB b s1 s2 s3 s4 s5 s6 s7 [])) (fun(r:Sub×aE) (y:AC)=>.t []) (fun(r:Sub×aE) (y:AC)=>([.box 0 [I r.1.Kind,I r.1.A,I r.1.Pc,I r.1.E,I r.1.Row,I r.1.B,I r.1.H,I r.1.Out,I r.1.Code,.b r.1.eI],.box 1 (gB r.2 s1 s2 s3 s4 y s6 s7)]++(oB r.2 s1 s2 s3 s4 y s6 s7 []))):=
 cE tok Tryz.call187 Tryz.func187 Tryz.results187 Q Q<|bG [7,12] Q Q (S3 s5 [0,1,2,3,4,5,6,7,8] Q Q)<|dE 0 2 (i9 s b) [0,1] 27 [0,2,3,4,5,6,7,8,1] Q (eE [32,33] Q Q (c0 Q (fun _=>gT) fun x8=>cA [0,2,3,4,5,6,7,8,1] Q Q)<|cA [0,2,3,4,5,6,7,8,1] Q Q) fun x1=>bG [27] Q Q (eG aD [0] Q<|c1 Q (fun h=>aDU (h.o 5 Q)) fun x2 s8=>bG [60] Q Q (bM 0 0 0 10 [] Q Q Q Q Q (fun _=>cD) fun x3 _=>dV s8 [0,8,1,2,3,4,9,6,7] Q Q)<|bG [74] Q Q (S3 s8 [0,8,1,2,3,4,9,6,7] Q Q)<|S3 s8 [0,8,1,2,3,4,9,6,7] Q Q)<|bG [78,83] Q Q (eG aD [0] Q<|c1 Q (fun h=>aHZ (h.o 5 Q)) fun x4 s9=>dB 0 2 (i7 s b x4) [0,1] (fun(x5:Int) (_:Unit)=>[]) [1,2,3,4,9,6,7,8] (fun x5 _=>[.box 0 [I s.Kind,I s.A,I s.Pc,I s.E,I s.Row,I s.B,I s.H,I x5,I s.Code,.b s.eI]]) Q (bG [4,96,99] Q Q (cA [0,1,2,3,4,9,6,7,8] Q Q)<|cA [0,1,2,3,4,9,6,7,8] Q Q) fun x5 _=>bM 0 0 0 10 [] Q Q Q Q Q (fun _=>cD (s:=({s with Out:=x5}:Sub))) fun x6 _=>S3 s9 [0,8,1,2,3,4,5,6,7] Q Q)<|bM 0 0 0 10 [] Q Q Q Q Q (fun _=>cD) fun x7 _=>S3 s5 [0,8,1,2,3,4,5,6,7] Q Q
theorem RP{l:List aP}{w_ i:Int}{s1:AC}(h1:bL κ s1 l):V0 Tryz.prog κ 274 (DW l w_ i) [.h s1 l.length,I w_,I i] .b:=
 cE tok Tryz.call274 Tryz.func274 Tryz.results274 Q Q<|dE 0 0 AN [] 6 [] Q (c0 Q (fun _=>gT) fun x2=>eE [8,9] Q Q (D4 rM Q h1 Q fun x3 s2 h2=>c0 Q (fun _=>cW) fun x4=>cA [] Q Q)<|cA [] Q Q) fun x1=>cJ Q Q
theorem WL{r_:bC}{e_:Int}:V0 Tryz.prog κ 276 (KO r_ e_) [.g [I r_.Handle,I r_.aK],I e_] .b:=
 cE tok Tryz.call276 Tryz.func276 Tryz.results276 Q Q<|dE 0 1 FP [] 4 [] Q (eE [6,7] Q Q (cA [] Q Q)<|cA [] Q Q) fun x1=>cJ Q Q
theorem QT{s:Sub}{b:aE}{w_:Int}{s1 s2 s3 s4 s5 s6 s7:AC}{b0 b1:Nat×Nat}:VS Tryz.prog κ 275 (mH s b w_) [.p 0 0,.p 1 0,I w_] [b0,b1] ([.box 0 [I s.Kind,I s.A,I s.Pc,I s.E,I s.Row,I s.B,I s.H,I s.Out,I s.Code,.b s.eI],.box 1 (gB b s1 s2 s3 s4 s5 s6 s7)]++(oB b s1 s2 s3 s4 s5 s6 s7 [])) (fun(r:Sub×aE) (y:Unit)=>.t []) (fun(r:Sub×aE) (y:Unit)=>([.box 0 [I r.1.Kind,I r.1.A,I r.1.Pc,I r.1.E,I r.1.Row,I r.1.B,I r.1.H,I r.1.Out,I r.1.Code,.b r.1.eI],.box 1 (gB r.2 s1 s2 s3 s4 s5 s6 s7)]++(oB r.2 s1 s2 s3 s4 s5 s6 s7 []))):=
 cE tok Tryz.call275 Tryz.func275 Tryz.results275 Q Q<|fun hF=>aYF Q Q Q Q<|wi hF<|L9 6 [0,1,2] [0,2,3,4,5,6,7,8,1] Out.brk [0,1] [0,2,3,4,5,6,7,8,1] Q Q (fun hF1 x2 hr1=>qX eA 6 Q Q Q fun x4 h1 s8 h2=>fun hG1=>iC 2 h2 h1 Q Q Q Q Q<|wi hG1<|bG [23] Q Q (fun hG1=>iC 2 h2 h1 Q Q Q Q Q<|wi hG1<|qX iS 12 Q Q Q fun x5 h3 _ h4=>fun hG1=>iC 3 h4 h3 Q Q Q Q Q<|wi hG1<|eG aD [0,8,11,15,16] Q<|c0 Q (fun _=>WL) fun x6=>bG [42] Q Q (eG aD [8,11,15,16] Q<|fun hG1=>sR Q<|tR iS 13 [] h3 () Q Q Q Q Q Q Q<|tR eA 9 [17] h1 s8 Q Q Q Q Q Q Q<|L7 (hT:=tok) () [0,8,1,2,3,4,5,18,7] (re hG1 Q hr1 hF1) Q Tryz.results275 Q Q Q Q)<|fun hG1=>sF Q<|tR iS 13 [] h3 () Q Q Q Q Q Q Q<|tR eA 9 [17] h1 s8 Q Q Q Q Q Q Q<|nxR () [0,1,2,3,4,5,18,7,8] hG1 Q)<|fun hG1=>sX Q<|tR eA 9 [12] h1 s8 Q Q Q Q Q Q Q<|bkR () [0,1,2,3,4,5,13,7,8] hG1 hr1 Q)<|wm (F:=DX s b) Q<|bM 0 0 0 10 [] Q Q Q Q Q (fun _=>cD) fun x3 _=>S3 () [0,8,1,2,3,4,5,6,7] Q Q
theorem O8{s:List bC}{i j:Int}{s1:AC}:VS Tryz.prog κ 333 (yG s i j) [.h s1 s.length,I i,I j] [] [ow s1 (s:List bC)] (fun(r:(List bC)) (y:AC)=>.h y r.length) (fun(r:(List bC)) (y:AC)=>[ow y r]):=
 cE tok Tryz.call333 Tryz.func333 Tryz.results333 Q Q<|fun hF=>cpc 0 Q Q fun hc1=>aWM hc1 Q Q Q Q Q Q Q Q hF fun hF h1=>wi hF<|bG [16] Q Q (dV s1 [0] Q Q)<|eG aD [] Q<|fun hF=>ZZ hc1 Q Q Q Q Q Q hF fun hF h2=>aJJ hc1 Q Q Q Q Q Q hF fun hF h3=>nd hF fun hab hF=>ap2 0 i.toNat j.toNat ⟨hab,h3.1⟩ Q Q Q Q Q Q Q Q Q fun h4=>aYN 0 (i.toNat+(s.length - j.toNat)) h4.2 (E1 h4.1 h4.2) Q Q Q Q Q Q Q Q Q hF fun hF h5=>clr 0 (((((c9 s i.toNat (s.drop j.toNat)).take (i.toNat+(s.length - j.toNat))).drop 0).length:Int).toNat) ((s.length:Int).toNat) ((⟨0,0⟩:bC):bC) h5 cC Q (fun _=>(aTS (⟨0,0⟩:bC))) Q Q Q Q Q Q Q Q<|sR Q<|poR 0 0 (i.toNat+(s.length - j.toNat)) Q Q (aWL h4 (Nat.le_trans h5.1 h5.2)) (aTN (Nat.le_of_eq (by rw [Int.toNat_natCast,E1 h4.1 h4.2];rfl)) (Nat.le_trans h5.1 h5.2))<|L7 (hT:=tok) (AC.sub s1 2 0) [0] hF Q Tryz.results333 Q Q Q Q
theorem aBP{l:List aP}{w_ i:Int}{s1:AC}(h1:bL κ s1 l):VS Tryz.prog κ 277 (FQ l w_ i) [.h s1 l.length,I w_,I i] [] [] (fun r (y:AC)=>.t [.h y r.1.length,.b r.2]) (fun r y=>[ow y r.1]):=
 cE tok Tryz.call277 Tryz.func277 Tryz.results277 Q Q<|c1 Q (fun h=>oT (h.a h1)) fun x1 s2=>dE 0 0 (wZ w_ i x1) [1,2,8] 20 [0] Q (c0 Q (fun h=>AZ (h.a h1)) fun x5=>eE [13,14] Q Q (cA [0] Q Q)<|c0 Q (fun h=>RP (h.a h1)) fun x6=>cA [0] Q Q) fun x2=>bG [20] Q Q (dV s2 [0] Q Q)<|qX eA 0 Q Q Q fun x3 h2 s3 h3=>fun hF=>iC 0 h3 h2 Q Q Q Q Q<|wi hF<|rZ [4] Q Q Q Q (fun _=>O8) fun x4 s4=>fun hF=>iC 0 h3 h2 Q Q Q Q Q<|sR Q<|A6 eA 1 [5] [6,8,22,24,35] (⟨x4⟩:aP) s4 Q Q Q Q Q Q Q Q<|L7 (hT:=tok) s2 [6] hF Q Tryz.results277 Q Q Q Q
theorem aDV{h:aB}{slot gen:Int}{s1 s2:AC}(h1:bL κ s1 h.Bytes)(h2:bL κ s2 h.Class):VS Tryz.prog κ 334 (OS h slot gen) [.g [.h s1 h.Bytes.length,.h s2 h.Class.length],I slot,I gen] [] [] (fun r (y:AC×AC)=>.t [.g [.h y.1 r.1.Bytes.length,.h y.2 r.1.Class.length],.b r.2]) (fun r y=>[ow y.1 r.1.Bytes,ow y.2 r.1.Class]):=
 cE tok Tryz.call334 Tryz.func334 Tryz.results334 Q Q<|dB 0 3 (fun(p:Int×(List Int)×(List Int))=>GX slot gen p.1 p.2.1 p.2.2) [1,2,6] (fun(p:Int×(List Int)×(List Int)) (u:AC×AC)=>[(8,.p 2 0),(9,I p.1)]) [1] (fun p u=>[ow u.1 (p.2.1:List Int),ow u.2 (p.2.2:List Int),.box 2 [.h u.1 p.2.1.length,.h u.2 p.2.2.length]]) Q (eG aD [0,1] Q<|fun hF=>bd hF fun x10 hA4 hF=>bd hF fun x11 hA5 hF=>cQ Q Q (have hq9:=rb hA4;wi hq9<|c1 Q (fun h=>xD (h.a h1) (h.a h2)) fun u9 s6=>fun hq9=>match u9,hq9 with | _,rfl=>cQ Q Q (have hq10:=rb hA5;wi hq10<|c0 Q (fun h=>AX (h.a h1) (h.a h2)) fun u10=>fun hq10=>match u10,hq10 with | _,rfl=>wi hF<|eP (p:=(x11,x10.Bytes,x10.Class)) (s6.1,s6.2) [2,3,4,1] Q Q) (have hq11:=rb hA5;wi hq11<|c0 Q (fun h=>AX (h.a h1) (h.a h2)) fun u11=>fun hq11=>match u11,hq11 with | _,rfl=>wi hF<|eP (p:=(x11,x10.Bytes,x10.Class)) (s6.1,s6.2) [2,3,4,1] Q Q)) (have hq12:=rb hA4;wi hq12<|c1 Q (fun h=>xD (h.a h1) (h.a h2)) fun u12 s7=>fun hq12=>match u12,hq12 with | _,rfl=>have hq13:=rb hA5;wi hq13<|c0 Q (fun h=>AX (h.a h1) (h.a h2)) fun u13=>fun hq13=>match u13,hq13 with | _,rfl=>wi hF<|eP (p:=(x11,x10.Bytes,x10.Class)) (s7.1,s7.2) [3,4,2,1] Q Q)) fun⟨x1,x2,x3⟩ ⟨s3,s4⟩=>dE 0 3 (AO slot gen x1 x2 x3) [1,2,6,8,9] 21 [3,0,1,2] Q (eE [16,17] Q Q (cA [3,0,1,2] Q Q)<|c0 Q (fun _=>cW) fun x9=>cA [3,0,1,2] Q Q) fun x4=>bG [21] Q Q (dV (s3,s4) [1,2] Q Q)<|dB 0 3 (GW x3) [6,8] (fun(x5:(List Int)) (_:Unit)=>[]) [0,2] (fun x5 _=>[ow s3 (x5:List Int),.box 2 [.h s3 x5.length,.h s4 x3.length]]) Q (eG aD [0] Q<|fun hF=>bd hF fun x6 hA1 hF=>bd hF fun x7 hA2 hF=>bd hF fun x8 hA3 hF=>cQ Q Q (have hq1:=rb hA1;wi hq1<|c0 Q (fun _=>uN) fun u1=>fun hq1=>match u1,hq1 with | _,rfl=>have hq2:=rb hA2;wi hq2<|c0 Q (fun _=>uQ) fun u2=>fun hq2=>match u2,hq2 with | _,rfl=>have hq3:=rb hA3;wi hq3<|rZ [1] Q Q Q Q (fun _=>rG) fun u3 _=>fun hq3=>un 4 [24] [] [(3,0)] Q Q Q Q Q Q fun hl2=>match u3,hq3 with | _,rfl=>wi hF<|cA (p:=(x8)) [4,3,0,2] Q Q) (have hq4:=rb hA1;wi hq4<|c0 Q (fun _=>uN) fun u4=>fun hq4=>match u4,hq4 with | _,rfl=>cQ Q Q (have hq5:=rb hA2;wi hq5<|c0 Q (fun _=>uQ) fun u5=>fun hq5=>match u5,hq5 with | _,rfl=>have hq6:=rb hA3;wi hq6<|rZ [1] Q Q Q Q (fun _=>rG) fun u6 _=>fun hq6=>un 4 [24] [] [(3,0)] Q Q Q Q Q Q fun hl3=>match u6,hq6 with | _,rfl=>wi hF<|cA (p:=(x8)) [4,3,0,2] Q Q) (have hq7:=rb hA2;wi hq7<|c0 Q (fun _=>uQ) fun u7=>fun hq7=>match u7,hq7 with | _,rfl=>have hq8:=rb hA3;wi hq8<|rZ [1] Q Q Q Q (fun _=>rG) fun u8 _=>fun hq8=>un 4 [24] [] [(3,0)] Q Q Q Q Q Q fun hl4=>match u8,hq8 with | _,rfl=>wi hF<|cA (p:=(x8)) [4,3,0,2] Q Q))) fun x5 _=>dV (s3,s4) [0,3] Q Q
theorem aH0{l:aA}{w_ c slot:Int}{s1 s2:AC}(h1:bL κ s1 l.Global)(h2:bL κ s2 l.bB):VS Tryz.prog κ 335 (VE l w_ c slot) [.g [.h s1 l.Global.length,.h s2 l.bB.length],I w_,I c,I slot] [] [] (fun r (y:AC×AC)=>.t [.g [.h y.1 r.1.Global.length,.h y.2 r.1.bB.length],.b r.2]) (fun r y=>[ow y.1 r.1.Global,ow y.2 r.1.bB]):=
 cE tok Tryz.call335 Tryz.func335 Tryz.results335 Q Q<|c1 Q (fun h=>fX (h.a h1) (h.a h2)) fun x1 s3=>c0 Q (fun _=>TV) fun x2=>dE 0 3 (uK c slot x1 x2) [2,3,8,10,11] 34 [1,2,3,4] Q (c0 Q (fun h=>AV (h.a h1) (h.a h2)) fun x6=>eE [20,21] Q Q (cA [1,2,3,4] Q Q)<|eE [23,24,25] Q Q (cA [1,2,3,4] Q Q)<|c0 Q (fun _=>DD) fun x7=>eE [28,29,30] Q Q (cA [1,2,3,4] Q Q)<|c0 Q (fun h=>RM (h.a h1) (h.a h2)) fun x8=>cA [1,2,3,4] Q Q) fun x3=>bG [34] Q Q (dV (s3.1,s3.2) [1,2] Q Q)<|qX cT 2 Q Q Q fun x4 h3 s4 h4=>fun hF=>iC 3 h4 h3 Q Q Q Q Q<|wi hF<|bG [45] Q Q (qX cT 1 Q Q Q fun x5 h5 s5 h6=>fun hF=>iC 4 h6 h5 Q Q Q Q Q<|NP Q aQ Q Q Q Q fun s6=>ap 11 aQ Q Q Q Q Q Q Q (fun h=>(h.o 12 Q)) Q Q hF fun hF s7=>sR Q<|A6 cT 8 [11] [47] (⟨x5.aJ++([slot])⟩:aC) s7 Q Q Q Q Q Q Q Q<|HQ s3.1 List.length_set.symm [(60,0)] [(0,0),(3,0)] Q Q Q<|tR cT 4 [7] h3 s4 Q Q Q Q Q Q Q<|fR Q Q<|L7 (hT:=tok) (s3.1,s3.2) [13,14] hF Q Tryz.results335 Q Q Q Q)<|fun hF=>NP Q aQ Q Q Q Q fun s8=>ap 7 aQ Q Q Q Q Q Q Q (fun h=>(h.o 8 Q)) Q Q hF fun hF s9=>sR Q<|A6 cT 4 [7] [37] (⟨x4.aJ++([slot])⟩:aC) s9 Q Q Q Q Q Q Q Q<|HQ s3.2 List.length_set.symm [(60,1)] [(0,1),(3,1)] Q Q Q<|fR Q Q<|L7 (hT:=tok) (s3.1,s3.2) [1,9] hF Q Tryz.results335 Q Q Q Q
theorem aF8{m:Mem}{w_ h:Int}{s1 s2 s3 s4:AC}(h1:bL κ s1 m.aB.Bytes)(h2:bL κ s2 m.aB.Class)(h3:bL κ s3 m.aA.Global)(h4:bL κ s4 m.aA.bB):VS Tryz.prog κ 278 (LG m w_ h) [.g (gM m s1 s2 s3 s4),I w_,I h] [] [] (fun r (y:VI)=>.g (yM r y)) (fun r y=>(zM r y [])):=
 cE tok Tryz.call278 Tryz.func278 Tryz.results278 Q Q<|c1 Q (fun h=>aDV (h.a h1) (h.a h2)) fun x1 s5=>dB 0 4 (I9 m w_ h) [1,3,6,7,8] (fun(x2:Mem) (u:AC×AC)=>[(11,.p 3 0)]) [0,1] (fun x2 u=>(oM x2 s5.1 s5.2 u.1 u.2 [.box 3 (gM x2 s5.1 s5.2 u.1 u.2)])) Q (eG aD [0,1,4] Q<|fun hF=>bd hF fun x6 hA1 hF=>cQ Q Q (have hq1:=rb hA1;wi hq1<|c1 Q (fun h=>fX (h.a h3) (h.a h4)) fun u1 s12=>fun hq1=>match u1,hq1 with | _,rfl=>wi hF<|eP (p:=((⟨x1.1,x6⟩:Mem))) (s12.1,s12.2) [2,3,5,6,7,0,1] Q Q) (have hq2:=rb hA1;wi hq2<|c1 Q (fun h=>fX (h.a h3) (h.a h4)) fun u2 s13=>fun hq2=>match u2,hq2 with | _,rfl=>wi hF<|eP (p:=((⟨x1.1,x6⟩:Mem))) (s13.1,s13.2) [2,3,6,7,5,0,1] Q Q)) fun x2 ⟨s6,s7⟩=>dB 0 4 I8 [6,11] (fun(x3:Mem) (u:AC×AC)=>[]) [6] (fun x3 u=>(oM x3 s5.1 s5.2 u.1 u.2 [.box 3 (gM x3 s5.1 s5.2 u.1 u.2)])) Q (bG [31] Q Q (eG aD [5,6] Q<|c0 Q (fun h=>AW (h.a h1) (h.a h2)) fun x4=>c1 Q (fun h=>aH0 (h.a h3) (h.a h4)) fun x5 s10=>eP (s10.1,s10.2) [0,1,7,8,4,6] Q Q)<|eP (s6,s7) [0,1,2,3,4,6] Q Q) fun x3 ⟨s8,s9⟩=>dV (s5.1,s5.2,s8,s9) [0,1,2,3] Q Q
theorem LS{s:Sub}{b:aE}{w_:Int}{s1 s2 s3 s4 s5 s6 s7:AC}{b0 b1:Nat×Nat}:VS Tryz.prog κ 188 (mI s b w_) [.p 0 0,.p 1 0,I w_] [b0,b1] ([.box 0 [I s.Kind,I s.A,I s.Pc,I s.E,I s.Row,I s.B,I s.H,I s.Out,I s.Code,.b s.eI],.box 1 (gB b s1 s2 s3 s4 s5 s6 s7)]++(oB b s1 s2 s3 s4 s5 s6 s7 [])) (fun(r:Sub×aE) (y:A5C)=>.t []) (fun(r:Sub×aE) (y:A5C)=>([.box 0 [I r.1.Kind,I r.1.A,I r.1.Pc,I r.1.E,I r.1.Row,I r.1.B,I r.1.H,I r.1.Out,I r.1.Code,.b r.1.eI],.box 1 (gB r.2 y.1 y.2.1 y.2.2.1 y.2.2.2.1 s5 y.2.2.2.2 s7)]++(oB r.2 y.1 y.2.1 y.2.2.1 y.2.2.2.1 s5 y.2.2.2.2 s7 []))):=
 cE tok Tryz.call188 Tryz.func188 Tryz.results188 Q Q<|dE 0 2 (d6 s b w_) [0,1,2] 6 [0,2,3,4,5,6,7,8,1] Q (eG aD [0,1] Q<|c0 Q (fun h=>RP (h.o 7 Q)) fun x13=>eE [16,17] Q Q (qX eA 7 Q Q Q fun x14 h7 s11 h8=>fun hF=>iC 2 h8 h7 Q Q Q Q Q<|wi hF<|qX iS 12 Q Q Q fun x15 h9 _ h10=>fun hF=>iC 3 h10 h9 Q Q Q Q Q<|sF Q<|tR iS 13 [] h9 () Q Q Q Q Q Q Q<|tR eA 9 [16] h7 s11 Q Q Q Q Q Q Q<|hJ () [0,2,3,4,5,6,17,8,1] hF Q)<|cA [0,2,3,4,5,6,7,8,1] Q Q) fun x1=>bG [41,46] Q Q (S3 (s1,s2,s3,s4,s6) [0,8,1,2,3,4,5,6,7] Q Q)<|bG [61,66] Q Q (aJN 0 0 0 10 8 1 0 8 [1,2,3,4,5,6,7] Q Q Q Q Q (fun _=>QT) fun x2 _=>S3 (s1,s2,s3,s4,s6) [0,8,9,10,11,12,13,14,15] Q Q)<|dE 0 2 (dL s b w_ x1) [0,1,2,6] 71 [0,1,2,3,4,5,6,7,8] Q (eE [76,77] Q Q (c0 Q (fun _=>gT) fun x12=>eE [82,83,84] Q Q (cA [0,1,2,3,4,5,6,7,8] Q Q)<|cA [0,1,2,3,4,5,6,7,8] Q Q)<|cA [0,1,2,3,4,5,6,7,8] Q Q) fun x3=>bG [71] Q Q (eG aD [0,8] Q<|qX oI 7 Q Q Q fun x4 h1 _ h2=>fun hF=>iC 2 h2 h1 Q Q Q Q Q<|wi hF<|bG [101] Q Q (fun hF=>sR Q<|tR oI 9 [] h1 () Q Q Q Q Q Q Q<|L7 (hT:=tok) (s1,s2,s3,s4,s6) [0,8,1,2,3,4,5,6,12] hF Q Tryz.results188 Q Q Q Q)<|bG [124] Q Q (fun hF=>sF Q<|tR oI 9 [] h1 () Q Q Q Q Q Q Q<|L7 (hT:=tok) (s1,s2,s3,s4,s6) [0,8,1,2,3,4,5,6,12] hF Q Tryz.results188 Q Q Q Q)<|fun hF=>sF Q<|tR oI 9 [] h1 () Q Q Q Q Q Q Q<|L7 (hT:=tok) (s1,s2,s3,s4,s6) [0,8,1,2,3,4,5,6,12] hF Q Tryz.results188 Q Q Q Q)<|dE 0 2 (cR s b w_) [0,1,2] 128 [0,1,2,3,4,5,6,7,8] Q (eG aD [0,8] Q<|eE [133,134] Q Q (eE [6,135,136,137] Q Q (qX eA 6 Q Q Q fun x9 h3 s10 h4=>fun hF=>iC 2 h4 h3 Q Q Q Q Q<|wi hF<|qX iS 12 Q Q Q fun x10 h5 _ h6=>fun hF=>iC 3 h6 h5 Q Q Q Q Q<|wi hF<|c0 Q (fun _=>WL) fun x11=>fun hF=>sF Q<|tR iS 13 [] h5 () Q Q Q Q Q Q Q<|tR eA 9 [16] h3 s10 Q Q Q Q Q Q Q<|hJ () [0,1,2,3,4,5,17,7,8] hF Q)<|cA [0,1,2,3,4,5,6,7,8] Q Q)<|cA [0,1,2,3,4,5,6,7,8] Q Q) fun x5=>bG [128] Q Q (eG aD [0] Q<|c1 Q (fun h=>aBP (h.o 6 Q)) fun x6 s8=>eG aD [0] Q<|c1 Q (fun h=>aF8 (h.o 1 Q) (h.o 2 Q) (h.o 3 Q) (h.o 4 Q)) fun x7 s9=>S3 (s9.1,s9.2.1,s9.2.2.1,s9.2.2.2,s8) [0,8,10,11,12,13,5,9,7] Q Q)<|bM 0 0 0 10 [] Q Q Q Q Q (fun _=>cD) fun x8 _=>S3 (s1,s2,s3,s4,s6) [0,8,1,2,3,4,5,6,7] Q Q
theorem TX{c:aI}{w_ e_:Int}{s1:AC}(h1:bL κ s1 c.aX):VS Tryz.prog κ 279 (LH c w_ e_) [.g [I c.aK,.h s1 c.aX.length],I w_,I e_] [] [] (fun r (y:AC)=>.t [.g [I r.1.aK,.h y r.1.aX.length],.b r.2]) (fun r y=>[ow y r.1.aX]):=
 cE tok Tryz.call279 Tryz.func279 Tryz.results279 Q Q<|c1 Q (fun h=>uP (h.a h1)) fun x1 s2=>dE 0 3 (v9 w_ e_ x1) [1,2,6,8] 25 [1,2,3] Q (c0 Q (fun h=>AY (h.a h1)) fun x4=>eE [13,14] Q Q (cA [1,2,3] Q Q)<|c0 Q (fun _=>gT) fun x5=>eE [17,18,19] Q Q (cA [1,2,3] Q Q)<|c0 Q (fun _=>cW) fun x6=>cA [1,2,3] Q Q) fun x2=>bG [25] Q Q (dV s2 [1] Q Q)<|qX CA 1 Q Q Q fun x3 h2 _ h3=>fun hF=>iC 3 h3 h2 Q Q Q Q Q<|sR Q<|A6 CA 3 [] [28] (⟨true,e_,false,0⟩:eX) () Q Q Q Q Q Q Q Q<|HQ s2 List.length_set.symm [(33,1)] [(0,1),(2,1)] Q Q Q<|fR Q Q<|L7 (hT:=tok) s2 [6] hF Q Tryz.results279 Q Q Q Q
theorem SB{s:Sub}{b:aE}{w_:Int}{s1 s2 s3 s4 s5 s6 s7:AC}{b0 b1:Nat×Nat}:VS Tryz.prog κ 189 (uL s b w_) [.p 0 0,.p 1 0,I w_] [b0,b1] ([.box 0 [I s.Kind,I s.A,I s.Pc,I s.E,I s.Row,I s.B,I s.H,I s.Out,I s.Code,.b s.eI],.box 1 (gB b s1 s2 s3 s4 s5 s6 s7)]++(oB b s1 s2 s3 s4 s5 s6 s7 [])) (fun(r:Sub×aE) (y:AC)=>.t []) (fun(r:Sub×aE) (y:AC)=>([.box 0 [I r.1.Kind,I r.1.A,I r.1.Pc,I r.1.E,I r.1.Row,I r.1.B,I r.1.H,I r.1.Out,I r.1.Code,.b r.1.eI],.box 1 (gB r.2 s1 s2 s3 s4 y s6 s7)]++(oB r.2 s1 s2 s3 s4 y s6 s7 []))):=
 cE tok Tryz.call189 Tryz.func189 Tryz.results189 Q Q<|bG [14,15] Q Q (S3 s5 [0,1,2,3,4,5,6,7,8] Q Q)<|bG [27,28] Q Q (dB 0 3 (fun(p:Bool×Int×(List eX))=>vD s b p.1 p.2.1 p.2.2) [0,1] (fun(p:Bool×Int×(List eX)) (s8:AC)=>[(6,.p 2 0),(7,.b p.1)]) [0,2,3,4,5,6,7,8,1] (fun p s8=>[ow s8 (p.2.2:List eX),.box 2 [I p.2.1,.h s8 p.2.2.length]]) Q (eG aD [0,1] Q<|fun hF=>bd hF fun x5 hA1 hF=>cQ Q Q (have hq1:=rb hA1;wi hq1<|c1 Q (fun h=>TX (h.o 6 Q)) fun u1 s10=>fun hq1=>match u1,hq1 with | _,rfl=>wi hF<|eP (p:=(x5.2,x5.1.aK,x5.1.aX)) s10 [9,10,0,2,3,4,5,6,7,8,1] Q Q) (have hq2:=rb hA1;wi hq2<|c1 Q (fun h=>TX (h.o 6 Q)) fun u2 s11=>fun hq2=>match u2,hq2 with | _,rfl=>wi hF<|eP (p:=(x5.2,x5.1.aK,x5.1.aX)) s11 [10,9,0,2,3,4,5,6,7,8,1] Q Q)) fun⟨x1,x2,x3⟩ s8=>bG [43] Q Q (bM 2 0 0 10 [] Q Q Q Q Q (fun _=>cD) fun x4 _=>dV s5 [2,10,3,4,5,6,7,8,9] Q Q)<|S3 s8 [2,10,3,4,5,6,0,8,9] Q Q)<|bG [53,54] Q Q (eG aD [0,1] Q<|bG [64] Q Q (bM 0 0 0 10 [] Q Q Q Q Q (fun _=>cD) fun x6 _=>S3 s5 [0,1,2,3,4,5,6,7,8] Q Q)<|S3 s5 [0,1,2,3,4,5,6,7,8] Q Q)<|bM 0 0 0 10 [] Q Q Q Q Q (fun _=>cD) fun x7 _=>S3 s5 [0,1,2,3,4,5,6,7,8] Q Q
theorem YC{s:Sub}{b:aE}{w_:Int}{s1 s2 s3 s4 s5 s6 s7:AC}{b0 b1:Nat×Nat}:VS Tryz.prog κ 92 (mS s b w_) [.p 0 0,.p 1 0,I w_] [b0,b1] ([.box 0 [I s.Kind,I s.A,I s.Pc,I s.E,I s.Row,I s.B,I s.H,I s.Out,I s.Code,.b s.eI],.box 1 (gB b s1 s2 s3 s4 s5 s6 s7)]++(oB b s1 s2 s3 s4 s5 s6 s7 [])) (fun(r:Sub×aE) (y:A6C)=>.t []) (fun(r:Sub×aE) (y:A6C)=>([.box 0 [I r.1.Kind,I r.1.A,I r.1.Pc,I r.1.E,I r.1.Row,I r.1.B,I r.1.H,I r.1.Out,I r.1.Code,.b r.1.eI],.box 1 (gB r.2 y.1 y.2.1 y.2.2.1 y.2.2.2.1 y.2.2.2.2.1 y.2.2.2.2.2 s7)]++(oB r.2 y.1 y.2.1 y.2.2.1 y.2.2.2.1 y.2.2.2.2.1 y.2.2.2.2.2 s7 []))):=
 cE tok Tryz.call92 Tryz.func92 Tryz.results92 Q Q<|bG [9] Q Q (dV (s1,s2,s3,s4,s5,s6) [0,1,2,3,4,5,6,7,8] Q Q)<|bG [16,17] Q Q (aJN 0 0 0 10 1 1 0 8 [2,3,4,5,6,7,8] Q Q Q Q Q (fun _=>O7) fun x1 s8=>S3 (s8.1,s8.2.1,s8.2.2.1,s8.2.2.2,s5,s6) [0,1,9,10,11,12,13,14,15] Q Q)<|bG [22,23] Q Q (aJN 0 0 0 10 1 1 0 8 [2,3,4,5,6,7,8] Q Q Q Q Q (fun _=>NS) fun x2 s9=>S3 (s1,s2,s3,s4,s5,s9) [0,1,9,10,11,12,13,14,15] Q Q)<|bG [28,29] Q Q (aJN 0 0 0 10 1 1 0 8 [2,3,4,5,6,7,8] Q Q Q Q Q (fun _=>LR) fun x3 s10=>S3 (s1,s2,s3,s4,s10,s6) [0,1,9,10,11,12,13,14,15] Q Q)<|bG [33,34] Q Q (aJN 0 0 0 10 1 1 0 8 [2,3,4,5,6,7,8] Q Q Q Q Q (fun _=>LS) fun x4 s11=>S3 (s11.1,s11.2.1,s11.2.2.1,s11.2.2.2.1,s5,s11.2.2.2.2) [0,1,9,10,11,12,13,14,15] Q Q)<|bG [39,40] Q Q (aJN 0 0 0 10 1 1 0 8 [2,3,4,5,6,7,8] Q Q Q Q Q (fun _=>SB) fun x5 s12=>S3 (s1,s2,s3,s4,s12,s6) [0,1,9,10,11,12,13,14,15] Q Q)<|bM 0 0 0 10 [] Q Q Q Q Q (fun _=>cD) fun x6 _=>S3 (s1,s2,s3,s4,s5,s6) [0,1,2,3,4,5,6,7,8] Q Q
theorem cX{b:aE}{w_:Int}{s:Sub}{s1 s2 s3 s4 s5 s6 s7:AC}(h1:bL κ s1 b.Mem.aB.Bytes)(h2:bL κ s2 b.Mem.aB.Class)(h3:bL κ s3 b.Mem.aA.Global)(h4:bL κ s4 b.Mem.aA.bB)(h5:bL κ s5 b.aI.aX)(h6:bL κ s6 b.aR)(h7:bL κ s7 b.fW):VS Tryz.prog κ 34 (IM b w_ s) [.g (gB b s1 s2 s3 s4 s5 s6 s7),I w_,.g [I s.Kind,I s.A,I s.Pc,I s.E,I s.Row,I s.B,I s.H,I s.Out,I s.Code,.b s.eI]] [] [] (fun r (y:QB)=>.t [.g (yB r.1 y),.g [I r.2.Kind,I r.2.A,I r.2.Pc,I r.2.E,I r.2.Row,I r.2.B,I r.2.H,I r.2.Out,I r.2.Code,.b r.2.eI]]) (fun r y=>(zB r.1 y [])):=
 cE tok Tryz.call34 Tryz.func34 Tryz.results34 Q Q<|c1 Q (fun h=>X8 (h.a h1) (h.a h2) (h.a h3) (h.a h4) (h.a h5) (h.a h6) (h.a h7)) fun x1 s8=>dB 0 5 (fun(p:Bool×aE)=>AP w_ s p.1 p.2) [1,5,6,7,8] (fun(p:Bool×aE) (_:Unit)=>[(18,.b p.1)]) [1,2,3] (fun p _=>(zB p.2 s8 [.box 4 (yB p.2 s8)])) Q (c0 Q (fun h=>JH (h.a h1) (h.a h2) (h.a h3) (h.a h4) (h.a h5) (h.a h6) (h.a h7)) fun x13=>eE [13,14] Q Q (cA (p:=(true,x1)) [4,5,6,7,8,9,10,11,1,2,3] Q Q)<|c0 Q (fun _=>gT) fun x14=>cA (p:=(!x14,x1)) [4,5,6,7,8,9,10,11,1,2,3] Q Q) fun⟨x2,x3⟩ _=>bG [18] Q Q (eG aD [7,8] Q<|dV s8 [0,1,2,3,4,5,6] Q Q)<|tS (s8.1,s8.2.1,s8.2.2.1,s8.2.2.2.1,s8.2.2.2.2.1,s8.2.2.2.2.2.1) [1,5,6,7,8] (fun(p:Int×Sub×aE) (u:A6C)=>[(21,I p.1)]) [8,0,1,2,3,4,5,6,7,9,10] [9,10] (fun p u=>([.box 1 [I p.2.1.Kind,I p.2.1.A,I p.2.1.Pc,I p.2.1.E,I p.2.1.Row,I p.2.1.B,I p.2.1.H,I p.2.1.Out,I p.2.1.Code,.b p.2.1.eI]]++(oB p.2.2 u.1 u.2.1 u.2.2.1 u.2.2.2.1 u.2.2.2.2.1 u.2.2.2.2.2 s8.2.2.2.2.2.2 [.box 4 (gB p.2.2 u.1 u.2.1 u.2.2.1 u.2.2.2.1 u.2.2.2.2.1 u.2.2.2.2.2 s8.2.2.2.2.2.2)]))) id [5,6,7,8] (fun(p:Sub×aE) (u:A6C)=>[]) [9,10] (fun p u=>([.box 1 [I p.1.Kind,I p.1.A,I p.1.Pc,I p.1.E,I p.1.Row,I p.1.B,I p.1.H,I p.1.Out,I p.1.Code,.b p.1.eI]]++(oB p.2 u.1 u.2.1 u.2.2.1 u.2.2.2.1 u.2.2.2.2.1 u.2.2.2.2.2 s8.2.2.2.2.2.2 [.box 4 (gB p.2 u.1 u.2.1 u.2.2.1 u.2.2.2.1 u.2.2.2.2.1 u.2.2.2.2.2 s8.2.2.2.2.2.2)]))) Q Q (fun hF2 ⟨x7,x8,x9⟩ ⟨s15,s16,s17,s18,s19,s20⟩ hr2=>bG [22] Q Q (aJN 0 1 0 10 8 4 0 8 [1,2,3,4,5,6,7] Q Q Q Q Q (fun _=>YC) fun x12 s27=>GA s27 [0,11,12,13,14,15,16,17,8,9,10] Q)<|HP (s15,s16,s17,s18,s19,s20) [0,1,2,3,4,5,6,7,8,9,10] Q) fun⟨x10,x11⟩ ⟨s21,s22,s23,s24,s25,s26⟩=>eG aD [0,8] Q<|dV (s21,s22,s23,s24,s25,s26,s8.2.2.2.2.2.2) [1,2,3,4,5,6,7] Q Q
theorem fM{kind a_:Int}:V0 Tryz.prog κ 35 (OT kind a_) [I kind,I a_] (fun r=>.g [I r.Kind,I r.A,I r.Pc,I r.E,I r.Row,I r.B,I r.H,I r.Out,I r.Code,.b r.eI]):=
 cE tok Tryz.call35 Tryz.func35 Tryz.results35 Q Q<|cJ Q Q
theorem aDW{code:List UInt8}{s1:AC}(h1:bL κ s1 code):V0 Tryz.prog κ 6 (OU code) [.h s1 code.length] .b:=
 cE tok Tryz.call6 Tryz.func6 Tryz.results6 Q Q<|c0 Q (fun h=>aJS (h.a h1)) fun x1=>bG [20] Q Q (cJ Q Q)<|c1 Q (fun h=>QO (h.a h1)) fun x2 s2=>c0 Q (fun h=>EN (h.o 0 Q) (h.o 1 Q) (h.o 2 Q) (h.o 3 Q) (h.o 4 Q) (h.o 5 Q) (h.o 6 Q)) fun x3=>c1 Q (fun _=>NA) fun x4 s3=>dB 0 2 (fun(p:Bool×aE×aE)=>kX code x4 p.1 p.2.1 p.2.2) [0,3,5,6] (fun(p:Bool×aE×aE) (_:Unit)=>[(48,.b p.1)]) [] (fun p _=>(zB p.2.1 s2 ([.box 0 (yB p.2.1 s2)]))++(zB p.2.2 s3 [.box 1 (yB p.2.2 s3)])) Q (c0 Q (fun h=>DC (h.o 0 Q) (h.o 1 Q) (h.o 2 Q) (h.o 3 Q) (h.o 4 Q) (h.o 5 Q) (h.o 6 Q)) fun x36=>eE [33,34] Q Q (cA (p:=(true,x2,x4.1)) [0,1,2,3,4,5,6,7,8,9,10,11,12,13,14,15] Q Q)<|eE [29,30,35,36] Q Q (c0 Q (fun h=>NB (h.o 8 Q) (h.o 9 Q) (h.o 10 Q) (h.o 11 Q) (h.o 12 Q) (h.o 13 Q) (h.o 14 Q) (h.o 0 Q) (h.o 1 Q) (h.o 2 Q) (h.o 3 Q) (h.o 4 Q) (h.o 5 Q) (h.o 6 Q)) fun x37=>eE [40,41,42,43] Q Q (cA (p:=(true,x2,x4.1)) [0,1,2,3,4,5,6,7,8,9,10,11,12,13,14,15] Q Q)<|cA (p:=(!((!(x3 == ([]))) == x4.2),x2,x4.1)) [0,1,2,3,4,5,6,7,8,9,10,11,12,13,14,15] Q Q)<|cA (p:=(!((!(x3 == ([]))) == x4.2),x2,x4.1)) [0,1,2,3,4,5,6,7,8,9,10,11,12,13,14,15] Q Q) fun⟨x5,x6,x7⟩ _=>bG [48] Q Q (cJ Q Q)<|c1 Q (fun h=>R8 (h.a h1)) fun x8 s4=>c0 Q (fun h=>G7 (h.o 16 Q) (h.o 17 Q) (h.o 18 Q) (h.o 19 Q)) fun x9=>c1 Q (fun _=>aBE) fun x10 s5=>dB 0 4 (fun(p:Bool×aE×aE)=>oQ code x4 p.1 p.2.1 p.2.2) [0,3,5,6] (fun(p:Bool×aE×aE) (_:Unit)=>[(69,.b p.1)]) [] (fun p _=>(zB p.2.1 s2 ([.box 0 (yB p.2.1 s2)]))++(zB p.2.2 s3 [.box 1 (yB p.2.2 s3)])) Q (c0 Q (fun h=>uM (h.o 16 Q) (h.o 17 Q) (h.o 18 Q) (h.o 19 Q)) fun x34=>eE [60,61] Q Q (cA (p:=(true,x6,x7)) [0,1,2,3,4,5,6,7,8,9,10,11,12,13,14,15] Q Q)<|eE [9,56,57,62,63] Q Q (c0 Q (fun h=>O5 (h.o 21 Q) (h.o 22 Q) (h.o 23 Q) (h.o 24 Q) (h.o 16 Q) (h.o 17 Q) (h.o 18 Q) (h.o 19 Q)) fun x35=>cA (p:=(!x35,x6,x7)) [0,1,2,3,4,5,6,7,8,9,10,11,12,13,14,15] Q Q)<|cA (p:=(false,x6,x7)) [0,1,2,3,4,5,6,7,8,9,10,11,12,13,14,15] Q Q) fun⟨x11,x12,x13⟩ _=>bG [69] Q Q (cJ Q Q)<|c0 Q (fun h=>QP (h.a h1)) fun x14=>c1 Q (fun _=>NA) fun x15 s6=>c1 Q (fun _=>X7) fun x16 s7=>dB 0 6 (fun(p:Bool×aE×aE)=>oP code x4 p.1 p.2.1 p.2.2) [0,3,5,6] (fun(p:Bool×aE×aE) (_:Unit)=>[(93,.b p.1)]) [] (fun p _=>(zB p.2.1 s2 ([.box 0 (yB p.2.1 s2)]))++(zB p.2.2 s3 [.box 1 (yB p.2.2 s3)])) Q (eE [84,85] Q Q (cA (p:=(true,x12,x13)) [0,1,2,3,4,5,6,7,8,9,10,11,12,13,14,15] Q Q)<|eE [12,76,82,86,87] Q Q (c0 Q (fun h=>EN (h.o 16 Q) (h.o 17 Q) (h.o 18 Q) (h.o 19 Q) (h.o 20 Q) (h.o 21 Q) (h.o 22 Q)) fun x33=>cA (p:=(!(x33 == x14),x12,x13)) [0,1,2,3,4,5,6,7,8,9,10,11,12,13,14,15] Q Q)<|cA (p:=(false,x12,x13)) [0,1,2,3,4,5,6,7,8,9,10,11,12,13,14,15] Q Q) fun⟨x17,x18,x19⟩ _=>bG [93] Q Q (cJ Q Q)<|bG [95] Q Q (cJ Q Q)<|dB 0 8 (fun(p:aE×aE×Sub)=>G0 code p.1 p.2.1 p.2.2) [0,3] (fun(p:aE×aE×Sub) (u:QB)=>[(15,.p 6 0),(16,.p 7 0)]) [] (fun p u=>(zB p.1 s2 ([.box 0 (yB p.1 s2)]))++(zB p.2.1 u [.box 6 (yB p.2.1 u),.box 7 [I p.2.2.Kind,I p.2.2.A,I p.2.2.Pc,I p.2.2.E,I p.2.2.Row,I p.2.2.B,I p.2.2.H,I p.2.2.Out,I p.2.2.Code,.b p.2.2.eI]])) Q (eG aD [7,15] Q<|fun hF=>bd hF fun x30 hA3 hF=>bd hF fun x31 hA4 hF=>bd hF fun x32 hA5 hF=>aFS Q Q (have hq17:=rb hA3;wi hq17<|c0 Q (fun h=>rE (h.a h1)) fun u17=>fun hq17=>match u17,hq17 with | _,rfl=>aFS Q Q (have hq18:=rb hA4;wi hq18<|c0 Q (fun _=>fM) fun u18=>fun hq18=>match u18,hq18 with | _,rfl=>aFS Q Q (have hq19:=rb hA5;wi hq19<|c1 Q (fun h=>cX (h.o 8 Q) (h.o 9 Q) (h.o 10 Q) (h.o 11 Q) (h.o 12 Q) (h.o 13 Q) (h.o 14 Q)) fun u19 s35=>fun hq19=>match u19,hq19 with | _,rfl=>cQ Q Q (wi hF<|eP (p:=(x18,x32.1,x32.2)) s35 [0,1,2,3,4,5,6,7,16,17,18,19,20,21,22,23,24] Q Q) (sF Q<|UM 7 6 Q<|fD Q Q<|hJ (p:=(x18,x32.1,x32.2)) s35 [0,1,2,3,4,5,6,7,16,17,18,19,20,21,22,24,23] hF Q)) (cQ Q Q (have hq20:=rb hA5;wi hq20<|c1 Q (fun h=>cX (h.o 8 Q) (h.o 9 Q) (h.o 10 Q) (h.o 11 Q) (h.o 12 Q) (h.o 13 Q) (h.o 14 Q)) fun u20 s36=>fun hq20=>match u20,hq20 with | _,rfl=>wi hF<|eP (p:=(x18,x32.1,x32.2)) s36 [0,1,2,3,4,5,6,7,17,18,19,20,21,22,23,16,24] Q Q) (have hq21:=rb hA5;wi hq21<|c1 Q (fun h=>cX (h.o 8 Q) (h.o 9 Q) (h.o 10 Q) (h.o 11 Q) (h.o 12 Q) (h.o 13 Q) (h.o 14 Q)) fun u21 s37=>fun hq21=>match u21,hq21 with | _,rfl=>wi hF<|eP (p:=(x18,x32.1,x32.2)) s37 [0,1,2,3,4,5,6,7,18,19,20,21,22,23,24,16,17] Q Q)) (cQ Q Q (have hq22:=rb hA5;wi hq22<|c1 Q (fun h=>cX (h.o 8 Q) (h.o 9 Q) (h.o 10 Q) (h.o 11 Q) (h.o 12 Q) (h.o 13 Q) (h.o 14 Q)) fun u22 s38=>fun hq22=>match u22,hq22 with | _,rfl=>sF Q<|UM 7 6 Q<|fD Q Q<|hJ (p:=(x18,x32.1,x32.2)) s38 [0,1,2,3,4,5,6,7,17,18,19,20,21,22,23,24,16] hF Q) (have hq23:=rb hA5;wi hq23<|c1 Q (fun h=>cX (h.o 8 Q) (h.o 9 Q) (h.o 10 Q) (h.o 11 Q) (h.o 12 Q) (h.o 13 Q) (h.o 14 Q)) fun u23 s39=>fun hq23=>match u23,hq23 with | _,rfl=>sF Q<|UM 7 6 Q<|fD Q Q<|hJ (p:=(x18,x32.1,x32.2)) s39 [0,1,2,3,4,5,6,7,18,19,20,21,22,23,24,17,16] hF Q))) (cQ Q Q (have hq24:=rb hA4;wi hq24<|c0 Q (fun _=>fM) fun u24=>fun hq24=>match u24,hq24 with | _,rfl=>cQ Q Q (have hq25:=rb hA5;wi hq25<|c1 Q (fun h=>cX (h.o 8 Q) (h.o 9 Q) (h.o 10 Q) (h.o 11 Q) (h.o 12 Q) (h.o 13 Q) (h.o 14 Q)) fun u25 s40=>fun hq25=>match u25,hq25 with | _,rfl=>wi hF<|eP (p:=(x18,x32.1,x32.2)) s40 [0,1,2,3,4,5,6,7,17,18,19,20,21,22,23,16,24] Q Q) (have hq26:=rb hA5;wi hq26<|c1 Q (fun h=>cX (h.o 8 Q) (h.o 9 Q) (h.o 10 Q) (h.o 11 Q) (h.o 12 Q) (h.o 13 Q) (h.o 14 Q)) fun u26 s41=>fun hq26=>match u26,hq26 with | _,rfl=>wi hF<|eP (p:=(x18,x32.1,x32.2)) s41 [0,1,2,3,4,5,6,7,18,19,20,21,22,23,24,16,17] Q Q)) (have hq27:=rb hA4;wi hq27<|c0 Q (fun _=>fM) fun u27=>fun hq27=>match u27,hq27 with | _,rfl=>have hq28:=rb hA5;wi hq28<|c1 Q (fun h=>cX (h.o 8 Q) (h.o 9 Q) (h.o 10 Q) (h.o 11 Q) (h.o 12 Q) (h.o 13 Q) (h.o 14 Q)) fun u28 s42=>fun hq28=>match u28,hq28 with | _,rfl=>wi hF<|eP (p:=(x18,x32.1,x32.2)) s42 [0,1,2,3,4,5,6,7,18,19,20,21,22,23,24,16,17] Q Q)) (cQ Q Q (have hq29:=rb hA4;wi hq29<|c0 Q (fun _=>fM) fun u29=>fun hq29=>match u29,hq29 with | _,rfl=>cQ Q Q (have hq30:=rb hA5;wi hq30<|c1 Q (fun h=>cX (h.o 8 Q) (h.o 9 Q) (h.o 10 Q) (h.o 11 Q) (h.o 12 Q) (h.o 13 Q) (h.o 14 Q)) fun u30 s43=>fun hq30=>match u30,hq30 with | _,rfl=>sF Q<|UM 7 6 Q<|fD Q Q<|hJ (p:=(x18,x32.1,x32.2)) s43 [0,1,2,3,4,5,6,7,17,18,19,20,21,22,23,24,16] hF Q) (have hq31:=rb hA5;wi hq31<|c1 Q (fun h=>cX (h.o 8 Q) (h.o 9 Q) (h.o 10 Q) (h.o 11 Q) (h.o 12 Q) (h.o 13 Q) (h.o 14 Q)) fun u31 s44=>fun hq31=>match u31,hq31 with | _,rfl=>sF Q<|UM 7 6 Q<|fD Q Q<|hJ (p:=(x18,x32.1,x32.2)) s44 [0,1,2,3,4,5,6,7,18,19,20,21,22,23,24,17,16] hF Q)) (have hq32:=rb hA4;wi hq32<|c0 Q (fun _=>fM) fun u32=>fun hq32=>match u32,hq32 with | _,rfl=>have hq33:=rb hA5;wi hq33<|c1 Q (fun h=>cX (h.o 8 Q) (h.o 9 Q) (h.o 10 Q) (h.o 11 Q) (h.o 12 Q) (h.o 13 Q) (h.o 14 Q)) fun u33 s45=>fun hq33=>match u33,hq33 with | _,rfl=>sF Q<|UM 7 6 Q<|fD Q Q<|hJ (p:=(x18,x32.1,x32.2)) s45 [0,1,2,3,4,5,6,7,18,19,20,21,22,23,24,17,16] hF Q))) (cQ Q Q (have hq34:=rb hA3;wi hq34<|c0 Q (fun h=>rE (h.a h1)) fun u34=>fun hq34=>match u34,hq34 with | _,rfl=>cQ Q Q (have hq35:=rb hA4;wi hq35<|c0 Q (fun _=>fM) fun u35=>fun hq35=>match u35,hq35 with | _,rfl=>cQ Q Q (have hq36:=rb hA5;wi hq36<|c1 Q (fun h=>cX (h.o 8 Q) (h.o 9 Q) (h.o 10 Q) (h.o 11 Q) (h.o 12 Q) (h.o 13 Q) (h.o 14 Q)) fun u36 s46=>fun hq36=>match u36,hq36 with | _,rfl=>wi hF<|eP (p:=(x18,x32.1,x32.2)) s46 [0,1,2,3,4,5,6,7,17,18,19,20,21,22,23,16,24] Q Q) (have hq37:=rb hA5;wi hq37<|c1 Q (fun h=>cX (h.o 8 Q) (h.o 9 Q) (h.o 10 Q) (h.o 11 Q) (h.o 12 Q) (h.o 13 Q) (h.o 14 Q)) fun u37 s47=>fun hq37=>match u37,hq37 with | _,rfl=>wi hF<|eP (p:=(x18,x32.1,x32.2)) s47 [0,1,2,3,4,5,6,7,18,19,20,21,22,23,24,16,17] Q Q)) (have hq38:=rb hA4;wi hq38<|c0 Q (fun _=>fM) fun u38=>fun hq38=>match u38,hq38 with | _,rfl=>have hq39:=rb hA5;wi hq39<|c1 Q (fun h=>cX (h.o 8 Q) (h.o 9 Q) (h.o 10 Q) (h.o 11 Q) (h.o 12 Q) (h.o 13 Q) (h.o 14 Q)) fun u39 s48=>fun hq39=>match u39,hq39 with | _,rfl=>wi hF<|eP (p:=(x18,x32.1,x32.2)) s48 [0,1,2,3,4,5,6,7,18,19,20,21,22,23,24,16,17] Q Q)) (have hq40:=rb hA3;wi hq40<|c0 Q (fun h=>rE (h.a h1)) fun u40=>fun hq40=>match u40,hq40 with | _,rfl=>have hq41:=rb hA4;wi hq41<|c0 Q (fun _=>fM) fun u41=>fun hq41=>match u41,hq41 with | _,rfl=>have hq42:=rb hA5;wi hq42<|c1 Q (fun h=>cX (h.o 8 Q) (h.o 9 Q) (h.o 10 Q) (h.o 11 Q) (h.o 12 Q) (h.o 13 Q) (h.o 14 Q)) fun u42 s49=>fun hq42=>match u42,hq42 with | _,rfl=>wi hF<|eP (p:=(x18,x32.1,x32.2)) s49 [0,1,2,3,4,5,6,7,18,19,20,21,22,23,24,16,17] Q Q)) (cQ Q Q (have hq43:=rb hA3;wi hq43<|c0 Q (fun h=>rE (h.a h1)) fun u43=>fun hq43=>match u43,hq43 with | _,rfl=>cQ Q Q (have hq44:=rb hA4;wi hq44<|c0 Q (fun _=>fM) fun u44=>fun hq44=>match u44,hq44 with | _,rfl=>cQ Q Q (have hq45:=rb hA5;wi hq45<|c1 Q (fun h=>cX (h.o 8 Q) (h.o 9 Q) (h.o 10 Q) (h.o 11 Q) (h.o 12 Q) (h.o 13 Q) (h.o 14 Q)) fun u45 s50=>fun hq45=>match u45,hq45 with | _,rfl=>sF Q<|UM 7 6 Q<|fD Q Q<|hJ (p:=(x18,x32.1,x32.2)) s50 [0,1,2,3,4,5,6,7,17,18,19,20,21,22,23,24,16] hF Q) (have hq46:=rb hA5;wi hq46<|c1 Q (fun h=>cX (h.o 8 Q) (h.o 9 Q) (h.o 10 Q) (h.o 11 Q) (h.o 12 Q) (h.o 13 Q) (h.o 14 Q)) fun u46 s51=>fun hq46=>match u46,hq46 with | _,rfl=>sF Q<|UM 7 6 Q<|fD Q Q<|hJ (p:=(x18,x32.1,x32.2)) s51 [0,1,2,3,4,5,6,7,18,19,20,21,22,23,24,17,16] hF Q)) (have hq47:=rb hA4;wi hq47<|c0 Q (fun _=>fM) fun u47=>fun hq47=>match u47,hq47 with | _,rfl=>have hq48:=rb hA5;wi hq48<|c1 Q (fun h=>cX (h.o 8 Q) (h.o 9 Q) (h.o 10 Q) (h.o 11 Q) (h.o 12 Q) (h.o 13 Q) (h.o 14 Q)) fun u48 s52=>fun hq48=>match u48,hq48 with | _,rfl=>sF Q<|UM 7 6 Q<|fD Q Q<|hJ (p:=(x18,x32.1,x32.2)) s52 [0,1,2,3,4,5,6,7,18,19,20,21,22,23,24,17,16] hF Q)) (have hq49:=rb hA3;wi hq49<|c0 Q (fun h=>rE (h.a h1)) fun u49=>fun hq49=>match u49,hq49 with | _,rfl=>have hq50:=rb hA4;wi hq50<|c0 Q (fun _=>fM) fun u50=>fun hq50=>match u50,hq50 with | _,rfl=>have hq51:=rb hA5;wi hq51<|c1 Q (fun h=>cX (h.o 8 Q) (h.o 9 Q) (h.o 10 Q) (h.o 11 Q) (h.o 12 Q) (h.o 13 Q) (h.o 14 Q)) fun u51 s53=>fun hq51=>match u51,hq51 with | _,rfl=>sF Q<|UM 7 6 Q<|fD Q Q<|hJ (p:=(x18,x32.1,x32.2)) s53 [0,1,2,3,4,5,6,7,18,19,20,21,22,23,24,17,16] hF Q))) fun⟨x20,x21,x22⟩ ⟨s8,s9,s10,s11,s12,s13,s14⟩=>dB 0 10 (fun(p:aE×aE×Sub)=>GZ x22 p.1 p.2.1 p.2.2) [15,16] (fun(p:aE×aE×Sub) (u:QB)=>[(17,.p 8 0),(18,.p 9 0)]) [16] (fun p u=>(oB p.1 s8 s9 s10 s11 s12 s13 s14 ([.box 6 (gB p.1 s8 s9 s10 s11 s12 s13 s14)]))++(zB p.2.1 u [.box 8 (yB p.2.1 u),.box 9 [I p.2.2.Kind,I p.2.2.A,I p.2.2.Pc,I p.2.2.E,I p.2.2.Row,I p.2.2.B,I p.2.2.H,I p.2.2.Out,I p.2.2.Code,.b p.2.2.eI]])) Q (eG aD [7,15,16] Q<|fun hF=>bd hF fun x28 hA1 hF=>bd hF fun x29 hA2 hF=>aFS Q Q (have hq1:=rb hA1;wi hq1<|c0 Q (fun h=>rE (h.a h1)) fun u1=>fun hq1=>match u1,hq1 with | _,rfl=>aFS Q Q (have hq2:=rb hA2;wi hq2<|c1 Q (fun h=>aZ (h.o 0 Q) (h.o 1 Q) (h.o 2 Q) (h.o 3 Q) (h.o 4 Q) (h.o 5 Q) (h.o 6 Q)) fun u2 s23=>fun hq2=>match u2,hq2 with | _,rfl=>cQ Q Q (wi hF<|eP (p:=(x21,x29.1,x29.2)) s23 [8,9,10,11,12,13,14,15,17,18,19,20,21,22,23,24,25,16] Q Q) (sF Q<|UM 9 8 Q<|fD Q Q<|hJ (p:=(x21,x29.1,x29.2)) s23 [8,9,10,11,12,13,14,15,17,18,19,20,21,22,23,25,24,16] hF Q)) (cQ Q Q (have hq3:=rb hA2;wi hq3<|c1 Q (fun h=>aZ (h.o 0 Q) (h.o 1 Q) (h.o 2 Q) (h.o 3 Q) (h.o 4 Q) (h.o 5 Q) (h.o 6 Q)) fun u3 s24=>fun hq3=>match u3,hq3 with | _,rfl=>wi hF<|eP (p:=(x21,x29.1,x29.2)) s24 [8,9,10,11,12,13,14,15,18,19,20,21,22,23,24,17,25,16] Q Q) (have hq4:=rb hA2;wi hq4<|c1 Q (fun h=>aZ (h.o 0 Q) (h.o 1 Q) (h.o 2 Q) (h.o 3 Q) (h.o 4 Q) (h.o 5 Q) (h.o 6 Q)) fun u4 s25=>fun hq4=>match u4,hq4 with | _,rfl=>wi hF<|eP (p:=(x21,x29.1,x29.2)) s25 [8,9,10,11,12,13,14,15,19,20,21,22,23,24,25,17,18,16] Q Q)) (cQ Q Q (have hq5:=rb hA2;wi hq5<|c1 Q (fun h=>aZ (h.o 0 Q) (h.o 1 Q) (h.o 2 Q) (h.o 3 Q) (h.o 4 Q) (h.o 5 Q) (h.o 6 Q)) fun u5 s26=>fun hq5=>match u5,hq5 with | _,rfl=>sF Q<|UM 9 8 Q<|fD Q Q<|hJ (p:=(x21,x29.1,x29.2)) s26 [8,9,10,11,12,13,14,15,18,19,20,21,22,23,24,25,17,16] hF Q) (have hq6:=rb hA2;wi hq6<|c1 Q (fun h=>aZ (h.o 0 Q) (h.o 1 Q) (h.o 2 Q) (h.o 3 Q) (h.o 4 Q) (h.o 5 Q) (h.o 6 Q)) fun u6 s27=>fun hq6=>match u6,hq6 with | _,rfl=>sF Q<|UM 9 8 Q<|fD Q Q<|hJ (p:=(x21,x29.1,x29.2)) s27 [8,9,10,11,12,13,14,15,19,20,21,22,23,24,25,18,17,16] hF Q))) (cQ Q Q (have hq7:=rb hA1;wi hq7<|c0 Q (fun h=>rE (h.a h1)) fun u7=>fun hq7=>match u7,hq7 with | _,rfl=>cQ Q Q (have hq8:=rb hA2;wi hq8<|c1 Q (fun h=>aZ (h.o 0 Q) (h.o 1 Q) (h.o 2 Q) (h.o 3 Q) (h.o 4 Q) (h.o 5 Q) (h.o 6 Q)) fun u8 s28=>fun hq8=>match u8,hq8 with | _,rfl=>wi hF<|eP (p:=(x21,x29.1,x29.2)) s28 [8,9,10,11,12,13,14,15,18,19,20,21,22,23,24,17,25,16] Q Q) (have hq9:=rb hA2;wi hq9<|c1 Q (fun h=>aZ (h.o 0 Q) (h.o 1 Q) (h.o 2 Q) (h.o 3 Q) (h.o 4 Q) (h.o 5 Q) (h.o 6 Q)) fun u9 s29=>fun hq9=>match u9,hq9 with | _,rfl=>wi hF<|eP (p:=(x21,x29.1,x29.2)) s29 [8,9,10,11,12,13,14,15,19,20,21,22,23,24,25,17,18,16] Q Q)) (have hq10:=rb hA1;wi hq10<|c0 Q (fun h=>rE (h.a h1)) fun u10=>fun hq10=>match u10,hq10 with | _,rfl=>have hq11:=rb hA2;wi hq11<|c1 Q (fun h=>aZ (h.o 0 Q) (h.o 1 Q) (h.o 2 Q) (h.o 3 Q) (h.o 4 Q) (h.o 5 Q) (h.o 6 Q)) fun u11 s30=>fun hq11=>match u11,hq11 with | _,rfl=>wi hF<|eP (p:=(x21,x29.1,x29.2)) s30 [8,9,10,11,12,13,14,15,19,20,21,22,23,24,25,17,18,16] Q Q)) (cQ Q Q (have hq12:=rb hA1;wi hq12<|c0 Q (fun h=>rE (h.a h1)) fun u12=>fun hq12=>match u12,hq12 with | _,rfl=>cQ Q Q (have hq13:=rb hA2;wi hq13<|c1 Q (fun h=>aZ (h.o 0 Q) (h.o 1 Q) (h.o 2 Q) (h.o 3 Q) (h.o 4 Q) (h.o 5 Q) (h.o 6 Q)) fun u13 s31=>fun hq13=>match u13,hq13 with | _,rfl=>sF Q<|UM 9 8 Q<|fD Q Q<|hJ (p:=(x21,x29.1,x29.2)) s31 [8,9,10,11,12,13,14,15,18,19,20,21,22,23,24,25,17,16] hF Q) (have hq14:=rb hA2;wi hq14<|c1 Q (fun h=>aZ (h.o 0 Q) (h.o 1 Q) (h.o 2 Q) (h.o 3 Q) (h.o 4 Q) (h.o 5 Q) (h.o 6 Q)) fun u14 s32=>fun hq14=>match u14,hq14 with | _,rfl=>sF Q<|UM 9 8 Q<|fD Q Q<|hJ (p:=(x21,x29.1,x29.2)) s32 [8,9,10,11,12,13,14,15,19,20,21,22,23,24,25,18,17,16] hF Q)) (have hq15:=rb hA1;wi hq15<|c0 Q (fun h=>rE (h.a h1)) fun u15=>fun hq15=>match u15,hq15 with | _,rfl=>have hq16:=rb hA2;wi hq16<|c1 Q (fun h=>aZ (h.o 0 Q) (h.o 1 Q) (h.o 2 Q) (h.o 3 Q) (h.o 4 Q) (h.o 5 Q) (h.o 6 Q)) fun u16 s33=>fun hq16=>match u16,hq16 with | _,rfl=>sF Q<|UM 9 8 Q<|fD Q Q<|hJ (p:=(x21,x29.1,x29.2)) s33 [8,9,10,11,12,13,14,15,19,20,21,22,23,24,25,18,17,16] hF Q))) fun⟨x23,x24,x25⟩ ⟨s15,s16,s17,s18,s19,s20,s21⟩=>dE 0 10 GY [] 2 [] Q (fun hF=>eqS Tryz.eqGuardType61 Tryz.stoodInHeld61 Tryz.underlying61 (aJR 9997 x22 x25) Q Q Q Q Q Q<|wi hF<|eE [118,119] Q Q (c0 Q (fun h=>NB (h.o 0 Q) (h.o 1 Q) (h.o 2 Q) (h.o 3 Q) (h.o 4 Q) (h.o 5 Q) (h.o 6 Q) (h.o 8 Q) (h.o 9 Q) (h.o 10 Q) (h.o 11 Q) (h.o 12 Q) (h.o 13 Q) (h.o 14 Q)) fun x27=>cA [] Q Q)<|cA [] Q Q) fun x26=>cJ Q Q
end
end Go.Proofs.YtmaknhppafajdaaGreat
end
noncomputable section
namespace Go.Gv
theorem cM{σ ρ:Type}{f:σ→Option (Step σ ρ)}(n:Nat)(S:Nat→σ)(r:ρ)(hs:∀k,k < n→f (S k)=some (.next (S (k+1))))(he:f (S n)=some (.stop r)):loop f (S 0)=some r:=by
  have key:∀d k,k+d=n→loop f (S k)=some r:=by
    intro d
    induction d with
    | zero => intro k hk; obtain rfl : k = n := by omega
              exact bK he
    | succ d ih=>intro k hk;rw [bT (hs k (by omega))];exact ih (k+1) (by omega)
  exact key n 0 (by omega)
theorem aM2{σ ρ:Type}{f:σ→Option (Step σ ρ)}(n:Nat)(S:Nat→σ)(g:Nat→ρ)
    (h:∀k,k≤n→f (S k)=some (.stop (g k))∨(k < n∧f (S k)=some (.next (S (k+1)))∧g k=g (k+1))):∀k,k≤n→loop f (S k)=some (g k):=by
  have key:∀d k,k+d=n→loop f (S k)=some (g k):=by
    intro d
    induction d with
    | zero =>
      intro k hk
      rcases h k (by omega) with h1 | ⟨h1,_⟩
      · exact bK h1
      · omega
    | succ d ih =>
      intro k hk
      rcases h k (by omega) with h1 | ⟨_,h2,h3⟩
      · exact bK h1
      · rw [bT h2,h3];exact ih (k+1) (by omega)
  intro k hk
  exact key (n - k) k (by omega)
theorem tI{σ ρ:Type}{f:σ→Option (Step σ ρ)}(n:Nat)(S:Nat→σ)(p:Nat→Prop)[DecidablePred p](yes no:ρ)
    (h1:∀k,k < n→p k→f (S k)=some (.next (S (k+1)))) (h2:∀k,k < n→¬p k→f (S k)=some (.stop no)) (h3:f (S n)=some (.stop yes)) :
    loop f (S 0)=some (if ∀k,k < n→p k then yes else no):=by
  classical
  have key:∀d k,k+d=n→loop f (S k)=some (if ∀j,k≤j→j < n→p j then yes else no):=by
    intro d
    induction d with
    | zero =>
      intro k hk;obtain rfl:k=n:=by omega
      rw [bK h3,if_pos (fun j a b=>by omega)]
    | succ d ih =>
      intro k hk
      by_cases hp:p k
      · rw [bT (h1 k (by omega) hp),ih (k+1) (by omega)]
        by_cases h:∀j,k+1≤j→j < n→p j
        · rw [if_pos h,if_pos]
          intro j a b
          by_cases e:j=k
          · subst e;exact hp
          · exact h j (by omega) b
        · rw [if_neg h,if_neg]
          exact fun q=>h fun j a b=>q j (by omega) b
      · rw [bK (h2 k (by omega) hp),if_neg]
        exact fun q=>hp (q k (Nat.le_refl _) (by omega))
  have:=key n 0 (by omega)
  rw [this]
  by_cases h:∀k,k < n→p k
  · rw [if_pos h,if_pos (fun j _ b=>h j b)]
  · rw [if_neg h,if_neg (fun q=>h fun k a=>q k (Nat.zero_le _) a)]
theorem oV{α σ ρ:Type}{f:σ→Option (Step σ ρ)}(l:List α)(S:Nat→σ)(p:α→Prop)[DecidablePred p](yes no:ρ)
    (h1:∀k (h:k < l.length),p l[k]→f (S k)=some (.next (S (k+1)))) (h2:∀k (h:k < l.length),¬p l[k]→f (S k)=some (.stop no)) (h3:f (S l.length)=some (.stop yes)) :
    loop f (S 0)=some (if ∀x∈l,p x then yes else no):=by
  classical
  have:=tI (f:=f) l.length S (fun k=>∀h:k < l.length,p l[k]) yes no (fun k h hp=>h1 k h (hp h)) (fun k h hp=>h2 k h (fun q=>hp fun _=>q)) h3
  rw [this]
  by_cases h:∀x∈l,p x
  · rw [if_pos h,if_pos (fun k hk _=>h _ (List.getElem_mem hk))]
  · rw [if_neg h,if_neg]
    intro q
    refine h fun x hx=>?_
    obtain⟨k,hk,rfl⟩:=List.mem_iff_getElem.1 hx
    exact q k hk hk
theorem aM{x:Int}(h1:-9223372036854775808≤x)(h2:x≤9223372036854775807):aV x=x:=F8 ⟨h1,h2⟩
theorem fY{α:Type}{l:List α}{i:Int}(h0:0≤i)(h1:i < l.length):idx l i=some (l[i.toNat]'(by omega)):=idx_eq h0 h1
theorem wrap_i64{x:Int}(h1:-9223372036854775808≤x)(h2:x≤9223372036854775807):IntKind.i64.wrap x=x:=F8 ⟨h1,h2⟩
theorem A0{x y:Int}(h1:0≤x):x.tdiv y=x / y:=Int.tdiv_eq_ediv_of_nonneg h1
theorem oW{x y:Int}(h1:0≤x):x.tmod y=x % y:=Int.tmod_eq_emod_of_nonneg h1
theorem aL3{x:Int}{k:Nat}(h1:0≤x)(hk:k≤63):pW .i64 x k=x / 2 ^ k:=by
  unfold pW
  have:min ((k:Int).toNat) IntKind.i64.bits=k:=by simp [IntKind.bits];omega
  rw [this,Int.fdiv_eq_ediv_of_nonneg _ (by exact Int.le_of_lt (Int.pow_pos (by omega)))]
theorem aQ6{a b:Nat}(ha:a < 9223372036854775808)(hb:b < 9223372036854775808):cN .and .i64 (a:Int) (b:Int)=((a &&& b:Nat):Int):=by
  have h:a &&& b≤a:=Nat.and_le_left
  show IntKind.i64.wrap ((BitVec.ofInt 64 (a:Int) &&& BitVec.ofInt 64 (b:Int)).toNat:Int)=_
  rw [BitVec.ofInt_natCast,BitVec.ofInt_natCast,BitVec.toNat_and,BitVec.toNat_ofNat,BitVec.toNat_ofNat,Nat.mod_eq_of_lt (by omega),Nat.mod_eq_of_lt (by omega),wrap_i64 (by omega) (by omega)]
theorem aL4{a b:Nat}(ha:a < 9223372036854775808)(hb:b < 9223372036854775808):cN .or .i64 (a:Int) (b:Int)=((a ||| b:Nat):Int):=by
  have h:a ||| b < 2 ^ 63:=Nat.or_lt_two_pow (by omega) (by omega)
  show IntKind.i64.wrap ((BitVec.ofInt 64 (a:Int) ||| BitVec.ofInt 64 (b:Int)).toNat:Int)=_
  rw [BitVec.ofInt_natCast,BitVec.ofInt_natCast,BitVec.toNat_or,BitVec.toNat_ofNat,BitVec.toNat_ofNat,Nat.mod_eq_of_lt (by omega),Nat.mod_eq_of_lt (by omega),wrap_i64 (by omega) (by omega)]
theorem aL5(n k:Nat):n &&& (2 ^ k - 1)=n % 2 ^ k:=Nat.and_two_pow_sub_one_eq_mod n k
theorem aWT{n:Int}(h0:0≤n)(h1:n≤9223372036854775807):cN .and .i64 n 127=n % 128:=by
  obtain⟨m,rfl⟩:=Int.eq_ofNat_of_zero_le h0
  have:=aQ6 (a:=m) (b:=127) (by omega) (by omega)
  rw [show((127:Nat):Int)=127 from rfl] at this
  rw [this,show(127:Nat)=2 ^ 7 - 1 from rfl,aL5]
  omega
theorem aYU{n:Int}(h0:0≤n)(h1:n < 128):cN .or .i64 n 128=n+128:=by
  obtain⟨m,rfl⟩:=Int.eq_ofNat_of_zero_le h0
  have:=aL4 (a:=m) (b:=128) (by omega) (by omega)
  rw [show((128:Nat):Int)=128 from rfl] at this
  have h2:=Nat.two_pow_add_eq_or_of_lt (i:=7) (b:=m) (by omega) 1
  rw [this,Nat.or_comm,show(128:Nat)=2 ^ 7 * 1 from rfl,←h2]
  omega
end Go.Gv
end
noncomputable section
namespace Go.Gv
theorem eC(n a b:Int):cH n a b=some (decide (a≤n∧n≤b)):=by
  unfold cH nP
  by_cases h:a≤n <;> simp [h]
theorem bR(n a b:Int):bP n a b=some (decide (a≤n∧n≤b)):=by
  unfold bP E4
  by_cases h:a≤n <;> simp [h]
theorem map_take{α β:Type}(f:α→β){l:List α}{k:Nat}(h:k < l.length):(l.take (k+1)).map f=(l.take k).map f ++ [f l[k]]:=by
  rw [List.take_succ_eq_append_getElem h,List.map_append];rfl
end Go.Gv
end
noncomputable section
namespace Go.Gv
def fN(c:Int):Int:=if c=0 then 8 else if c=1 then 16 else if c=2 then 40 else 0
def aW(c:Int):Int:=if c=0 then 12 else if c=1 then 20 else if c=2 then 44 else 0
def b7(c:Int):Int:=if c=0 then 4 else if c=1 then 2 else if c=2 then 1 else 0
theorem e7{c:Int}(h:0≤c∧c≤2):c=0∨c=1∨c=2:=by omega
theorem aQ7{c:Int}(h:¬(0≤c∧c≤2)):fN c=0:=by unfold fN;rw [if_neg (by omega),if_neg (by omega),if_neg (by omega)]
theorem aBQ{c:Int}(h:¬(0≤c∧c≤2)):aW c=0:=by unfold aW;rw [if_neg (by omega),if_neg (by omega),if_neg (by omega)]
theorem aF9{c:Int}(h:¬(0≤c∧c≤2)):b7 c=0:=by unfold b7;rw [if_neg (by omega),if_neg (by omega),if_neg (by omega)]
theorem jZ(c:Int):0≤b7 c∧b7 c≤4:=by unfold b7;split <;> (try split) <;> (try split) <;> omega
theorem SC(c:Int):0≤aW c∧aW c≤44:=by unfold aW;split <;> (try split) <;> (try split) <;> omega
theorem iV{c:Int}:0 < b7 c↔0≤c∧c≤2:=by
  unfold b7;constructor
  · intro h;split at h <;> (try split at h) <;> (try split at h) <;> omega
  · intro h;rcases e7 h with rfl | rfl | rfl <;> decide
theorem A1(c:Int):r9 c=some (fN c):=by
  unfold r9 fN
  by_cases h0:c=0 <;> by_cases h1:c=1 <;> by_cases h2:c=2 <;> simp [h0,h1,h2]
theorem gU(c:Int):iG c=some (decide (0≤c∧c≤2)):=by simp [iG,eC]
theorem O9(c:Int):yU c=some (fN c):=by
  unfold yU
  rw [gU]
  by_cases h:0≤c∧c≤2
  · rcases e7 h with rfl | rfl | rfl <;> rfl
  · simp [h,aQ7 h]
theorem VT(c:Int):vG c=some (aW c):=by
  unfold vG
  rw [bR]
  by_cases h:0≤c∧c≤2
  · rcases e7 h with rfl | rfl | rfl <;> rfl
  · simp [h,aBQ h]
theorem KS(c:Int):q9 c=some (aW c):=by
  unfold q9
  rw [gU]
  by_cases h:0≤c∧c≤2
  · rcases e7 h with rfl | rfl | rfl <;> rfl
  · simp [h,aBQ h]
theorem eW(c:Int):jS c=some (b7 c):=by
  unfold jS
  rw [bR]
  by_cases h:0≤c∧c≤2
  · rcases e7 h with rfl | rfl | rfl <;> rfl
  · simp [h,aF9 h]
theorem xE(c:Int):mA c=some (b7 c):=by
  unfold mA
  rw [gU]
  by_cases h:0≤c∧c≤2
  · rcases e7 h with rfl | rfl | rfl <;> rfl
  · simp [h,aF9 h]
theorem PA(s:Int):yO s=some (if 0≤s∧s≤23 then s / 4 else -1):=by
  unfold yO
  rw [bR]
  by_cases h:0≤s∧s≤23
  · simp [h,A0 h.1];rw [aM (by omega) (by omega)]
  · simp [h]
theorem NG(s:Int):tT s=some (if 0≤s∧s≤23 then s % 4 else -1):=by
  unfold tT
  rw [bR]
  by_cases h:0≤s∧s≤23
  · simp [h,oW h.1]
  · simp [h]
def e9(s c:Int):Int:=if (0≤s∧s≤23)∧s % 4 < b7 c then s / 4 * 64+8+s % 4 * aW c else -1
theorem G9{i c:Int}(h0:0≤i)(h1:i < b7 c):0≤i * aW c∧i * aW c+aW c≤56:=by
  unfold b7 at h1;unfold aW
  split at h1
  · rw [if_pos ‹_›];omega
  · split at h1
    · rw [if_neg ‹_›,if_pos ‹_›];omega
    · split at h1
      · rw [if_neg ‹_›,if_neg ‹_›,if_pos ‹_›];omega
      · omega
theorem mV(s c:Int):o6 s c=some (e9 s c):=by
  unfold o6 CH e9
  rw [PA,NG,eW,VT]
  by_cases h:0≤s∧s≤23
  · have hp:=jZ c
    have h1:¬s / 4 < 0:=by omega
    have h2:aV (b7 c - 1)=b7 c - 1:=aM (by omega) (by omega)
    by_cases h3:s % 4 < b7 c
    · have hm:=G9 (by omega) h3
      have hs:=SC c
      have h4:0≤s % 4∧s % 4≤b7 c - 1:=by omega
      have h5:¬b7 c - 1 < s % 4:=by omega
      have e1:aV (s / 4 * 64)=s / 4 * 64:=aM (by omega) (by omega)
      have e2:aV (s / 4 * 64+8)=s / 4 * 64+8:=aM (by omega) (by omega)
      have e3:aV (s % 4 * aW c)=s % 4 * aW c:=aM (by omega) (by omega)
      have e4:aV (s / 4 * 64+8+s % 4 * aW c)=s / 4 * 64+8+s % 4 * aW c:=aM (by omega) (by omega)
      simp [h,h1,h2,h3,h4,h5,bR,e1,e2,e3,e4]
    · have h4:¬s % 4≤b7 c - 1:=by omega
      simp [h,h1,h2,h3,h4,bR]
  · simp [h]
theorem tJ(s:Int):j9 s=some (decide (0≤s∧s≤23)):=by simp [j9,eC]
theorem wB(s c:Int):sS s c=some (e9 s c):=by
  unfold sS vV e9
  rw [tJ,gU,xE,KS]
  by_cases h:0≤s∧s≤23
  · have hp:=jZ c
    rw [oW h.1,A0 h.1]
    by_cases h3:s % 4 < b7 c
    · have hm:=G9 (by omega) h3
      have hs:=SC c
      have hc:0≤c∧c≤2:=iV.1 (by omega)
      have e0:aV (s / 4)=s / 4:=aM (by omega) (by omega)
      have e1:aV (s / 4 * 64)=s / 4 * 64:=aM (by omega) (by omega)
      have e2:aV (s / 4 * 64+8)=s / 4 * 64+8:=aM (by omega) (by omega)
      have e3:aV (s % 4 * aW c)=s % 4 * aW c:=aM (by omega) (by omega)
      have e4:aV (s / 4 * 64+8+s % 4 * aW c)=s / 4 * 64+8+s % 4 * aW c:=aM (by omega) (by omega)
      have h5:¬b7 c≤s % 4:=by omega
      simp [h,hc,h3,h5,e0,e1,e2,e3,e4]
    · have h5:b7 c≤s % 4:=by omega
      by_cases hc:0≤c∧c≤2 <;> simp [h,hc,h3,h5]
  · simp [h]
end Go.Gv
end
noncomputable section
namespace Go.Gv
def ldF(l:List Int):Int:=l.foldl (fun n x=>n * 256+x) 0
def qS(l:List Int):Prop:=∀x∈l,0≤x∧x≤255
instance (l:List Int):Decidable (qS l):=by unfold qS;infer_instance
theorem aBR{l:List Int}{k:Nat}(h:k < l.length):ldF (l.take (k+1))=ldF (l.take k) * 256+l[k]:=by
  unfold ldF
  rw [List.take_succ_eq_append_getElem h,List.foldl_append];rfl
theorem aEK{l:List Int}(h:qS l):∀k,k≤l.length→0≤ldF (l.take k)∧ldF (l.take k) < 256 ^ k:=by
  intro k
  induction k with
  | zero=>intro _;simp [ldF]
  | succ k ih =>
    intro hk
    have h1:=ih (by omega)
    have h2:=h _ (List.getElem_mem (show k < l.length by omega))
    rw [aBR (by omega),Int.pow_succ]
    omega
theorem aWU{k:Nat}(h:k≤6):(256:Int) ^ k≤281474976710656:=by
  have h1:(256:Nat) ^ k≤256 ^ 6:=Nat.pow_le_pow_right (by omega) h
  have h2:(256:Nat) ^ 6=281474976710656:=by decide
  rw [h2] at h1
  have h3:((256 ^ k:Nat):Int)≤281474976710656:=by omega
  rw [Int.natCast_pow] at h3
  exact h3
def ld(b:List Int)(at_ w:Nat):Int:=ldF ((b.drop at_).take w)
theorem aL6{n x:Int}{k:Nat}(hk:k≤6)(h:0≤n∧n < 256 ^ k)(hx:0≤x∧x≤255):aV (aV (n * 256)+x)=n * 256+x∧aV (aV (256 * n)+x)=n * 256+x:=by
  have:=aWU hk
  rw [Int.mul_comm 256 n,aM (x:=n * 256) (by omega) (by omega),aM (by omega) (by omega)]
  exact⟨rfl,rfl⟩
theorem aJT{b:List Int}{a w:Nat}(h:a+w≤b.length):((b.drop a).take w).length=w:=by simp;omega
theorem aBS{b:List Int}{a w k:Nat}(h:k < ((b.drop a).take w).length)(h':a+k < b.length):((b.drop a).take w)[k]=b[a+k]:=by simp
theorem aGA{b:List Int}(hb:qS b)(a w:Nat):qS ((b.drop a).take w):=fun x hx=>hb x (List.mem_of_mem_drop (List.mem_of_mem_take hx))
theorem PB{b:List Int}(hb:qS b){a w:Nat}(hw:w≤7)(h:a+w≤b.length)(hl:b.length≤100000):DM b (a:Int) (w:Int)=some (ld b a w):=by
  unfold DM
  have hlen:=aJT h
  have hbb:=aGA hb a w
  have key:loop (r8 b (a:Int) (w:Int)) (0,0)=some (ld b a w):=by
    refine cM (f:=r8 b (a:Int) (w:Int)) w (fun k=>(ldF (((b.drop a).take w).take k),(k:Int))) _ (fun k hk=>?_) ?_
    · have hb1:=aEK hbb k (by omega)
      have hk':k < ((b.drop a).take w).length:=by omega
      have hx:=hbb _ (List.getElem_mem hk')
      have hs:=aL6 (by omega) hb1 hx
      rw [aBS hk' (by omega)] at hs
      have e1:aV ((a:Int)+k)=((a+k:Nat):Int):=by rw [aM (by omega) (by omega)];omega
      simp only [r8]
      rw [if_pos (by simp;omega),e1,aU (by omega)]
      simp only [aG,hs.1,aBR hk',aBS hk' (show a+k < b.length by omega)]
      rw [aM (x:=(k:Int)+1) (by omega) (by omega)];rfl
    · have:((b.drop a).take w).take w=(b.drop a).take w:=by rw [List.take_take];simp
      simp [r8,this,ld]
  rw [key];rfl
theorem EO{b:List Int}(hb:qS b){a w:Nat}(hw:w≤7)(h:a+w≤b.length)(hl:b.length≤100000):pG b (a:Int) (w:Int)=some (ld b a w):=by
  unfold pG
  have hlen:=aJT h
  have hbb:=aGA hb a w
  have e0:aV ((a:Int)+w)=((a+w:Nat):Int):=by rw [aM (by omega) (by omega)];omega
  have e2:(b.take (a+w)).drop a=(b.drop a).take w:=by rw [List.drop_take];congr 1;omega
  rw [aL (by rw [e0];omega)]
  have key:loop (qI b (a:Int) (w:Int)) (0,0)=some (ld b a w):=by
    refine cM (f:=qI b (a:Int) (w:Int)) w (fun k=>(ldF (((b.drop a).take w).take k),(k:Int))) _ (fun k hk=>?_) ?_
    · have hb1:=aEK hbb k (by omega)
      have hk':k < ((b.drop a).take w).length:=by omega
      have hx:=hbb _ (List.getElem_mem hk')
      have hs:=aL6 (by omega) hb1 hx
      simp only [qI,e0,Int.toNat_natCast,e2]
      rw [if_pos (by simp;omega),aU hk']
      simp only [aG,hs.2,aBR hk']
      rw [aM (x:=(k:Int)+1) (by omega) (by omega)];rfl
    · have:((b.drop a).take w).take w=(b.drop a).take w:=by rw [List.take_take];simp
      simp only [qI,e0,Int.toNat_natCast,e2,this,ld]
      rw [if_neg (by rw [hlen];simp)]
  rw [key];rfl
theorem FW{l:List Int}(hl:l.length≤maxLen)(f:Int→Bool):d5 l (fun x=>some (f x))=some (l.any f):=by
  unfold d5 sP
  have key:∀k:Nat,k≤l.length→loop (fS l (fun x=>some (f x))) (k:Int)=some (if (l.drop k).any f then Out.ret ((k+(l.drop k).findIdx f:Nat):Int) else Out.brk ()):=by
    refine aFC l.length _ fun k hk=>?_
    by_cases h3:k < l.length
    · have hd:l.drop k=l[k] :: l.drop (k+1):=List.drop_eq_getElem_cons h3
      simp only [fS]
      rw [if_pos (by simp;omega),aU h3,jR (uY h3 hl),hd]
      simp only [aG,List.any_cons,List.findIdx_cons]
      by_cases h4:f l[k]=true
      · left;simp [h4]
      · right
        have h4:f l[k]=false:=by simpa using h4
        refine⟨h3,by simp [h4],?_⟩
        simp only [h4,Bool.false_or,cond_false]
        congr 2;omega
    · left
      obtain rfl:k=l.length:=by omega
      simp [fS]
  have t0:loop (fS l (fun x=>some (f x))) 0=_:=key 0 (by omega)
  rw [t0]
  simp only [List.drop_zero]
  by_cases h:l.any f=true
  · simp [h,nO]
  · have h:l.any f=false:=by simpa using h
    simp [h,nO,yT]
def BOk(b:List Int):Prop:=b.length≤1000∧qS b
instance (b:List Int):Decidable (BOk b):=by unfold BOk;infer_instance
theorem YD{b:List Int}(hl:b.length≤maxLen):E5 b=some (decide (BOk b)):=by
  unfold E5
  have key:loop (lJ b) 0=some (if ∀x∈b,0≤x∧x≤255 then Out.brk () else Out.ret false):=by
    refine oV (f:=lJ b) b (fun k=>(k:Int)) (fun x=>0≤x∧x≤255) _ _ (fun k h hp=>?_) (fun k h hp=>?_) ?_
    · simp only [lJ]
      rw [if_pos (by simp;omega),aU h,jR (uY h hl)]
      simp [bR,hp]
    · simp only [lJ]
      rw [if_pos (by simp;omega),aU h]
      simp only [aG,bR,hp,decide_false,rX,if_true]
    · simp [lJ]
  rw [key]
  by_cases h:∀x∈b,0≤x∧x≤255
  · rw [if_pos h]
    have:BOk b↔b.length≤1000:=⟨fun q=>q.1,fun q=>⟨q,h⟩⟩
    simp only [aG,D6,MA,this]
    congr 1;rw [Bool.eq_iff_iff];simp;omega
  · rw [if_neg h]
    have:¬BOk b:=fun q=>h q.2
    simp [D6,this]
theorem QC{α:Type}{p:α→Prop}[DecidablePred p](l:List α):(l.any fun x=>!decide (p x))=!decide (∀x∈l,p x):=by
  rw [Bool.eq_iff_iff];simp
theorem YE{b:List Int}(hl:b.length≤maxLen):FF b=some (decide (BOk b)):=by
  unfold FF wO
  have e:(fun y0=>zT y0)=fun y:Int=>some (!decide (0≤y∧y≤255)):=by
    funext y;simp [zT,OL,eC]
  rw [e,FW hl,QC]
  by_cases h:b.length≤1000
  · have:BOk b↔∀x∈b,0≤x∧x≤255:=⟨fun q=>q.2,fun q=>⟨h,q⟩⟩
    have h':(b.length:Int)≤1000:=by omega
    simp [h',this]
  · have:¬BOk b:=fun q=>h q.1
    have h':¬(b.length:Int)≤1000:=by omega
    simp [h',this]
def dW(h:aB):Prop:=h.Bytes.length=384∧h.Class.length=6∧qS h.Bytes∧∀c∈h.Class,-1≤c∧c≤2
instance (h:aB):Decidable (dW h):=by unfold dW;infer_instance
theorem NH{h:aB}(hl:h.Bytes.length≤maxLen):zE h=some (decide (dW h)):=by
  unfold zE pZ
  by_cases h1:h.Bytes.length=384
  · by_cases h2:h.Class.length=6
    · rw [YD hl]
      have n1:((h.Bytes.length:Int) != 384)=false:=by simp;omega
      have n2:((h.Class.length:Int) != 6)=false:=by simp;omega
      simp only [n1,n2,bE,if_false,aG]
      by_cases h3:qS h.Bytes
      · have b1:BOk h.Bytes:=⟨by omega,h3⟩
        have key:loop (lK h) 0=some (if ∀x∈h.Class,-1≤x∧x≤2 then Out.brk () else Out.ret false):=by
          refine oV (f:=lK h) h.Class (fun k=>(k:Int)) (fun x=>-1≤x∧x≤2) _ _ (fun k h hp=>?_) (fun k h hp=>?_) ?_
          · simp only [lK]
            rw [if_pos (by simp;omega),aU h,aM (by omega) (by omega)]
            simp [bR,hp]
          · simp only [lK]
            rw [if_pos (by simp;omega),aU h]
            simp only [aG,bR]
            rw [bN hp];rfl
          · simp [lK,h2]
        rw [key]
        have:dW h↔∀x∈h.Class,-1≤x∧x≤2:=⟨fun q=>q.2.2.2,fun q=>⟨h1,h2,h3,q⟩⟩
        simp only [b1,decide_true,dU,bE,if_false,this]
        by_cases h4:∀x∈h.Class,-1≤x∧x≤2
        · rw [if_pos h4,bD h4];rfl
        · rw [if_neg h4,bN h4];rfl
      · have b1:¬BOk h.Bytes:=fun q=>h3 q.2
        have:¬dW h:=fun q=>h3 q.2.2.1
        simp [b1,this]
    · have n1:((h.Bytes.length:Int) != 384)=false:=by simp;omega
      have n2:((h.Class.length:Int) != 6)=true:=by simp;omega
      have:¬dW h:=fun q=>h2 q.2.1
      simp [n1,n2,this]
  · have n1:((h.Bytes.length:Int) != 384)=true:=by simp;omega
    have:¬dW h:=fun q=>h1 q.1
    simp [n1,this]
theorem HA{h:aB}(hl:h.Bytes.length≤maxLen):DP h=some (decide (dW h)):=by
  unfold DP nQ
  by_cases h1:h.Bytes.length=384
  · have n1:((h.Bytes.length:Int) == 384)=true:=by simp;omega
    rw [YE hl]
    by_cases h3:qS h.Bytes
    · have b1:BOk h.Bytes:=⟨by omega,h3⟩
      by_cases h2:h.Class.length=6
      · have n2:((h.Class.length:Int) == 6)=true:=by simp;omega
        have e:(fun y0=>CS y0)=fun y:Int=>some (!decide (-1≤y∧y≤2)):=by
          funext y;simp [CS,eC]
        rw [e,FW (by rw [h2];simp [maxLen]),QC]
        have:dW h↔∀x∈h.Class,-1≤x∧x≤2:=⟨fun q=>q.2.2.2,fun q=>⟨h1,h2,h3,q⟩⟩
        simp [n1,n2,b1,this]
      · have n2:((h.Class.length:Int) == 6)=false:=by simp;omega
        have:¬dW h:=fun q=>h2 q.2.1
        simp [n1,n2,b1,this]
    · have b1:¬BOk h.Bytes:=fun q=>h3 q.2
      have:¬dW h:=fun q=>h3 q.2.2.1
      simp [n1,b1,this]
  · have n1:((h.Bytes.length:Int) == 384)=false:=by simp;omega
    have:¬dW h:=fun q=>h1 q.1
    simp [n1,this]
end Go.Gv
end
noncomputable section
namespace Go.Gv
def c8(h:aB)(p:Nat):List Int:=(h.Bytes.drop (p * 64)).take 64
def bV(h:aB)(p:Nat):Int:=h.Class.getD p 0
def k9(h:aB)(p:Nat):Prop:=
  if bV h p < 0 then ∀x∈c8 h p,x=0
  else ((c8 h p).getD 0 0=171∧(c8 h p).getD 1 0=bV h p∧(c8 h p).getD 2 0=b7 (bV h p))∧(∀x∈((c8 h p).drop 3).take 5,x=0)∧∀i,i < (b7 (bV h p)).toNat→1≤ld h.Bytes (p * 64+8+i * (aW (bV h p)).toNat) 4∧ld h.Bytes (p * 64+8+i * (aW (bV h p)).toNat) 4≤7
instance (h:aB) (p:Nat):Decidable (k9 h p):=by unfold k9;infer_instance
noncomputable section
variable {h:aB} (hs:dW h) {p:Nat} (hp:p < 6)
include hs hp
theorem HB:(c8 h p).length=64:=aJT (by have:=hs.1;omega)
theorem PC{k:Nat}(hk:k < 64):h.Bytes[p * 64+k]'(by have:=hs.1;omega)=(c8 h p)[k]'(by rw [HB hs hp];exact hk):=(aBS (show k < ((h.Bytes.drop (p * 64)).take 64).length by have:=HB hs hp;unfold c8 at this;omega) _).symm
theorem aEL{k:Nat}(hk:k < 64):h.Bytes[p * 64+k]'(by have:=hs.1;omega)=(c8 h p).getD k 0:=by
  rw [PC hs hp hk,List.getD_eq_getElem?_getD,List.getElem?_eq_getElem (by rw [HB hs hp];exact hk)];rfl
theorem QD:h.Class[p]'(by have:=hs.2.1;omega)=bV h p:=by
  unfold bV
  rw [List.getD_eq_getElem?_getD,List.getElem?_eq_getElem (by have:=hs.2.1;omega)];rfl
theorem Y3:idx h.Class (p:Int)=some (bV h p):=by rw [aU (by have:=hs.2.1;omega),QD hs hp]
theorem aBT{k:Nat}(hk:k < 64):idx h.Bytes (((p * 64+k:Nat)):Int)=some ((c8 h p).getD k 0):=by
  rw [aU (by have:=hs.1;omega),aEL hs hp hk]
theorem aM3:qS (c8 h p):=aGA hs.2.2.1 _ _
theorem uR{c:Int}(hc:bV h p=c){i:Nat}(hi:i < (b7 c).toNat):(8+i * (aW c).toNat)+4≤64∧0≤(i:Int) * aW c∧((8+i * (aW c).toNat:Nat):Int)=8+(i:Int) * aW c:=by
  have h1:(i:Int) < b7 c:=by omega
  have hc2:0≤c∧c≤2:=iV.1 (by omega)
  rcases e7 hc2 with rfl | rfl | rfl
  · have e:aW 0=12:=rfl
    have g:(12:Int).toNat=12:=rfl
    have f:(b7 0).toNat=4:=rfl
    rw [e,g];rw [f] at hi;omega
  · have e:aW 1=20:=rfl
    have g:(20:Int).toNat=20:=rfl
    have f:(b7 1).toNat=2:=rfl
    rw [e,g];rw [f] at hi;omega
  · have e:aW 2=44:=rfl
    have g:(44:Int).toNat=44:=rfl
    have f:(b7 2).toNat=1:=rfl
    rw [e,g];rw [f] at hi;omega
theorem aQ8{i:Nat}(hi:i < (b7 (bV h p)).toNat):e9 ((p:Int) * 4+i) (bV h p)=((p * 64+(8+i * (aW (bV h p)).toNat):Nat):Int):=by
  have hz:=uR hs hp rfl hi
  have hle:=jZ (bV h p)
  unfold e9
  rw [if_pos (by omega)]
  have e1:((p:Int) * 4+i) / 4=p:=by omega
  have e2:((p:Int) * 4+i) % 4=i:=by omega
  rw [e1,e2]
  omega
theorem PD:H4 h (p:Int)=some (decide (k9 h p)):=by
  have hb:=hs.1
  have hl:=HB hs hp
  have e0:aV ((p:Int) * 64)=((p * 64+0:Nat):Int):=by rw [aM (by omega) (by omega)];omega
  have e1:aV (((p * 64+0:Nat):Int)+1)=((p * 64+1:Nat):Int):=by rw [aM (by omega) (by omega)];omega
  have e2:aV (((p * 64+0:Nat):Int)+2)=((p * 64+2:Nat):Int):=by rw [aM (by omega) (by omega)];omega
  have e3:aV (((p * 64+0:Nat):Int)+3)=((p * 64+3:Nat):Int):=by rw [aM (by omega) (by omega)];omega
  have e8:aV (((p * 64+0:Nat):Int)+8)=((p * 64+8:Nat):Int):=by rw [aM (by omega) (by omega)];omega
  have e64:aV (((p * 64+0:Nat):Int)+64)=((p * 64+64:Nat):Int):=by rw [aM (by omega) (by omega)];omega
  unfold H4
  rw [Y3 hs hp]
  simp only [aG]
  by_cases hc:bV h p < 0
  · simp only [hc,decide_true,if_true,e0]
    have key:loop (nD h (p:Int)) (((p * 64+0:Nat)):Int)=some (if ∀x∈c8 h p,x=0 then Out.brk () else Out.ret false):=by
      refine oV (f:=nD h (p:Int)) (c8 h p) (fun k=>((p * 64+k:Nat):Int)) (fun x=>x=0) _ _ (fun k hk hx=>?_) (fun k hk hx=>?_) ?_
      · simp only [nD,e0,e64]
        rw [if_pos (by simp;omega),aU (by omega),PC hs hp (by omega),aM (by omega) (by omega)]
        simp only [aG,hx];simp;omega
      · simp only [nD,e0,e64]
        rw [if_pos (by simp;omega),aU (by omega),PC hs hp (by omega)]
        have hx':((c8 h p)[k] != 0)=true:=by simpa using hx
        simp only [aG,hx',if_true]
      · simp only [nD,e0,e64,hl]
        rw [if_neg (by simp)]
    rw [key]
    have hP:k9 h p↔∀x∈c8 h p,x=0:=by unfold k9;rw [if_pos hc]
    by_cases h4:∀x∈c8 h p,x=0
    · rw [if_pos h4,bD (hP.2 h4)];rfl
    · rw [if_neg h4,bN (fun q=>h4 (hP.1 q))];rfl
  · have hP:k9 h p↔((c8 h p).getD 0 0=171∧(c8 h p).getD 1 0=bV h p∧(c8 h p).getD 2 0=b7 (bV h p))∧(∀x∈((c8 h p).drop 3).take 5,x=0)∧∀i,i < (b7 (bV h p)).toNat→1≤ld h.Bytes (p * 64+8+i * (aW (bV h p)).toNat) 4∧ld h.Bytes (p * 64+8+i * (aW (bV h p)).toNat) 4≤7:=by unfold k9;rw [if_neg hc]
    simp only [hc,decide_false,bE,if_false,e0,e1,e2,aBT hs hp (show 0 < 64 by omega),aBT hs hp (show 1 < 64 by omega),aBT hs hp (show 2 < 64 by omega),aG,eW]
    by_cases a0:(c8 h p).getD 0 0=171
    · by_cases a1:(c8 h p).getD 1 0=bV h p
      · by_cases a2:(c8 h p).getD 2 0=b7 (bV h p)
        · have n0:((c8 h p).getD 0 0 != 171)=false:=by simp only [bne_eq_false_iff_eq];exact a0
          have n1:((c8 h p).getD 1 0 != bV h p)=false:=by simp only [bne_eq_false_iff_eq];exact a1
          have n2:((c8 h p).getD 2 0 != b7 (bV h p))=false:=by simp only [bne_eq_false_iff_eq];exact a2
          simp only [n0,n1,n2,bE,if_false,iL,e0,e3]
          have hl5:(((c8 h p).drop 3).take 5).length=5:=by simp [hl]
          have key:loop (nF h (p:Int)) (((p * 64+3:Nat)):Int)=some (if ∀x∈((c8 h p).drop 3).take 5,x=0 then Out.brk () else Out.ret false):=by
            refine oV (f:=nF h (p:Int)) (((c8 h p).drop 3).take 5) (fun k=>((p * 64+(3+k):Nat):Int)) (fun x=>x=0) _ _ (fun k hk hx=>?_) (fun k hk hx=>?_) ?_
            · simp only [nF,e0,e8]
              rw [if_pos (by simp;omega),aU (by omega),PC hs hp (by omega),aM (by omega) (by omega),←aBS hk (by omega),hx]
              simp;omega
            · simp only [nF,e0,e8]
              rw [if_pos (by simp;omega),aU (by omega),PC hs hp (by omega),←aBS hk (by omega)]
              have hx':((((c8 h p).drop 3).take 5)[k] != 0)=true:=by simp only [bne_iff_ne];exact hx
              simp only [aG,hx',if_true]
            · simp only [nF,e0,e8,hl5]
              rw [if_neg (by simp)]
          rw [key]
          by_cases h4:∀x∈((c8 h p).drop 3).take 5,x=0
          · rw [if_pos h4]
            simp only [aG,N9,N8]
            have key2:loop (nE h (p:Int) (bV h p)) 0=some (if ∀i,i < (b7 (bV h p)).toNat→1≤ld h.Bytes (p * 64+8+i * (aW (bV h p)).toNat) 4∧ld h.Bytes (p * 64+8+i * (aW (bV h p)).toNat) 4≤7 then Out.brk () else Out.ret false):=by
              have hle:=jZ (bV h p)
              have hst:∀k:Nat,k < (b7 (bV h p)).toNat→nE h (p:Int) (bV h p) (k:Int)=if 1≤ld h.Bytes (p * 64+8+k * (aW (bV h p)).toNat) 4∧ld h.Bytes (p * 64+8+k * (aW (bV h p)).toNat) 4≤7 then some (.next ((k+1:Nat):Int)) else some (.stop (Out.ret false)):=by
                intro k hk
                have hz:=uR hs hp rfl hk
                have s1:oZ (p:Int) (k:Int)=some ((p:Int) * 4+k):=by
                  unfold oZ sA
                  rw [bR,bR]
                  have g1:(0:Int)≤p∧(p:Int)≤5:=by omega
                  have g2:(0:Int)≤k∧(k:Int)≤3:=by omega
                  simp only [aG,g1,g2,and_self,decide_true,dU,bE,if_false]
                  rw [aM (x:=(p:Int) * 4) (by omega) (by omega),aM (by omega) (by omega)]
                have l1:=PB hs.2.2.1 (a:=p * 64+(8+k * (aW (bV h p)).toNat)) (w:=4) (by omega) (by omega) (by omega)
                simp only [nE,eW,aG]
                rw [if_pos (by simp;omega),s1]
                simp only [aG,mV,aQ8 hs hp hk]
                rw [show((4:Nat):Int)=4 from rfl] at l1
                rw [l1,Nat.add_assoc,aM (x:=(k:Int)+1) (by omega) (by omega)]
                simp only [aG,bR]
                by_cases q:1≤ld h.Bytes (p * 64+(8+k * (aW (bV h p)).toNat)) 4∧ld h.Bytes (p * 64+(8+k * (aW (bV h p)).toNat)) 4≤7
                · rw [if_pos q,bD q];rfl
                · rw [if_neg q,bN q];rfl
              refine tI (f:=nE h (p:Int) (bV h p)) (b7 (bV h p)).toNat (fun k=>(k:Int)) (fun i=>1≤ld h.Bytes (p * 64+8+i * (aW (bV h p)).toNat) 4∧ld h.Bytes (p * 64+8+i * (aW (bV h p)).toNat) 4≤7) _ _ (fun k hk hx=>?_) (fun k hk hx=>?_) ?_
              · rw [hst k hk,if_pos hx]
              · rw [hst k hk,if_neg hx]
              · simp only [nE,eW,aG]
                rw [if_neg (by simp;omega)]
            rw [key2]
            by_cases h5:∀i,i < (b7 (bV h p)).toNat→1≤ld h.Bytes (p * 64+8+i * (aW (bV h p)).toNat) 4∧ld h.Bytes (p * 64+8+i * (aW (bV h p)).toNat) 4≤7
            · rw [if_pos h5,bD (hP.2 ⟨⟨a0,a1,a2⟩,h4,h5⟩)];rfl
            · rw [if_neg h5,bN (fun q=>h5 (hP.1 q).2.2)];rfl
          · rw [if_neg h4,bN (fun q=>h4 (hP.1 q).2.1)];rfl
        · have n0:((c8 h p).getD 0 0 != 171)=false:=by simp only [bne_eq_false_iff_eq];exact a0
          have n1:((c8 h p).getD 1 0 != bV h p)=false:=by simp only [bne_eq_false_iff_eq];exact a1
          have n2:((c8 h p).getD 2 0 != b7 (bV h p))=true:=by simp only [bne_iff_ne];exact a2
          simp only [n0,n1,n2,bE,if_false,iL,if_true]
          rw [bN (fun q=>a2 (hP.1 q).1.2.2)]
      · have n0:((c8 h p).getD 0 0 != 171)=false:=by simp only [bne_eq_false_iff_eq];exact a0
        have n1:((c8 h p).getD 1 0 != bV h p)=true:=by simp only [bne_iff_ne];exact a1
        simp only [n0,n1,bE,if_false,iL,if_true]
        rw [bN (fun q=>a1 (hP.1 q).1.2.1)]
    · have n0:((c8 h p).getD 0 0 != 171)=true:=by simp only [bne_iff_ne];exact a0
      simp only [n0,bE,if_false,iL,if_true]
      rw [bN (fun q=>a0 (hP.1 q).1.1)]
end
end Go.Gv
end
noncomputable section
namespace Go.Gv
theorem PE{l:List Int}(hl:l.length≤maxLen):DQ l=some (decide (∀x∈l,x=0)):=by
  unfold DQ
  have e:(fun y0=>CT y0)=fun y:Int=>some (!decide (y=0)):=by
    funext y;simp [CT,bne];rfl
  rw [e,FW hl,QC]
  simp
noncomputable section
variable {h:aB} (hs:dW h) {p:Nat} (hp:p < 6)
include hs hp
theorem aUS:(h.Bytes.take ((p+1) * 64)).drop (p * 64)=c8 h p:=by
  unfold c8
  rw [List.drop_take];congr 1;omega
theorem aTW{a:Nat}(ha:a+4≤64):ld (c8 h p) a 4=ld h.Bytes (p * 64+a) 4:=by
  unfold ld c8
  rw [List.drop_take,List.take_take,List.drop_drop]
  congr 2;omega
theorem aJU{k:Nat}(hk:k < 64):idx (c8 h p) (k:Int)=some ((c8 h p).getD k 0):=by
  have:=HB hs hp
  rw [aU (by omega),List.getD_eq_getElem?_getD,List.getElem?_eq_getElem (by omega)];rfl
theorem PF:IE h (p:Int)=some (decide (k9 h p)):=by
  have hb:=hs.1
  have hl:=HB hs hp
  have hm:(c8 h p).length≤maxLen:=by rw [hl];simp [maxLen]
  have e0:aV ((p:Int) * 64)=((p * 64:Nat):Int):=by rw [aM (by omega) (by omega)];omega
  have e1:aV (aV ((p:Int)+1) * 64)=(((p+1) * 64:Nat):Int):=by rw [aM (x:=(p:Int)+1) (by omega) (by omega),aM (by omega) (by omega)];omega
  have i0:=aJU hs hp (show 0 < 64 by omega)
  have i1:=aJU hs hp (show 1 < 64 by omega)
  have i2:=aJU hs hp (show 2 < 64 by omega)
  rw [show((0:Nat):Int)=0 from rfl] at i0
  rw [show((1:Nat):Int)=1 from rfl] at i1
  rw [show((2:Nat):Int)=2 from rfl] at i2
  unfold IE
  rw [Y3 hs hp]
  simp only [aG,e0,e1,Int.toNat_natCast,aUS hs hp]
  rw [aL (by omega)]
  by_cases hc:bV h p < 0
  · have hP:k9 h p↔∀x∈c8 h p,x=0:=by unfold k9;rw [if_pos hc]
    simp only [hc,decide_true,if_true,PE hm,aG,hP]
  · have hP:k9 h p↔((c8 h p).getD 0 0=171∧(c8 h p).getD 1 0=bV h p∧(c8 h p).getD 2 0=b7 (bV h p))∧(∀x∈((c8 h p).drop 3).take 5,x=0)∧∀i,i < (b7 (bV h p)).toNat→1≤ld h.Bytes (p * 64+8+i * (aW (bV h p)).toNat) 4∧ld h.Bytes (p * 64+8+i * (aW (bV h p)).toNat) 4≤7:=by unfold k9;rw [if_neg hc]
    simp only [hc,decide_false,bE,if_false,i0,i1,i2,aG,xE]
    by_cases a0:(c8 h p).getD 0 0=171
    · by_cases a1:(c8 h p).getD 1 0=bV h p
      · by_cases a2:(c8 h p).getD 2 0=b7 (bV h p)
        · have n0:((c8 h p).getD 0 0 != 171)=false:=by simp only [bne_eq_false_iff_eq];exact a0
          have n1:((c8 h p).getD 1 0 != bV h p)=false:=by simp only [bne_eq_false_iff_eq];exact a1
          have n2:((c8 h p).getD 2 0 != b7 (bV h p))=false:=by simp only [bne_eq_false_iff_eq];exact a2
          have t8:((c8 h p).take (8:Int).toNat).drop (3:Int).toNat=((c8 h p).drop 3).take 5:=by
            rw [show(8:Int).toNat=8 from rfl,show(3:Int).toNat=3 from rfl,List.drop_take]
          simp only [n0,n1,n2,bE,if_false,gI,t8]
          rw [aL (by omega),PE (by simp [maxLen];omega)]
          by_cases h4:∀x∈((c8 h p).drop 3).take 5,x=0
          · simp only [bD h4,aG,dU,bE,if_false,xE]
            have key2:loop (nR h (p:Int) (bV h p) (b7 (bV h p))) 0=some (if ∀i,i < (b7 (bV h p)).toNat→1≤ld h.Bytes (p * 64+8+i * (aW (bV h p)).toNat) 4∧ld h.Bytes (p * 64+8+i * (aW (bV h p)).toNat) 4≤7 then Out.brk () else Out.ret false):=by
              have hle:=jZ (bV h p)
              have hst:∀k:Nat,k < (b7 (bV h p)).toNat→nR h (p:Int) (bV h p) (b7 (bV h p)) (k:Int)=if 1≤ld h.Bytes (p * 64+8+k * (aW (bV h p)).toNat) 4∧ld h.Bytes (p * 64+8+k * (aW (bV h p)).toNat) 4≤7 then some (.next ((k+1:Nat):Int)) else some (.stop (Out.ret false)):=by
                intro k hk
                have hz:=uR hs hp rfl hk
                have e5:aV (8+aV ((k:Int) * aW (bV h p)))=((8+k * (aW (bV h p)).toNat:Nat):Int):=by
                  rw [aM (x:=(k:Int) * aW (bV h p)) (by omega) (by omega),aM (by omega) (by omega)];omega
                have l1:=EO (aM3 hs hp) (a:=8+k * (aW (bV h p)).toNat) (w:=4) (by omega) (by omega) (by omega)
                rw [show((4:Nat):Int)=4 from rfl,aTW hs hp (by omega)] at l1
                simp only [nR,KS,aG,e0,e1,Int.toNat_natCast,aUS hs hp,e5]
                rw [if_pos (by simp;omega),l1,Nat.add_assoc,aM (x:=(k:Int)+1) (by omega) (by omega)]
                simp only [aG,eC]
                by_cases q:1≤ld h.Bytes (p * 64+(8+k * (aW (bV h p)).toNat)) 4∧ld h.Bytes (p * 64+(8+k * (aW (bV h p)).toNat)) 4≤7
                · rw [if_pos q,bD q];rfl
                · rw [if_neg q,bN q];rfl
              refine tI (f:=nR h (p:Int) (bV h p) (b7 (bV h p))) (b7 (bV h p)).toNat (fun k=>(k:Int)) (fun i=>1≤ld h.Bytes (p * 64+8+i * (aW (bV h p)).toNat) 4∧ld h.Bytes (p * 64+8+i * (aW (bV h p)).toNat) 4≤7) _ _ (fun k hk hx=>?_) (fun k hk hx=>?_) ?_
              · rw [hst k hk,if_pos hx]
              · rw [hst k hk,if_neg hx]
              · simp only [nR]
                rw [if_neg (by simp;omega)]
            rw [key2]
            by_cases h5:∀i,i < (b7 (bV h p)).toNat→1≤ld h.Bytes (p * 64+8+i * (aW (bV h p)).toNat) 4∧ld h.Bytes (p * 64+8+i * (aW (bV h p)).toNat) 4≤7
            · rw [if_pos h5,bD (hP.2 ⟨⟨a0,a1,a2⟩,h4,h5⟩)];rfl
            · rw [if_neg h5,bN (fun q=>h5 (hP.1 q).2.2)];rfl
          · simp only [bN h4,aG,rX,if_true]
            rw [bN (fun q=>h4 (hP.1 q).2.1)]
        · have n0:((c8 h p).getD 0 0 != 171)=false:=by simp only [bne_eq_false_iff_eq];exact a0
          have n1:((c8 h p).getD 1 0 != bV h p)=false:=by simp only [bne_eq_false_iff_eq];exact a1
          have n2:((c8 h p).getD 2 0 != b7 (bV h p))=true:=by simp only [bne_iff_ne];exact a2
          simp only [n0,n1,n2,bE,if_false,gI,if_true]
          rw [bN (fun q=>a2 (hP.1 q).1.2.2)]
      · have n0:((c8 h p).getD 0 0 != 171)=false:=by simp only [bne_eq_false_iff_eq];exact a0
        have n1:((c8 h p).getD 1 0 != bV h p)=true:=by simp only [bne_iff_ne];exact a1
        simp only [n0,n1,bE,if_false,gI,if_true]
        rw [bN (fun q=>a1 (hP.1 q).1.2.1)]
    · have n0:((c8 h p).getD 0 0 != 171)=true:=by simp only [bne_iff_ne];exact a0
      simp only [n0,bE,if_false,gI,if_true]
      rw [bN (fun q=>a0 (hP.1 q).1.1)]
end
instance (h:aB):Decidable (∀p,p < 6→k9 h p):=Nat.decidableBallLT 6 fun p _=>k9 h p
def SM(h:aB):Prop:=dW h∧∀p,p < 6→k9 h p
instance (h:aB):Decidable (SM h):=by unfold SM;infer_instance
theorem PG{h:aB}(hl:h.Bytes.length≤maxLen):yP h=some (decide (SM h)):=by
  unfold yP
  rw [NH hl]
  by_cases hs:dW h
  · have key:loop (sB h) 0=some (if ∀p,p < 6→k9 h p then Out.brk () else Out.ret false):=by
      refine tI (f:=sB h) 6 (fun k=>(k:Int)) (fun p=>k9 h p) _ _ (fun k hk hx=>?_) (fun k hk hx=>?_) ?_
      · simp only [sB]
        rw [if_pos (by simp;omega),PD hs hk,aM (by omega) (by omega),bD hx];rfl
      · simp only [sB]
        rw [if_pos (by simp;omega),PD hs hk,bN hx];rfl
      · rfl
    simp only [aG,bD hs,dU,bE,if_false]
    rw [key]
    by_cases h4:∀p,p < 6→k9 h p
    · rw [if_pos h4,bD (show SM h from ⟨hs,h4⟩)];rfl
    · rw [if_neg h4,bN (fun q:SM h=>h4 q.2)];rfl
  · rw [bN (fun q:SM h=>hs q.1),bN hs];rfl
theorem HC{h:aB}(hl:h.Bytes.length≤maxLen):DR h=some (decide (SM h)):=by
  unfold DR
  rw [HA hl]
  by_cases hs:dW h
  · have key:loop (sQ h) 0=some (if ∀p,p < 6→k9 h p then Out.brk () else Out.ret false):=by
      refine tI (f:=sQ h) 6 (fun k=>(k:Int)) (fun p=>k9 h p) _ _ (fun k hk hx=>?_) (fun k hk hx=>?_) ?_
      · simp only [sQ]
        rw [if_pos (by simp;omega),PF hs hk,aM (by omega) (by omega),bD hx];rfl
      · simp only [sQ]
        rw [if_pos (by simp;omega),PF hs hk,bN hx];rfl
      · rfl
    simp only [aG,bD hs,dU,bE,if_false]
    rw [key]
    by_cases h4:∀p,p < 6→k9 h p
    · rw [if_pos h4,bD (show SM h from ⟨hs,h4⟩)];rfl
    · rw [if_neg h4,bN (fun q:SM h=>h4 q.2)];rfl
  · rw [bN (fun q:SM h=>hs q.1),bN hs];rfl
def bJ(h:aB)(s:Int):Int:=if (0≤s∧s≤23)∧s % 4 < b7 (bV h (s / 4).toNat) then bV h (s / 4).toNat else -1
theorem xF{h:aB}{s:Int}(hc:0≤bJ h s):(0≤s∧s≤23)∧s % 4 < b7 (bV h (s / 4).toNat)∧bJ h s=bV h (s / 4).toNat:=by
  unfold bJ at hc ⊢
  split at hc
  · rename_i h1;exact⟨h1.1,h1.2,by rw [if_pos h1]⟩
  · omega
theorem gW{h:aB}(hs:dW h)(s:Int):iD h s=some (bJ h s):=by
  unfold iD p7 bJ
  rw [PA,NG]
  by_cases h1:0≤s∧s≤23
  · obtain⟨k,rfl⟩:=Int.eq_ofNat_of_zero_le h1.1
    have hk:k / 4 < 6:=by omega
    have e1:((k:Int) / 4)=((k / 4:Nat):Int):=by omega
    have hi:=Y3 hs hk
    have n1:¬((k / 4:Nat):Int) < 0:=by omega
    simp only [h1,and_self,if_true,aG,e1,n1,decide_false,bE,if_false,hi,Int.toNat_natCast,true_and]
    by_cases h2:bV h (k / 4) < 0
    · have h3:b7 (bV h (k / 4))=0:=aF9 (by omega)
      have h4:¬(k:Int) % 4 < 0:=by omega
      simp [h2,h3,h4]
    · by_cases h3:(k:Int) % 4 < b7 (bV h (k / 4))
      · have h4:¬b7 (bV h (k / 4))≤(k:Int) % 4:=by omega
        simp [h2,h3,h4,eW]
      · have h4:b7 (bV h (k / 4))≤(k:Int) % 4:=by omega
        simp [h2,h3,h4,eW]
  · simp [h1]
theorem lW{h:aB}(hs:dW h)(s:Int):mB h s=some (bJ h s):=by
  unfold mB wQ bJ
  rw [tJ]
  by_cases h1:0≤s∧s≤23
  · obtain⟨k,rfl⟩:=Int.eq_ofNat_of_zero_le h1.1
    have hk:k / 4 < 6:=by omega
    have e1:((k:Int) / 4)=((k / 4:Nat):Int):=by omega
    have hi:=Y3 hs hk
    have e2:aV (Int.tdiv (k:Int) 4)=((k / 4:Nat):Int):=by rw [A0 (by omega),aM (by omega) (by omega)];omega
    simp only [h1,and_self,decide_true,dU,bE,if_true,aG,e1,e2,if_false,hi,Int.toNat_natCast,true_and,wB]
    by_cases h3:(k:Int) % 4 < b7 (bV h (k / 4))
    · have hm:=G9 (c:=bV h (k / 4)) (by omega) h3
      have hg:¬e9 (k:Int) (bV h (k / 4)) < 0:=by
        unfold e9;rw [if_pos ⟨h1,h3⟩];omega
      simp [h3,hg]
    · have hg:e9 (k:Int) (bV h (k / 4)) < 0:=by
        unfold e9;rw [if_neg (fun q=>h3 q.2)];omega
      simp [h3,hg]
  · simp [h1]
def j4(h:aB)(s:Int):Int:=ld h.Bytes (e9 s (bJ h s)).toNat 4
theorem DE{h:aB}{s:Int}(hc:0≤bJ h s):0≤e9 s (bJ h s)∧e9 s (bJ h s)+4≤384:=by
  obtain⟨h1,h2,h3⟩:=xF hc
  rw [h3]
  have hm:=G9 (c:=bV h (s / 4).toNat) (by omega) h2
  have hst:0 < aW (bV h (s / 4).toNat):=by
    have:0≤bV h (s / 4).toNat∧bV h (s / 4).toNat≤2:=iV.1 (by omega)
    rcases e7 this with e | e | e <;> rw [e] <;> decide
  have:4≤aW (bV h (s / 4).toNat):=by
    have:0≤bV h (s / 4).toNat∧bV h (s / 4).toNat≤2:=iV.1 (by omega)
    rcases e7 this with e | e | e <;> rw [e] <;> decide
  unfold e9;rw [if_pos ⟨h1,h2⟩];omega
theorem mW{h:aB}(hs:dW h){s:Int}(hc:0≤bJ h s):sC h s=some (j4 h s):=by
  have hg:=DE hc
  unfold sC
  rw [gW hs]
  simp only [aG,mV]
  have l1:=PB hs.2.2.1 (a:=(e9 s (bJ h s)).toNat) (w:=4) (by omega) (by have:=hs.1;omega) (by have:=hs.1;omega)
  rw [show((4:Nat):Int)=4 from rfl,Int.toNat_of_nonneg hg.1] at l1
  rw [l1];rfl
theorem DF{h:aB}(hs:dW h){s:Int}(hc:0≤bJ h s):xN h s=some (j4 h s):=by
  have hg:=DE hc
  have hm:h.Bytes.length≤maxLen:=by rw [hs.1];simp [maxLen]
  unfold xN zV
  rw [HA hm,lW hs]
  have l1:=EO hs.2.2.1 (a:=(e9 s (bJ h s)).toNat) (w:=4) (by omega) (by have:=hs.1;omega) (by have:=hs.1;omega)
  rw [show((4:Nat):Int)=4 from rfl,Int.toNat_of_nonneg hg.1] at l1
  have n1:¬bJ h s < 0:=by omega
  simp [hs,n1,wB,l1,j4]
end Go.Gv
end
noncomputable section
namespace Go.Gv
def bX(l:List aC):List Int:=l.flatMap aC.aJ
def cK(l:aA):List Int:=bX l.Global++bX l.bB
def LOk(l:aA):Prop:=l.Global.length=3∧l.bB.length=9∧(∀s∈l.bB,s.aJ.length≤2)∧(∀x∈cK l,0≤x∧x≤23)∧(cK l).Nodup
instance (l:aA):Decidable (LOk l):=by unfold LOk;infer_instance
theorem KT{l:List aC}{k:Nat}(h:k < l.length):bX (l.take (k+1))=bX (l.take k)++l[k].aJ:=by
  unfold bX
  rw [List.take_succ_eq_append_getElem h,List.flatMap_append];simp
theorem Y4(l:List aC)(k:Nat):(bX (l.take k)).length≤(bX l).length:=by
  have:bX l=bX (l.take k)++bX (l.drop k):=by
    unfold bX;rw [←List.flatMap_append,List.take_append_drop]
  rw [this];simp
theorem DZ(l:List aC){k:Nat}(h:k < l.length):l[k].aJ.length≤(bX l).length:=by
  have h1:=Y4 l (k+1)
  rw [KT h] at h1
  simp at h1;omega
theorem JJ{l:aA}(h:(cK l).length≤1073741824)(hg:l.Global.length≤maxLen)(ho:l.bB.length≤maxLen):BG l=some (cK l):=by
  have hsum:(bX l.Global).length+(bX l.bB).length≤1073741824:=by simpa [cK] using h
  unfold BG
  have k1:loop (vI l) ([],0)=some (bX l.Global):=by
    refine cM (f:=vI l) l.Global.length (fun k=>(bX (l.Global.take k),(k:Int))) _ (fun k hk=>?_) ?_
    · have h1:=Y4 l.Global (k+1)
      rw [KT hk] at h1
      simp only [vI]
      rw [if_pos (by simp;omega),aU hk]
      simp only [aG]
      rw [aL (by simp at h1;omega),KT hk,jR (uY hk hg)]
    · simp [vI]
  rw [k1]
  simp only [aG,QX,QW]
  have k2:loop (vH l) (bX l.Global,0)=some (cK l):=by
    have:=cM (f:=vH l) l.bB.length (fun k=>(bX l.Global++bX (l.bB.take k),(k:Int))) (cK l) (fun k hk=>?_) ?_
    · simpa [bX] using this
    · have h1:=Y4 l.bB (k+1)
      rw [KT hk] at h1
      simp only [vH]
      rw [if_pos (by simp;omega),aU hk]
      simp only [aG]
      rw [aL (by simp at h1 ⊢;omega),KT hk,jR (uY hk ho),List.append_assoc]
    · simp [vH,cK]
  rw [k2];rfl
theorem DG{l:List Int}(hl:l.length≤maxLen)(x:Int):xK l x=some (decide (x∈l)):=by
  unfold xK
  have key:loop (qY l x) 0=some (if ∀y∈l,y≠x then Out.brk () else Out.ret true):=by
    refine oV (f:=qY l x) l (fun k=>(k:Int)) (fun y=>y≠x) _ _ (fun k h hp=>?_) (fun k h hp=>?_) ?_
    · simp only [qY]
      rw [if_pos (by simp;omega),aU h,jR (uY h hl)]
      have:(l[k] == x)=false:=by simpa using hp
      simp only [aG,this,bE,if_false]
    · simp only [qY]
      rw [if_pos (by simp;omega),aU h]
      have:(l[k] == x)=true:=by simpa using hp
      simp only [aG,this,if_true]
    · simp [qY]
  rw [key]
  by_cases h:x∈l
  · rw [if_neg (fun q=>q x h rfl),bD h];rfl
  · rw [if_pos (fun y hy (e:y=x)=>h (e ▸ hy)),bN h];rfl
theorem LU(l:List Int):l.Nodup↔∀k (h:k < l.length),l[k]∉l.take k:=by
  unfold List.Nodup
  rw [List.pairwise_iff_getElem]
  constructor
  · intro h k hk hm
    obtain⟨i,hi,he⟩:=List.mem_take_iff_getElem.1 hm
    exact h i k (by omega) hk (by omega) he
  · intro h i j hi hj hij he
    exact h j hj (List.mem_take_iff_getElem.2 ⟨i,by omega,he⟩)
theorem xG{l:aA}(h:(cK l).length≤1073741824):o7 l=some (decide (LOk l)):=by
  unfold o7 wG
  by_cases hg:l.Global.length=3
  · by_cases ho:l.bB.length=9
    · have n1:((l.Global.length:Int) != 3)=false:=by simp;omega
      have n2:((l.bB.length:Int) != 9)=false:=by simp;omega
      simp only [n1,n2,bE,if_false]
      have k1:loop (lM l) 0=some (if ∀s∈l.bB,s.aJ.length≤2 then Out.brk () else Out.ret false):=by
        refine oV (f:=lM l) l.bB (fun k=>(k:Int)) (fun s=>s.aJ.length≤2) _ _ (fun k hk hp=>?_) (fun k hk hp=>?_) ?_
        · simp only [lM]
          rw [if_pos (by simp;omega),aU hk,aM (by omega) (by omega)]
          simp only [aG]
          rw [if_neg (by simp;omega)];rfl
        · simp only [lM]
          rw [if_pos (by simp;omega),aU hk]
          simp only [aG]
          rw [if_pos (by simp;omega)]
        · simp [lM]
      rw [k1]
      by_cases h2:∀s∈l.bB,s.aJ.length≤2
      · rw [if_pos h2]
        simp only [aG,MC,MB]
        rw [JJ h (by rw [hg];simp [maxLen]) (by rw [ho];simp [maxLen])]
        simp only [aG]
        have k2:loop (lL (cK l)) 0=some (if ∀k,k < (cK l).length→(0≤(cK l).getD k 0∧(cK l).getD k 0≤23)∧(cK l).getD k 0∉(cK l).take k then Out.brk () else Out.ret false):=by
          have hst:∀k,k < (cK l).length→lL (cK l) (k:Int)=if (0≤(cK l).getD k 0∧(cK l).getD k 0≤23)∧(cK l).getD k 0∉(cK l).take k then some (.next ((k+1:Nat):Int)) else some (.stop (Out.ret false)):=by
            intro k hk
            have e:(cK l).getD k 0=(cK l)[k]:=by rw [List.getD_eq_getElem?_getD,List.getElem?_eq_getElem hk];rfl
            rw [e]
            simp only [lL]
            rw [if_pos (by simp;omega),aU hk]
            simp only [aG,bR,wF]
            by_cases q:0≤(cK l)[k]∧(cK l)[k]≤23
            · rw [bD q]
              simp only [dU,bE,if_false,Int.toNat_natCast,List.drop_zero]
              rw [aL (by omega),DG (by simp [maxLen];omega),aM (by omega) (by omega)]
              by_cases q2:(cK l)[k]∈(cK l).take k
              · rw [if_neg (fun x=>x.2 q2),bD q2];rfl
              · rw [if_pos ⟨q,q2⟩,bN q2];rfl
            · rw [bN q];simp only [rX,if_true];rw [if_neg (fun x=>q x.1)]
          refine tI (f:=lL (cK l)) (cK l).length (fun k=>(k:Int)) (fun k=>(0≤(cK l).getD k 0∧(cK l).getD k 0≤23)∧(cK l).getD k 0∉(cK l).take k) _ _ (fun k hk hx=>?_) (fun k hk hx=>?_) ?_
          · rw [hst k hk,if_pos hx]
          · rw [hst k hk,if_neg hx]
          · simp [lL]
        rw [k2]
        have hiff:LOk l↔∀k,k < (cK l).length→(0≤(cK l).getD k 0∧(cK l).getD k 0≤23)∧(cK l).getD k 0∉(cK l).take k:=by
          have e:∀k (hk:k < (cK l).length),(cK l).getD k 0=(cK l)[k]:=fun k hk=>by rw [List.getD_eq_getElem?_getD,List.getElem?_eq_getElem hk];rfl
          constructor
          · rintro⟨_,_,_,q1,q2⟩ k hk
            rw [e k hk]
            exact⟨q1 _ (List.getElem_mem hk),(LU _).1 q2 k hk⟩
          · intro q
            refine⟨hg,ho,h2,fun x hx=>?_,(LU _).2 fun k hk=>?_⟩
            · obtain⟨k,hk,rfl⟩:=List.mem_iff_getElem.1 hx
              have:=(q k hk).1;rw [e k hk] at this;exact this
            · have:=(q k hk).2;rw [e k hk] at this;exact this
        by_cases q:LOk l
        · rw [if_pos (hiff.1 q),bD q];rfl
        · rw [if_neg (fun x=>q (hiff.2 x)),bN q];rfl
      · rw [if_neg h2,bN (fun q:LOk l=>h2 q.2.2.1)];rfl
    · have n1:((l.Global.length:Int) != 3)=false:=by simp;omega
      have n2:((l.bB.length:Int) != 9)=true:=by simp;omega
      simp only [n1,n2,bE,if_false,if_true]
      rw [bN (fun q:LOk l=>ho q.2.1)]
  · have n1:((l.Global.length:Int) != 3)=true:=by simp;omega
    simp only [n1,if_true]
    rw [bN (fun q:LOk l=>hg q.1)]
def wC:List Bool→List Int→Option (List Bool)
  | met,[]=>some met
  | met,x :: r=>if (0≤x∧x≤23)∧met.getD x.toNat true=false then wC (met.set x.toNat true) r else none
theorem aEM:∀{xs:List Int} {met m:List Bool},wC met xs=some m→m.length=met.length
  | [],met,m,h=>by simp [wC] at h;rw [h]
  | x :: r, met, m, h => by
    simp only [wC] at h
    split at h
    · have:=aEM h;simpa using this
    · cases h
theorem TY:∀(a b:List Int) (met:List Bool),wC met (a++b)=(wC met a).bind fun m=>wC m b
  | [],b,met=>rfl
  | x :: r, b, met => by
    simp only [List.cons_append,wC]
    split
    · exact TY r b _
    · rfl
theorem SD:∀(xs:List Int) (met:List Bool),met.length=24→((wC met xs).isSome=true↔(∀x∈xs,0≤x∧x≤23)∧xs.Nodup∧∀x∈xs,met.getD x.toNat true=false)
  | [],met,hm=>by simp [wC]
  | x :: r, met, hm => by
    simp only [wC]
    by_cases h:(0≤x∧x≤23)∧met.getD x.toNat true=false
    · rw [if_pos h,SD r _ (by simpa using hm)]
      have hset:∀y,0≤y∧y≤23→(((met.set x.toNat true).getD y.toNat true=false)↔(y≠x∧met.getD y.toNat true=false)):=by
        intro y hy
        rw [List.getD_eq_getElem?_getD,List.getD_eq_getElem?_getD]
        by_cases e:y=x
        · subst e;rw [List.getElem?_set_self (by omega)];simp
        · rw [List.getElem?_set_ne (by omega)];simp [e]
      constructor
      · rintro⟨q1,q2,q3⟩
        refine⟨fun y hy=>?_,List.nodup_cons.2 ⟨fun hx=>?_,q2⟩,fun y hy=>?_⟩
        · rcases List.mem_cons.1 hy with rfl | hy
          · exact h.1
          · exact q1 y hy
        · exact((hset x h.1).1 (q3 x hx)).1 rfl
        · rcases List.mem_cons.1 hy with rfl | hy
          · exact h.2
          · exact((hset y (q1 y hy)).1 (q3 y hy)).2
      · rintro⟨q1,q2,q3⟩
        have q2:=List.nodup_cons.1 q2
        refine⟨fun y hy=>q1 y (List.mem_cons_of_mem _ hy),q2.2,fun y hy=>(hset y (q1 y (List.mem_cons_of_mem _ hy))).2 ⟨fun e=>q2.1 (e ▸ hy),q3 y (List.mem_cons_of_mem _ hy)⟩⟩
    · rw [if_neg h]
      constructor
      · intro q;cases q
      · rintro⟨q1,q2,q3⟩
        exact(h ⟨q1 x List.mem_cons_self,q3 x List.mem_cons_self⟩).elim
def aGB:Option (List Bool)→Out (List Bool) Bool
  | some m=>.brk m
  | none=>.ret false
theorem aYV{s:aC}(hl:s.aJ.length≤maxLen):∀d k (met:List Bool),k+d=s.aJ.length→met.length=24→loop (jF s) ((k:Int),met)=some (aGB (wC met (s.aJ.drop k))):=by
  intro d
  induction d with
  | zero =>
    intro k met hk hm
    rw [bK (r:=Out.brk met) (by simp [jF];omega),List.drop_eq_nil_of_le (by omega)];rfl
  | succ d ih =>
    intro k met hk hm
    have hk':k < s.aJ.length:=by omega
    have hd:s.aJ.drop k=s.aJ[k] :: s.aJ.drop (k+1):=List.drop_eq_getElem_cons hk'
    have hst:jF s ((k:Int),met)=if (0≤s.aJ[k]∧s.aJ[k]≤23)∧met.getD s.aJ[k].toNat true=false then some (.next (((k+1:Nat):Int),met.set s.aJ[k].toNat true)) else some (.stop (Out.ret false)):=by
      simp only [jF]
      rw [if_pos (by simp;omega),aU hk']
      simp only [aG,tJ]
      generalize s.aJ[k]=x
      by_cases q:0≤x∧x≤23
      · obtain⟨j,rfl⟩:=Int.eq_ofNat_of_zero_le q.1
        have hj:j < met.length:=by omega
        have e:met.getD j true=met[j]:=by rw [List.getD_eq_getElem?_getD,List.getElem?_eq_getElem hj];rfl
        simp only [q,and_self,decide_true,dU,bE,if_false,lR,Int.toNat_natCast,true_and,e]
        rw [aL (by omega),aU hj]
        simp only [aG]
        cases met[j]
        · simp only [bE,if_false,if_true]
          rw [aL (by omega),jR (uY hk' hl)]
        · simp
      · rw [bN q];simp only [rX,if_true,lR];rw [if_neg (fun x=>q x.1)]
    rw [hd,wC]
    by_cases q:(0≤s.aJ[k]∧s.aJ[k]≤23)∧met.getD s.aJ[k].toNat true=false
    · rw [if_pos q] at hst ⊢
      rw [bT hst,ih (k+1) _ (by omega) (by simpa using hm)]
    · rw [if_neg q] at hst ⊢
      rw [bK hst];rfl
def WM(l:List aC):Prop:=∀s∈l,s.aJ.length≤2
instance (l:List aC):Decidable (WM l):=by unfold WM;infer_instance
theorem aYW{l:aA}(ho:l.bB.length=9)(hn:(l.bB++l.Global).length≤1000)(hs:∀s∈l.bB++l.Global,s.aJ.length≤maxLen):∀d k (met:List Bool),k+d=(l.bB++l.Global).length→met.length=24 →
    loop (jH l) ((k:Int),met)=some (if WM (((l.bB++l.Global).drop k).take (9 - k))∧(wC met (bX ((l.bB++l.Global).drop k))).isSome=true then Out.brk () else Out.ret false):=by
  intro d
  induction d with
  | zero =>
    intro k met hk hm
    rw [List.drop_eq_nil_of_le (by omega),if_pos ⟨by simp [WM],rfl⟩]
    refine bK ?_
    simp only [jH]
    rw [if_neg (by simp;simp at hk;omega)]
  | succ d ih =>
    intro k met hk hm
    have hk':k < (l.bB++l.Global).length:=by omega
    have hd:(l.bB++l.Global).drop k=(l.bB++l.Global)[k] :: (l.bB++l.Global).drop (k+1):=List.drop_eq_getElem_cons hk'
    have hsk:=hs _ (List.getElem_mem hk')
    have hf:bX ((l.bB++l.Global).drop k)=(l.bB++l.Global)[k].aJ++bX ((l.bB++l.Global).drop (k+1)):=by unfold bX;rw [hd,List.flatMap_cons]
    have hin:∀b:Bool,jG (k:Int) met (l.bB++l.Global)[k] b=if b then some (.stop (Out.ret false)) else (match wC met (l.bB++l.Global)[k].aJ with | some m=>some (.next (((k+1:Nat):Int),m)) | none=>some (.stop (Out.ret false))):=by
      intro b
      have h4:=aYV hsk _ 0 met (Nat.zero_add _) hm
      rw [show((0:Nat):Int)=0 from rfl,List.drop_zero] at h4
      unfold jG
      rw [h4]
      cases b
      · simp only [bE,if_false,aG]
        cases wC met (l.bB++l.Global)[k].aJ with
        | none=>rfl
        | some m=>simp only [aGB,MI,wP];rw [aM (by omega) (by omega)];rfl
      · rfl
    have hst:jH l ((k:Int),met)=jG (k:Int) met (l.bB++l.Global)[k] (decide (k < 9∧2 < (l.bB++l.Global)[k].aJ.length)):=by
      simp only [jH]
      rw [if_pos (by simp;simp at hk';omega),aU hk']
      simp only [aG]
      by_cases h9:k < 9
      · rw [if_pos (by simp;omega)]
        congr 1
        rw [Bool.eq_iff_iff];simp only [decide_eq_true_eq];omega
      · rw [if_neg (by simp;omega),bN (by omega)]
    rw [hin] at hst
    by_cases h2:k < 9∧2 < (l.bB++l.Global)[k].aJ.length
    · rw [bD h2] at hst
      simp only [if_true] at hst
      rw [bK hst,if_neg]
      rintro⟨q,_⟩
      have e:9 - k=(9 - (k+1))+1:=by omega
      rw [hd,e,List.take_succ_cons] at q
      have:=q _ List.mem_cons_self
      omega
    · rw [bN h2] at hst
      simp only [bE,if_false] at hst
      have hcond:WM (((l.bB++l.Global).drop k).take (9 - k))↔WM (((l.bB++l.Global).drop (k+1)).take (9 - (k+1))):=by
        unfold WM
        by_cases h9:k < 9
        · have e:9 - k=(9 - (k+1))+1:=by omega
          rw [hd,e,List.take_succ_cons,List.forall_mem_cons]
          exact⟨fun q=>q.2,fun q=>⟨by omega,q⟩⟩
        · have e:9 - k=0:=by omega
          have e':9 - (k+1)=0:=by omega
          rw [e,e'];simp
      rw [hf,TY]
      cases hg:wC met (l.bB++l.Global)[k].aJ with
      | none =>
        rw [hg] at hst
        rw [bK hst,if_neg (by simp)]
      | some m =>
        rw [hg] at hst
        rw [bT hst,ih (k+1) m (by omega) (by rw [aEM hg];exact hm)]
        simp only [aG,hcond]
theorem NI{l:aA}(h:(cK l).length≤1073741824):iH l=some (decide (LOk l)):=by
  unfold iH qJ
  by_cases hg:l.Global.length=3
  · by_cases ho:l.bB.length=9
    · have n1:((l.Global.length:Int) != 3)=false:=by simp;omega
      have n2:((l.bB.length:Int) != 9)=false:=by simp;omega
      simp only [n1,n2,bE,if_false]
      rw [aL (by omega)]
      have hsl:∀s∈l.bB++l.Global,s.aJ.length≤maxLen:=by
        intro s hm
        have hsum:(bX l.Global).length+(bX l.bB).length≤1073741824:=by simpa [cK] using h
        have hb:(1073741824:Nat)≤maxLen:=by simp [maxLen]
        rcases List.mem_append.1 hm with hm | hm
        · obtain⟨k,hk,rfl⟩:=List.mem_iff_getElem.1 hm
          have:=DZ l.bB hk;omega
        · obtain⟨k,hk,rfl⟩:=List.mem_iff_getElem.1 hm
          have:=DZ l.Global hk;omega
      have key:=aYW ho (by simp;omega) hsl (l.bB++l.Global).length 0 [false,false,false,false,false,false,false,false,false,false,false,false,false,false,false,false,false,false,false,false,false,false,false,false] (by omega) rfl
      rw [show((0:Nat):Int)=0 from rfl,List.drop_zero,Nat.sub_zero] at key
      rw [key]
      have et:(l.bB++l.Global).take 9=l.bB:=by rw [←ho];simp
      have ef:bX (l.bB++l.Global)=bX l.bB++bX l.Global:=by simp [bX]
      have hm0:∀j:Nat,j < 24→[false,false,false,false,false,false,false,false,false,false,false,false,false,false,false,false,false,false,false,false,false,false,false,false].getD j true=false:=by decide
      have hiff:LOk l↔WM ((l.bB++l.Global).take 9)∧(wC [false,false,false,false,false,false,false,false,false,false,false,false,false,false,false,false,false,false,false,false,false,false,false,false] (bX (l.bB++l.Global))).isSome=true:=by
        rw [SD _ _ rfl,et,ef]
        have hp:(bX l.bB++bX l.Global).Perm (cK l):=List.perm_append_comm
        constructor
        · rintro⟨_,_,q1,q2,q3⟩
          exact⟨q1,fun x hx=>q2 x (hp.mem_iff.1 hx),hp.nodup_iff.2 q3,fun x hx=>hm0 _ (by have:=q2 x (hp.mem_iff.1 hx);omega)⟩
        · rintro⟨q1,q2,q3,_⟩
          exact⟨hg,ho,q1,fun x hx=>q2 x (hp.mem_iff.2 hx),hp.nodup_iff.1 q3⟩
      by_cases q:LOk l
      · rw [if_pos (hiff.1 q),bD q];rfl
      · rw [if_neg (fun x=>q (hiff.2 x)),bN q];rfl
    · have n1:((l.Global.length:Int) != 3)=false:=by simp;omega
      have n2:((l.bB.length:Int) != 9)=true:=by simp;omega
      simp only [n1,n2,bE,if_false,if_true]
      rw [bN (fun q:LOk l=>ho q.2.1)]
  · have n1:((l.Global.length:Int) != 3)=true:=by simp;omega
    simp only [n1,if_true]
    rw [bN (fun q:LOk l=>hg q.1)]
end Go.Gv
end
noncomputable section
namespace Go.Gv
def A2(h:aB)(l:List Int)(c:Int):Prop:=∀x∈l,bJ h x=c∧j4 h x≤6
instance (h:aB) (l:List Int) (c:Int):Decidable (A2 h l c):=by unfold A2;infer_instance
theorem KU{h:aB}(hs:dW h){l:List Int}(hl:l.length≤maxLen){c:Int}(hc:0≤c):vJ h l c=some (decide (A2 h l c)):=by
  unfold vJ
  have key:loop (kE h l c) 0=some (if ∀x∈l,bJ h x=c∧j4 h x≤6 then Out.brk () else Out.ret false):=by
    have hst:∀k (hk:k < l.length),kE h l c (k:Int)=if bJ h l[k]=c∧j4 h l[k]≤6 then some (.next ((k+1:Nat):Int)) else some (.stop (Out.ret false)):=by
      intro k hk
      simp only [kE]
      rw [if_pos (by simp;omega),aU hk]
      generalize l[k]=x
      simp only [aG,gW hs,tU]
      by_cases q:bJ h x=c
      · have n1:(bJ h x != c)=false:=by simp only [bne_eq_false_iff_eq];exact q
        simp only [n1,bE,if_false,mW hs (show 0≤bJ h x by omega),aG,jR (uY hk hl)]
        by_cases q2:j4 h x≤6
        · rw [if_neg (by simp;omega),if_pos ⟨q,q2⟩]
        · rw [if_pos (by simp;omega),if_neg (fun x=>q2 x.2)]
      · have n1:(bJ h x != c)=true:=by simp only [bne_iff_ne];exact q
        simp only [n1,if_true]
        rw [if_neg (fun x=>q x.1)]
    refine oV (f:=kE h l c) l (fun k=>(k:Int)) (fun x=>bJ h x=c∧j4 h x≤6) _ _ (fun k hk hp=>?_) (fun k hk hp=>?_) ?_
    · rw [hst k hk,if_pos hp]
    · rw [hst k hk,if_neg hp]
    · simp [kE]
  rw [key]
  by_cases q:∀x∈l,bJ h x=c∧j4 h x≤6
  · rw [if_pos q,bD (show A2 h l c from q)];rfl
  · rw [if_neg q,bN (show ¬A2 h l c from q)];rfl
theorem KV{h:aB}(hs:dW h){s:aC}(hl:s.aJ.length≤maxLen){c:Int}(hc:0≤c):vW h s c=some (decide (A2 h s.aJ c)):=by
  unfold vW
  have key:loop (kH h s c) 0=some (if ∀x∈s.aJ,bJ h x=c∧j4 h x≤6 then Out.brk () else Out.ret false):=by
    have hst:∀k (hk:k < s.aJ.length),kH h s c (k:Int)=if bJ h s.aJ[k]=c∧j4 h s.aJ[k]≤6 then some (.next ((k+1:Nat):Int)) else some (.stop (Out.ret false)):=by
      intro k hk
      simp only [kH]
      rw [if_pos (by simp;omega),aU hk]
      generalize s.aJ[k]=x
      simp only [aG,lW hs,uC]
      by_cases q:bJ h x=c
      · have n1:(bJ h x != c)=false:=by simp only [bne_eq_false_iff_eq];exact q
        simp only [n1,bE,if_false,DF hs (show 0≤bJ h x by omega),aG,jR (uY hk hl)]
        by_cases q2:j4 h x≤6
        · rw [if_neg (by simp;omega),if_pos ⟨q,q2⟩]
        · rw [if_pos (by simp;omega),if_neg (fun x=>q2 x.2)]
      · have n1:(bJ h x != c)=true:=by simp only [bne_iff_ne];exact q
        simp only [n1,if_true]
        rw [if_neg (fun x=>q x.1)]
    refine oV (f:=kH h s c) s.aJ (fun k=>(k:Int)) (fun x=>bJ h x=c∧j4 h x≤6) _ _ (fun k hk hp=>?_) (fun k hk hp=>?_) ?_
    · rw [hst k hk,if_pos hp]
    · rw [hst k hk,if_neg hp]
    · simp [kH]
  rw [key]
  by_cases q:∀x∈s.aJ,bJ h x=c∧j4 h x≤6
  · rw [if_pos q,bD (show A2 h s.aJ c from q)];rfl
  · rw [if_neg q,bN (show ¬A2 h s.aJ c from q)];rfl
def eU(l:List aC)(k:Nat):List Int:=(l.getD k ⟨[]⟩).aJ
theorem dM{l:List aC}{k:Nat}(h:k < l.length):l[k].aJ=eU l k:=by
  unfold eU;rw [List.getD_eq_getElem?_getD,List.getElem?_eq_getElem h];rfl
def HU(m:Mem)(k:Nat):Prop:=A2 m.aB (eU m.aA.Global k) (k:Int)
def A3(m:Mem)(k:Nat):Prop:=A2 m.aB (eU m.aA.bB k) ((k % 3:Nat):Int)
instance (m:Mem) (k:Nat):Decidable (HU m k):=by unfold HU;infer_instance
instance (m:Mem) (k:Nat):Decidable (A3 m k):=by unfold A3;infer_instance
instance (m:Mem):Decidable (∀k,k < 3→HU m k):=Nat.decidableBallLT 3 fun k _=>HU m k
instance (m:Mem):Decidable (∀k,k < 9→A3 m k):=Nat.decidableBallLT 9 fun k _=>A3 m k
instance (m:Mem) (c:Nat):Decidable (∀w,w < 3→A3 m (w * 3+c)):=Nat.decidableBallLT 3 fun w _=>A3 m (w * 3+c)
instance (m:Mem):Decidable (∀k,k < 3→HU m k∧∀w,w < 3→A3 m (w * 3+k)):=Nat.decidableBallLT 3 fun k _=>HU m k∧∀w,w < 3→A3 m (w * 3+k)
def i3(m:Mem):Prop:=(SM m.aB∧LOk m.aA)∧(∀k,k < 3→HU m k)∧∀k,k < 9→A3 m k
instance (m:Mem):Decidable (i3 m):=by unfold i3;infer_instance
theorem LOk.IP{l:aA}(h:LOk l)(hb:(cK l).length≤1073741824):(∀s∈l.Global,s.aJ.length≤1073741824)∧∀s∈l.bB,s.aJ.length≤1073741824:=by
  have hsum:(bX l.Global).length+(bX l.bB).length≤1073741824:=by simpa [cK] using hb
  constructor
  · intro s hm
    obtain⟨k,hk,rfl⟩:=List.mem_iff_getElem.1 hm
    have:=DZ l.Global hk;omega
  · intro s hm
    obtain⟨k,hk,rfl⟩:=List.mem_iff_getElem.1 hm
    have:=DZ l.bB hk;omega
theorem aL7{m:Mem}:(∀k,k < 3→HU m k∧∀w,w < 3→A3 m (w * 3+k))↔(∀k,k < 3→HU m k)∧∀k,k < 9→A3 m k:=by
  constructor
  · intro h
    refine⟨fun k hk=>(h k hk).1,fun k hk=>?_⟩
    have:=(h (k % 3) (by omega)).2 (k / 3) (by omega)
    have e:k / 3 * 3+k % 3=k:=by omega
    rwa [e] at this
  · rintro⟨h1,h2⟩ k hk
    exact⟨h1 k hk,fun w hw=>h2 _ (by omega)⟩
theorem rH{m:Mem}(hb:m.aB.Bytes.length≤maxLen)(hl:(cK m.aA).length≤1073741824):mK m=some (decide (i3 m)):=by
  unfold mK CI
  rw [PG hb,xG hl]
  by_cases h1:SM m.aB
  · by_cases h2:LOk m.aA
    · have hmx:(1073741824:Nat)≤maxLen:=by simp [maxLen]
      have hsl:=LOk.IP h2 hl
      simp only [bD h1,bD h2,aG,dU,bE,if_false]
      have k3:∀c:Nat,c < 3→loop (vK m (c:Int)) 0=some (if ∀w,w < 3→A3 m (w * 3+c) then Out.brk () else Out.ret false):=by
        intro c hc
        have hst:∀w:Nat,w < 3→vK m (c:Int) (w:Int)=if A3 m (w * 3+c) then some (.next ((w+1:Nat):Int)) else some (.stop (Out.ret false)):=by
          intro w hw
          have hk:w * 3+c < m.aA.bB.length:=by rw [h2.2.1];omega
          have e:kO (w:Int) (c:Int)=some ((w * 3+c:Nat):Int):=by
            unfold kO qZ
            rw [bR,bR,bD (by omega),bD (by omega)]
            simp only [aG,dU,bE,if_false]
            rw [aM (x:=(w:Int) * 3) (by omega) (by omega),aM (by omega) (by omega)];rfl
          have hlen:=hsl.2 _ (List.getElem_mem hk)
          simp only [vK]
          rw [if_pos (by simp;omega),e]
          simp only [aG,aU hk]
          rw [KU h1.1 (by omega) (by omega),dM hk]
          have em:(w * 3+c) % 3=c:=by omega
          have ho:A3 m (w * 3+c)↔A2 m.aB (eU m.aA.bB (w * 3+c)) (c:Int):=by unfold A3;rw [em]
          rw [aM (by omega) (by omega)]
          by_cases q:A3 m (w * 3+c)
          · rw [if_pos q,bD (ho.1 q)];rfl
          · rw [if_neg q,bN (fun x=>q (ho.2 x))];rfl
        refine tI (f:=vK m (c:Int)) 3 (fun k=>(k:Int)) (fun w=>A3 m (w * 3+c)) _ _ (fun k hk hx=>?_) (fun k hk hx=>?_) ?_
        · rw [hst k hk,if_pos hx]
        · rw [hst k hk,if_neg hx]
        · rfl
      have k2:loop (vL m) 0=some (if ∀k,k < 3→HU m k∧∀w,w < 3→A3 m (w * 3+k) then Out.brk () else Out.ret false):=by
        have hst:∀c:Nat,c < 3→vL m (c:Int)=if HU m c∧∀w,w < 3→A3 m (w * 3+c) then some (.next ((c+1:Nat):Int)) else some (.stop (Out.ret false)):=by
          intro c hc
          have hk:c < m.aA.Global.length:=by rw [h2.1];omega
          have hlen:=hsl.1 _ (List.getElem_mem hk)
          simp only [vL]
          rw [if_pos (by simp;omega)]
          simp only [aG,aU hk]
          rw [KU h1.1 (by omega) (by omega),dM hk,k3 c hc]
          by_cases q:HU m c
          · have q':A2 m.aB (eU m.aA.Global c) (c:Int):=q
            rw [bD q']
            simp only [aG,dU,bE,if_false]
            by_cases q2:∀w,w < 3→A3 m (w * 3+c)
            · rw [if_pos q2,if_pos ⟨q,q2⟩]
              simp only [QZ,QY]
              rw [aM (by omega) (by omega)];rfl
            · rw [if_neg q2,if_neg (fun x=>q2 x.2)];rfl
          · have q':¬A2 m.aB (eU m.aA.Global c) (c:Int):=q
            rw [bN q',if_neg (fun x:HU m c∧_=>q x.1)];rfl
        refine tI (f:=vL m) 3 (fun k=>(k:Int)) (fun k=>HU m k∧∀w,w < 3→A3 m (w * 3+k)) _ _ (fun k hk hx=>?_) (fun k hk hx=>?_) ?_
        · rw [hst k hk,if_pos hx]
        · rw [hst k hk,if_neg hx]
        · rfl
      rw [k2]
      by_cases q:∀k,k < 3→HU m k∧∀w,w < 3→A3 m (w * 3+k)
      · rw [if_pos q,bD (show i3 m from ⟨⟨h1,h2⟩,aL7.1 q⟩)];rfl
      · rw [if_neg q,bN (fun x:i3 m=>q (aL7.2 x.2))];rfl
    · rw [bN (fun q:i3 m=>h2 q.1.2),bD h1,bN h2];rfl
  · rw [bN (fun q:i3 m=>h1 q.1.1),bN h1];rfl
theorem rI{m:Mem}(hb:m.aB.Bytes.length≤maxLen)(hl:(cK m.aA).length≤1073741824):xO m=some (decide (i3 m)):=by
  unfold xO CU
  rw [HC hb,NI hl]
  by_cases h1:SM m.aB
  · by_cases h2:LOk m.aA
    · have hmx:(1073741824:Nat)≤maxLen:=by simp [maxLen]
      have hsl:=LOk.IP h2 hl
      simp only [bD h1,bD h2,aG,dU,bE,if_false]
      have k3:loop (rA m) 0=some (if ∀k,k < 9→A3 m k then Out.brk () else Out.ret false):=by
        have hst:∀w:Nat,w < 9→rA m (w:Int)=if A3 m w then some (.next ((w+1:Nat):Int)) else some (.stop (Out.ret false)):=by
          intro w hw
          have hk:w < m.aA.bB.length:=by rw [h2.2.1];omega
          have hlen:=hsl.2 _ (List.getElem_mem hk)
          have em:Int.tmod (w:Int) 3=((w % 3:Nat):Int):=by rw [oW (by omega)];omega
          simp only [rA]
          rw [if_pos (by simp;omega)]
          simp only [aG,aU hk,em]
          rw [KV h1.1 (by omega) (by omega),dM hk,aM (by omega) (by omega)]
          by_cases q:A3 m w
          · rw [if_pos q,bD (show A2 m.aB (eU m.aA.bB w) ((w % 3:Nat):Int) from q)];rfl
          · rw [if_neg q,bN (show ¬A2 m.aB (eU m.aA.bB w) ((w % 3:Nat):Int) from q)];rfl
        refine tI (f:=rA m) 9 (fun k=>(k:Int)) (fun w=>A3 m w) _ _ (fun k hk hx=>?_) (fun k hk hx=>?_) ?_
        · rw [hst k hk,if_pos hx]
        · rw [hst k hk,if_neg hx]
        · simp [rA,h2.2.1]
      have k2:loop (rB m) 0=some (if ∀k,k < 3→HU m k then Out.brk () else Out.ret false):=by
        have hst:∀w:Nat,w < 3→rB m (w:Int)=if HU m w then some (.next ((w+1:Nat):Int)) else some (.stop (Out.ret false)):=by
          intro w hw
          have hk:w < m.aA.Global.length:=by rw [h2.1];omega
          have hlen:=hsl.1 _ (List.getElem_mem hk)
          simp only [rB]
          rw [if_pos (by simp;omega)]
          simp only [aG,aU hk]
          rw [KV h1.1 (by omega) (by omega),dM hk,aM (by omega) (by omega)]
          by_cases q:HU m w
          · rw [if_pos q,bD (show A2 m.aB (eU m.aA.Global w) (w:Int) from q)];rfl
          · rw [if_neg q,bN (show ¬A2 m.aB (eU m.aA.Global w) (w:Int) from q)];rfl
        refine tI (f:=rB m) 3 (fun k=>(k:Int)) (fun w=>HU m w) _ _ (fun k hk hx=>?_) (fun k hk hx=>?_) ?_
        · rw [hst k hk,if_pos hx]
        · rw [hst k hk,if_neg hx]
        · simp [rB,h2.1]
      rw [k2]
      by_cases q:∀k,k < 3→HU m k
      · rw [if_pos q]
        simp only [aG,Q4,Q3]
        rw [k3]
        by_cases q2:∀k,k < 9→A3 m k
        · rw [if_pos q2,bD (show i3 m from ⟨⟨h1,h2⟩,q,q2⟩)];rfl
        · rw [if_neg q2,bN (fun x:i3 m=>q2 x.2.2)];rfl
      · rw [if_neg q,bN (fun x:i3 m=>q x.2.1)];rfl
    · rw [bN (fun q:i3 m=>h2 q.1.2),bD h1,bN h2];rfl
  · rw [bN (fun q:i3 m=>h1 q.1.1),bN h1];rfl
end Go.Gv
end
noncomputable section
namespace Go.Gv
theorem oX{l:List aC}{s:aC}(h:s∈l):s.aJ.length≤(bX l).length:=by
  obtain⟨k,hk,rfl⟩:=List.mem_iff_getElem.1 h
  exact DZ l hk
theorem eS(l:aA):(cK l).length=(bX l.Global).length+(bX l.bB).length:=by simp [cK]
def gZ(m:Mem):Prop:=m.aB.Bytes.length≤1048576∧m.aB.Class.length≤1048576∧m.aA.Global.length≤1048576∧m.aA.bB.length≤1048576∧(cK m.aA).length≤1048576
theorem gZ.IP{m:Mem}(h:gZ m):(∀s∈m.aA.Global,s.aJ.length≤1048576)∧∀s∈m.aA.bB,s.aJ.length≤1048576:=by
  have:=eS m.aA
  have h5:=h.2.2.2.2
  exact⟨fun s hm=>by have:=oX hm;omega,fun s hm=>by have:=oX hm;omega⟩
end Go.Gv
end
noncomputable section
namespace Go.Gv
def POk(e:Int)(p:eX):Prop:=(0≤p.aK∧p.aK≤e)∧(0≤p.Seen∧p.Seen≤2)∧(p.On=false→p=⟨false,0,false,0⟩)
instance (e:Int) (p:eX):Decidable (POk e p):=by unfold POk;infer_instance
def JK(c:aI):Prop:=(0≤c.aK∧c.aK≤100000)∧c.aX.length=3∧∀p∈c.aX,POk c.aK p
instance (c:aI):Decidable (JK c):=by unfold JK;infer_instance
theorem gX(c:aI):l6 c=some (decide (JK c)):=by
  unfold l6
  rw [bR]
  by_cases h1:0≤c.aK∧c.aK≤100000
  · by_cases h2:c.aX.length=3
    · simp only [aG,h1,h2,lN]
      have key:∀k:Nat,k≤3→loop (qB c) (k:Int)=some (if ∀p∈c.aX.drop k,POk c.aK p then Out.brk () else Out.ret false):=by
        refine aFC 3 _ fun k hk=>?_
        by_cases h3:k < 3
        · have hd:c.aX.drop k=c.aX[k] :: c.aX.drop (k+1):=List.drop_eq_getElem_cons (by omega)
          simp only [qB]
          rw [if_pos (by simp;omega),aU (by omega)]
          simp only [aG,bR,jD,hd]
          rw [jR (by simp [maxLen];omega)]
          generalize c.aX[k]=p
          have hp:POk c.aK p↔decide (0≤p.aK∧p.aK≤c.aK)=true∧decide (0≤p.Seen∧p.Seen≤2)=true∧(p.On=false→decide (p=⟨false,0,false,0⟩)=true):=by simp only [POk,decide_eq_true_eq]
          simp only [List.forall_mem_cons,hp]
          generalize decide (0≤p.aK∧p.aK≤c.aK)=b1
          generalize decide (0≤p.Seen∧p.Seen≤2)=b2
          generalize decide (p=⟨false,0,false,0⟩)=b3
          generalize p.On=b4
          cases b1 <;> cases b2 <;> cases b3 <;> cases b4 <;> simp [h3]
        · left
          obtain rfl:k=3:=by omega
          simp [qB,List.drop_eq_nil_of_le (show c.aX.length≤3 by omega)]
      have:=key 0 (by omega)
      simp only [Int.ofNat_zero,List.drop_zero] at this
      have e:decide (JK c)=if ∀p∈c.aX,POk c.aK p then true else false:=by
        have:JK c↔∀p∈c.aX,POk c.aK p:=⟨fun h=>h.2.2,fun h=>⟨h1,h2,h⟩⟩
        simp [this]
      rw [e]
      simp only [Int.cast_ofNat_Int] at *
      have t0:loop (qB c) 0=_:=this
      by_cases h5:∀p∈c.aX,POk c.aK p
      · rw [if_pos h5] at t0 ⊢;rw [t0];simp [D9,ME]
      · rw [if_neg h5] at t0 ⊢;rw [t0];simp [D9]
    · simp [h1,h2,lN,JK]
      omega
  · simp [h1,lN,JK]
theorem aH1(p:eX)(c:aI):sU p c=some (!decide (POk c.aK p)):=by
  unfold sU i6
  rw [eC,eC]
  have hp:decide (POk c.aK p)=(decide (0≤p.aK∧p.aK≤c.aK) && (decide (0≤p.Seen∧p.Seen≤2) && (p.On || decide (p=⟨false,0,false,0⟩)))):=by
    rw [Bool.eq_iff_iff];simp only [POk,decide_eq_true_eq,Bool.and_eq_true,Bool.or_eq_true]
    by_cases h:p.On=true
    · simp [h]
    · simp [(by simpa using h:p.On=false)]
  rw [hp]
  generalize decide (0≤p.aK∧p.aK≤c.aK)=b1
  generalize decide (0≤p.Seen∧p.Seen≤2)=b2
  generalize decide (p=⟨false,0,false,0⟩)=b3
  generalize p.On=b4
  cases b1 <;> cases b2 <;> cases b3 <;> cases b4 <;> rfl
theorem aGD{l:List eX}(hl:l.length≤maxLen)(f:eX→Bool):i5 l (fun x=>some (f x))=some (l.any f):=by
  unfold i5 sT
  have key:∀k:Nat,k≤l.length→loop (fT l (fun x=>some (f x))) (k:Int)=some (if (l.drop k).any f then Out.ret ((k+(l.drop k).findIdx f:Nat):Int) else Out.brk ()):=by
    refine aFC l.length _ fun k hk=>?_
    by_cases h3:k < l.length
    · have hd:l.drop k=l[k] :: l.drop (k+1):=List.drop_eq_getElem_cons h3
      simp only [fT]
      rw [if_pos (by simp;omega),aU h3,jR (uY h3 hl),hd]
      simp only [aG,List.any_cons,List.findIdx_cons]
      by_cases h4:f l[k]=true
      · left;simp [h4]
      · right
        have h4:f l[k]=false:=by simpa using h4
        refine⟨h3,by simp [h4],?_⟩
        simp only [h4,Bool.false_or,cond_false]
        congr 2;omega
    · left
      obtain rfl:k=l.length:=by omega
      simp [fT]
  have t0:loop (fT l (fun x=>some (f x))) 0=_:=key 0 (by omega)
  rw [t0]
  simp only [List.drop_zero]
  by_cases h:l.any f=true
  · simp [h,nT]
  · have h:l.any f=false:=by simpa using h
    simp [h,nT,yV]
theorem qT{c:aI}(hc:c.aX.length≤maxLen):mE c=some (decide (JK c)):=by
  unfold mE qO
  rw [eC]
  have e:(fun y0=>sU y0 c)=fun y0=>some (!decide (POk c.aK y0)):=funext fun y=>aH1 y c
  rw [e,aGD hc]
  by_cases h1:0≤c.aK∧c.aK≤100000
  · by_cases h2:c.aX.length=3
    · have:JK c↔∀p∈c.aX,POk c.aK p:=⟨fun h=>h.2.2,fun h=>⟨h1,h2,h⟩⟩
      have e2:(c.aX.any fun y0=>!decide (POk c.aK y0))=!decide (∀p∈c.aX,POk c.aK p):=by
        rw [Bool.eq_iff_iff];simp
      simp [h1,h2,this,e2]
    · have:¬(c.aX.length:Int)=3:=by omega
      simp [h1,this,h2,JK]
  · simp [h1,JK]
end Go.Gv
end
