import Derived.Test.YtabnjpbikjfhoaaGreatXOE
set_option linter.unusedVariables false
set_option linter.unusedSimpArgs false
set_option linter.unusedSectionVars false
set_option linter.constructorNameAsVariable false
set_option linter.unnecessarySimpa false
noncomputable section
set_option maxHeartbeats 4000000
set_option maxRecDepth 100000
namespace Go.Proofs.YtabnjpbikjfhoaaGreat
open Go.Gv Tryz
noncomputable section
variable {κ:Ctx}
theorem ZL{c:aD}{w_ e_:Int}{s1:AC}(h1:bB κ s1 c.b9):VS prog κ 314 (QN c w_ e_) [.g [I c.aJ,.h s1 c.b9.length],I w_,I e_] [] [] (fun r (y:AC)=>.t [.g [I r.1.aJ,.h y r.1.b9.length],.b r.2]) (fun r y=>[ow y r.1.b9]):=
 c9 tok call314 func314 results314 Q Q<|c1 Q (fun h=>yG (h.a h1)) fun x1 s2=>cV 0 3 (zL w_ e_ x1) [1,2,6,8] 25 [1,2,3] Q (c0 Q (fun h=>wS (h.a h1)) fun x4=>eA [13,14] Q Q (bR [1,2,3] Q Q)<|c0 Q (fun _=>gW) fun x5=>eA [17,18,19] Q Q (bR [1,2,3] Q Q)<|c0 Q (fun _=>cA) fun x6=>bR [1,2,3] Q Q) fun x2=>bU [25] Q Q (oL s2 [1] Q Q)<|uF PJ 1 Q Q Q fun x3 h2 _ h3=>fun hF=>m6 3 h3 h2 Q Q Q Q Q<|sR Q<|rX PJ 3 [] [28] (⟨true,e_,false,0⟩:pQ) () Q Q Q Q Q Q Q Q<|CX s2 dM.symm [(33,1)] [(0,1),(2,1)] Q Q Q<|fR Q Q<|rW (hT:=tok) s2 [6] hF Q results314 Q Q Q Q
theorem X0{s:Sub}{b:aA}{w_:Int}{s1 s2 s3 s4 s5 s6 s7:AC}{b0 b1:Nat×Nat}:VS prog κ 254 (xN s b w_) [.p 0 0,.p 1 0,I w_] [b0,b1] ([.box 0 [I s.Kind,I s.A,I s.Pc,I s.E,I s.Row,I s.B,I s.H,I s.Out,I s.Code,.b s.cZ],.box 1 (gB b s1 s2 s3 s4 s5 s6 s7)]++(oB b s1 s2 s3 s4 s5 s6 s7 [])) (fun(r:Sub×aA) (y:AC)=>.t []) (fun(r:Sub×aA) (y:AC)=>([.box 0 [I r.1.Kind,I r.1.A,I r.1.Pc,I r.1.E,I r.1.Row,I r.1.B,I r.1.H,I r.1.Out,I r.1.Code,.b r.1.cZ],.box 1 (gB r.2 s1 s2 s3 s4 y s6 s7)]++(oB r.2 s1 s2 s3 s4 y s6 s7 []))):=
 c9 tok call254 func254 results254 Q Q<|bU [14,15] Q Q (ON s5 [0,1,2,3,4,5,6,7,8] Q Q)<|bU [27,28] Q Q (jC 0 3 (fun(p:Bool×Int×(List pQ))=>yX s b p.1 p.2.1 p.2.2) [0,1] (fun(p:Bool×Int×(List pQ)) (s8:AC)=>[(6,.p 2 0),(7,.b p.1)]) [0,2,3,4,5,6,7,8,1] (fun p s8=>[ow s8 (p.2.2:List pQ),.box 2 [I p.2.1,.h s8 p.2.2.length]]) Q (pP aP [0,1] Q<|fun hF=>bd hF fun x5 hA1 hF=>j8 Q Q (have hq1:=rb hA1;wi hq1<|c1 Q (fun h=>ZL (h.o 6 Q)) fun u1 s10=>fun hq1=>match u1,hq1 with | _,rfl=>wi hF<|pG (p:=(x5.2,x5.1.aJ,x5.1.b9)) s10 [9,10,0,2,3,4,5,6,7,8,1] Q Q) (have hq2:=rb hA1;wi hq2<|c1 Q (fun h=>ZL (h.o 6 Q)) fun u2 s11=>fun hq2=>match u2,hq2 with | _,rfl=>wi hF<|pG (p:=(x5.2,x5.1.aJ,x5.1.b9)) s11 [10,9,0,2,3,4,5,6,7,8,1] Q Q)) fun⟨x1,x2,x3⟩ s8=>bU [43] Q Q (dW 2 0 0 10 [] Q Q Q Q Q (fun _=>cS) fun x4 _=>oL s5 [2,10,3,4,5,6,7,8,9] Q Q)<|ON s8 [2,10,3,4,5,6,0,8,9] Q Q)<|bU [53,54] Q Q (pP aP [0,1] Q<|bU [64] Q Q (dW 0 0 0 10 [] Q Q Q Q Q (fun _=>cS) fun x6 _=>ON s5 [0,1,2,3,4,5,6,7,8] Q Q)<|ON s5 [0,1,2,3,4,5,6,7,8] Q Q)<|dW 0 0 0 10 [] Q Q Q Q Q (fun _=>cS) fun x7 _=>ON s5 [0,1,2,3,4,5,6,7,8] Q Q
theorem oG{s:Sub}{b:aA}{w_:Int}{s1 s2 s3 s4 s5 s6 s7:AC}{b0 b1:Nat×Nat}:VS prog κ 184 (lA s b w_) [.p 0 0,.p 1 0,I w_] [b0,b1] ([.box 0 [I s.Kind,I s.A,I s.Pc,I s.E,I s.Row,I s.B,I s.H,I s.Out,I s.Code,.b s.cZ],.box 1 (gB b s1 s2 s3 s4 s5 s6 s7)]++(oB b s1 s2 s3 s4 s5 s6 s7 [])) (fun(r:Sub×aA) (y:A6C)=>.t []) (fun(r:Sub×aA) (y:A6C)=>([.box 0 [I r.1.Kind,I r.1.A,I r.1.Pc,I r.1.E,I r.1.Row,I r.1.B,I r.1.H,I r.1.Out,I r.1.Code,.b r.1.cZ],.box 1 (gB r.2 y.1 y.2.1 y.2.2.1 y.2.2.2.1 y.2.2.2.2.1 y.2.2.2.2.2 s7)]++(oB r.2 y.1 y.2.1 y.2.2.1 y.2.2.2.1 y.2.2.2.2.1 y.2.2.2.2.2 s7 []))):=
 c9 tok call184 func184 results184 Q Q<|bU [9] Q Q (oL (s1,s2,s3,s4,s5,s6) [0,1,2,3,4,5,6,7,8] Q Q)<|bU [16,17] Q Q (aB8 0 0 0 10 1 1 0 8 [2,3,4,5,6,7,8] Q Q Q Q Q (fun _=>UG) fun x1 s8=>ON (s8.1,s8.2.1,s8.2.2.1,s8.2.2.2,s5,s6) [0,1,9,10,11,12,13,14,15] Q Q)<|bU [22,23] Q Q (aB8 0 0 0 10 1 1 0 8 [2,3,4,5,6,7,8] Q Q Q Q Q (fun _=>S2) fun x2 s9=>ON (s1,s2,s3,s4,s5,s9) [0,1,9,10,11,12,13,14,15] Q Q)<|bU [28,29] Q Q (aB8 0 0 0 10 1 1 0 8 [2,3,4,5,6,7,8] Q Q Q Q Q (fun _=>Q9) fun x3 s10=>ON (s1,s2,s3,s4,s10,s6) [0,1,9,10,11,12,13,14,15] Q Q)<|bU [33,34] Q Q (aB8 0 0 0 10 1 1 0 8 [2,3,4,5,6,7,8] Q Q Q Q Q (fun _=>RB) fun x4 s11=>ON (s11.1,s11.2.1,s11.2.2.1,s11.2.2.2.1,s5,s11.2.2.2.2) [0,1,9,10,11,12,13,14,15] Q Q)<|bU [39,40] Q Q (aB8 0 0 0 10 1 1 0 8 [2,3,4,5,6,7,8] Q Q Q Q Q (fun _=>X0) fun x5 s12=>ON (s1,s2,s3,s4,s12,s6) [0,1,9,10,11,12,13,14,15] Q Q)<|dW 0 0 0 10 [] Q Q Q Q Q (fun _=>cS) fun x6 _=>ON (s1,s2,s3,s4,s5,s6) [0,1,2,3,4,5,6,7,8] Q Q
theorem fT{j:bE}{pc:Int}{b0:Nat×Nat}:VS prog κ 185 (dI j pc) [.p 0 0,I pc] [b0] [.box 0 [.b j.eT,I j.Op.Kind,I j.Op.Cell,I j.Op.iI,I j.Op.dQ,I j.aI,I j.Pc,I j.Sub.Kind,I j.Sub.A,I j.Sub.Pc,I j.Sub.E,I j.Sub.Row,I j.Sub.B,I j.Sub.H,I j.Sub.Out,I j.Sub.Code,.b j.Sub.cZ,I j.H,I j.Old,I j.dQ,I j.Code]] (fun(r:bE) (y:Unit)=>.t []) (fun(r:bE) (y:Unit)=>[.box 0 [.b r.eT,I r.Op.Kind,I r.Op.Cell,I r.Op.iI,I r.Op.dQ,I r.aI,I r.Pc,I r.Sub.Kind,I r.Sub.A,I r.Sub.Pc,I r.Sub.E,I r.Sub.Row,I r.Sub.B,I r.Sub.H,I r.Sub.Out,I r.Sub.Code,.b r.Sub.cZ,I r.H,I r.Old,I r.dQ,I r.Code]]):=
 c9 tok call185 func185 results185 Q Q<|ON () [0] Q Q
theorem aGM{slot c:Int}:V0 prog κ 141 (J2 slot c) [I slot,I c] I:=
 c9 tok call141 func141 results141 Q Q<|c0 Q (fun _=>sQ) fun x1=>bU [10] Q Q (cM Q Q)<|cM Q Q
theorem UI{slot c:Int}:V0 prog κ 76 (xO slot c) [I slot,I c] (fun r=>.g [I r.GK,I r.To]):=
 c9 tok call76 func76 results76 Q Q<|c0 Q (fun _=>aGM) fun x1=>bU [10] Q Q (cM Q Q)<|c0 Q (fun _=>N9) fun x2=>cM Q Q
theorem FB{h:aC}{slot at_ width:Int}{s1 s2:AC}(h1:bB κ s1 h.Bytes)(h2:bB κ s2 h.Class):V0 prog κ 259 (xP h slot at_ width) [.g [.h s1 h.Bytes.length,.h s2 h.Class.length],I slot,I at_,I width] I:=
 c9 tok call259 func259 results259 Q Q<|c0 Q (fun h=>rH (h.a h1) (h.a h2)) fun x1=>c0 Q (fun _=>UI) fun x2=>c0 Q (fun _=>cA) fun x3=>bU [24] Q Q (cM Q Q)<|cM Q Q
theorem aI5{m:Mem}{h at_ width:Int}{s1 s2 s3 s4:AC}(h1:bB κ s1 m.aC.Bytes)(h2:bB κ s2 m.aC.Class)(h3:bB κ s3 m.aB.Global)(h4:bB κ s4 m.aB.Own):V0 prog κ 257 (TW m h at_ width) [.g (gM m s1 s2 s3 s4),I h,I at_,I width] (fun r=>.t [I r.1,I r.2]):=
 c9 tok call257 func257 results257 Q Q<|cV 0 1 (D9 m h at_ width) [1,2,3,4] 11 [0] Q (c0 Q (fun h=>ZG (h.a h1) (h.a h2) (h.a h3) (h.a h4)) fun x5=>eA [14,15] Q Q (bR [0] Q Q)<|c0 Q (fun _=>LK) fun x6=>bR [0] Q Q) fun x1=>bU [11] Q Q (cM Q Q)<|c0 Q (fun h=>AU (h.a h1) (h.a h2) (h.a h3) (h.a h4)) fun x2=>bU [20,24] Q Q (cM Q Q)<|c0 Q (fun h=>FB (h.a h1) (h.a h2)) fun x3=>bU [33] Q Q (cM Q Q)<|c0 Q (fun h=>E7 (h.a h1)) fun x4=>cM Q Q
theorem lF{m:Mem}{h at_ width n:Int}{s1 s2 s3 s4:AC}(h1:bB κ s1 m.aC.Bytes)(h2:bB κ s2 m.aC.Class)(h3:bB κ s3 m.aB.Global)(h4:bB κ s4 m.aB.Own):VS prog κ 186 (J3 m h at_ width n) [.g (gM m s1 s2 s3 s4),I h,I at_,I width,I n] [] [] (fun r (y:A4C)=>.t [.g (yM r.1 y),I r.2]) (fun r y=>(zM r.1 y [])):=
 c9 tok call186 func186 results186 Q Q<|c1 Q (fun h=>aGF (h.a h1) (h.a h2) (h.a h3) (h.a h4)) fun x1 s5=>c0 Q (fun _=>sS) fun x2=>c0 Q (fun h=>aI5 (h.a h1) (h.a h2) (h.a h3) (h.a h4)) fun x3=>bU [30] Q Q (oL s5 [2,3,4,5] Q Q)<|bU [34] Q Q (oL s5 [2,3,4,5] Q Q)<|jC 0 3 R0 [10,12] (fun(x4:Mem) (_:Unit)=>[]) [1] (fun x4 _=>(zM x4 s5 [.box 2 (yM x4 s5)])) Q (pP aP [0,1] Q<|fun hF=>bd hF fun x5 hA1 hF=>bd hF fun x6 hA2 hF=>j8 Q Q (have hq1:=rb hA1;wi hq1<|c0 Q (fun h=>FB (h.a h1) (h.a h2)) fun u1=>fun hq1=>match u1,hq1 with | _,rfl=>have hq2:=rb hA2;wi hq2<|QG [2] Q Q Q Q (fun _=>mT) fun u2 _=>fun hq2=>un 7 [38] [(17,0)] [(6,0)] Q Q Q Q Q Q fun hl2=>match u2,hq2 with | _,rfl=>wi hF<|bR (p:=((⟨(⟨x6,x1.aC.Class⟩:aC),x1.aB⟩:Mem))) [7,3,4,5,6,1] Q Q) (have hq3:=rb hA1;wi hq3<|c0 Q (fun h=>FB (h.a h1) (h.a h2)) fun u3=>fun hq3=>match u3,hq3 with | _,rfl=>have hq4:=rb hA2;wi hq4<|QG [2] Q Q Q Q (fun _=>mT) fun u4 _=>fun hq4=>un 7 [38] [(17,0)] [(6,0)] Q Q Q Q Q Q fun hl3=>match u4,hq4 with | _,rfl=>wi hF<|bR (p:=((⟨(⟨x6,x1.aC.Class⟩:aC),x1.aB⟩:Mem))) [7,3,4,5,6,1] Q Q)) fun x4 _=>oL s5 [0,1,2,3] Q Q
theorem aA8{s:aG}{w_:Int}{s1 s2 s3 s4 s5 s6 s7 s8 s9 s10 s11:AC}{b0:Nat×Nat}:VS prog κ 111 (ED s w_) [.p 0 0,I w_] [b0] ([.box 0 (gS s s1 s2 s3 s4 s5 s6 s7 s8 s9 s10 s11)]++(oS s s1 s2 s3 s4 s5 s6 s7 s8 s9 s10 s11 [])) (fun(r:aG) (y:A7C)=>.t []) (fun(r:aG) (y:A7C)=>([.box 0 (gS r y.1 y.2.1 y.2.2.1 y.2.2.2.1 y.2.2.2.2.1 y.2.2.2.2.2.1 s7 s8 s9 s10 y.2.2.2.2.2.2)]++(oS r y.1 y.2.1 y.2.2.1 y.2.2.2.1 y.2.2.2.2.1 y.2.2.2.2.2.1 s7 s8 s9 s10 y.2.2.2.2.2.2 []))):=
 c9 tok call111 func111 results111 Q Q<|uF cG 9 Q Q Q fun x1 h1 _ h2=>fun hF=>m6 1 h2 h1 Q Q Q Q Q<|wi hF<|bU [19,20] Q Q (pP aP [14] Q<|aB8 13 1 7 10 0 0 0 8 [1,2,3,4,5,6,7] Q Q Q Q Q (fun _=>oG) fun x2 s12=>bU [39,45] Q Q (fun hF=>sF Q<|rX cG 12 [] [10] ({x1 with Sub:=x2.1}:bE) () Q Q Q Q Q Q Q Q<|CX s9 dM.symm [] [(0,9)] Q Q Q<|fR Q Q<|rW (hT:=tok) (s12.1,s12.2.1,s12.2.2.1,s12.2.2.2.1,s12.2.2.2.2.1,s12.2.2.2.2.2,s11) [0,15,16,17,18,19,20,21,8,22,10,11] hF Q results111 Q Q Q Q)<|bU [46,52] Q Q (dW 13 1 0 21 [] Q Q Q Q Q (fun _=>cE (j:=({x1 with Sub:=x2.1}:bE))) fun x3 _=>fun hF=>sF Q<|rX cG 12 [] [10] x3 () Q Q Q Q Q Q Q Q<|CX s9 dM.symm [] [(0,9)] Q Q Q<|fR Q Q<|rW (hT:=tok) (s12.1,s12.2.1,s12.2.2.1,s12.2.2.2.1,s12.2.2.2.2.1,s12.2.2.2.2.2,s11) [0,15,16,17,18,19,20,21,8,22,10,11] hF Q results111 Q Q Q Q)<|c0 Q (fun _=>oF) fun x4=>bU [60,67] Q Q (dW 13 1 0 21 [] Q Q Q Q Q (fun _=>cE (j:=({x1 with Sub:=x2.1}:bE))) fun x5 _=>fun hF=>sF Q<|rX cG 12 [] [10] x5 () Q Q Q Q Q Q Q Q<|CX s9 dM.symm [] [(0,9)] Q Q Q<|fR Q Q<|rW (hT:=tok) (s12.1,s12.2.1,s12.2.2.1,s12.2.2.2.1,s12.2.2.2.2.1,s12.2.2.2.2.2,s11) [0,15,16,17,18,19,20,21,8,22,10,11] hF Q results111 Q Q Q Q)<|dW 13 1 0 21 [] Q Q Q Q Q (fun _=>fT (j:=({x1 with Sub:=x2.1,H:=x2.1.Out}:bE))) fun x6 _=>fun hF=>sF Q<|rX cG 12 [] [10] x6 () Q Q Q Q Q Q Q Q<|CX s9 dM.symm [] [(0,9)] Q Q Q<|fR Q Q<|rW (hT:=tok) (s12.1,s12.2.1,s12.2.2.1,s12.2.2.2.1,s12.2.2.2.2.1,s12.2.2.2.2.2,s11) [0,15,16,17,18,19,20,21,8,22,10,11] hF Q results111 Q Q Q Q)<|bU [70,71] Q Q (jC 0 3 (fun(p:Int×Mem)=>EA s w_ p.1 p.2) [0,4] (fun(p:Int×Mem) (u:A4C)=>[(5,.p 2 0),(6,I p.1)]) [1,2,3,4,5,6,7,8,10,11,0,14] (fun p u=>([ow s9 (s.aX:List bE)]++(zM p.2 u [.box 2 (yM p.2 u)]))) Q (pP aP [0,14] Q<|fun hF=>bd hF fun x13 hA1 hF=>aWY Q Q (j8 Q Q (j8 Q Q (have hq1:=rb hA1;wi hq1<|c1 Q (fun h=>lF (h.o 1 Q) (h.o 2 Q) (h.o 3 Q) (h.o 4 Q)) fun u1 s18=>fun hq1=>match u1,hq1 with | _,rfl=>sF Q<|pS cG 12 [] h1 () Q Q Q Q Q Q Q<|uE (p:=(x13.2,x13.1)) s18 [20,15,16,17,18,19,1,2,3,4,5,6,7,8,10,11,0,14] hF Q) (have hq2:=rb hA1;wi hq2<|c1 Q (fun h=>lF (h.o 1 Q) (h.o 2 Q) (h.o 3 Q) (h.o 4 Q)) fun u2 s19=>fun hq2=>match u2,hq2 with | _,rfl=>sF Q<|pS cG 12 [] h1 () Q Q Q Q Q Q Q<|uE (p:=(x13.2,x13.1)) s19 [20,16,17,18,19,15,1,2,3,4,5,6,7,8,10,11,0,14] hF Q)) (have hq3:=rb hA1;wi hq3<|c1 Q (fun h=>lF (h.o 1 Q) (h.o 2 Q) (h.o 3 Q) (h.o 4 Q)) fun u3 s20=>fun hq3=>match u3,hq3 with | _,rfl=>sF Q<|pS cG 12 [] h1 () Q Q Q Q Q Q Q<|uE (p:=(x13.2,x13.1)) s20 [20,16,17,18,19,15,1,2,3,4,5,6,7,8,10,11,0,14] hF Q)) (j8 Q Q (j8 Q Q (have hq4:=rb hA1;wi hq4<|c1 Q (fun h=>lF (h.o 1 Q) (h.o 2 Q) (h.o 3 Q) (h.o 4 Q)) fun u4 s21=>fun hq4=>match u4,hq4 with | _,rfl=>sF Q<|pS cG 12 [] h1 () Q Q Q Q Q Q Q<|uE (p:=(x13.2,x13.1)) s21 [20,15,16,17,18,19,1,2,3,4,5,6,7,8,10,11,0,14] hF Q) (have hq5:=rb hA1;wi hq5<|c1 Q (fun h=>lF (h.o 1 Q) (h.o 2 Q) (h.o 3 Q) (h.o 4 Q)) fun u5 s22=>fun hq5=>match u5,hq5 with | _,rfl=>sF Q<|pS cG 12 [] h1 () Q Q Q Q Q Q Q<|uE (p:=(x13.2,x13.1)) s22 [20,16,17,18,19,15,1,2,3,4,5,6,7,8,10,11,0,14] hF Q)) (have hq6:=rb hA1;wi hq6<|c1 Q (fun h=>lF (h.o 1 Q) (h.o 2 Q) (h.o 3 Q) (h.o 4 Q)) fun u6 s23=>fun hq6=>match u6,hq6 with | _,rfl=>sF Q<|pS cG 12 [] h1 () Q Q Q Q Q Q Q<|uE (p:=(x13.2,x13.1)) s23 [20,16,17,18,19,15,1,2,3,4,5,6,7,8,10,11,0,14] hF Q)) (j8 Q Q (have hq7:=rb hA1;wi hq7<|c1 Q (fun h=>lF (h.o 1 Q) (h.o 2 Q) (h.o 3 Q) (h.o 4 Q)) fun u7 s24=>fun hq7=>match u7,hq7 with | _,rfl=>sF Q<|pS cG 12 [] h1 () Q Q Q Q Q Q Q<|uE (p:=(x13.2,x13.1)) s24 [20,16,17,18,19,15,1,2,3,4,5,6,7,8,10,11,0,14] hF Q) (have hq8:=rb hA1;wi hq8<|c1 Q (fun h=>lF (h.o 1 Q) (h.o 2 Q) (h.o 3 Q) (h.o 4 Q)) fun u8 s25=>fun hq8=>match u8,hq8 with | _,rfl=>sF Q<|pS cG 12 [] h1 () Q Q Q Q Q Q Q<|uE (p:=(x13.2,x13.1)) s25 [20,16,17,18,19,15,1,2,3,4,5,6,7,8,10,11,0,14] hF Q))) fun⟨x7,x8⟩ ⟨s13,s14,s15,s16⟩=>bU [91] Q Q (fun hF=>ro cG 0 17 1 Q Q Q Q hF fun x9 h3 hF _=>wi hF<|dW 19 1 0 21 [] Q Q Q Q Q (fun _=>cE) fun x10 _=>fun hF=>sR Q<|rX cG 18 [] [] x10 () Q Q Q Q Q Q Q Q<|CX s9 dM.symm [] [(16,9)] Q Q Q<|fR Q Q<|rW (hT:=tok) (s1,s2,s3,s4,s5,s6,s11) [16,6,7,8,9,10,11,12,13,21,14,15] hF Q results111 Q Q Q Q)<|fun hF=>ro cG 0 17 1 Q Q Q Q hF fun x11 h5 hF _=>wi hF<|dW 19 1 0 21 [] Q Q Q Q Q (fun _=>fT) fun x12 _=>fun hF=>sF Q<|rX cG 18 [] [] x12 () Q Q Q Q Q Q Q Q<|CX s9 dM.symm [] [(16,9)] Q Q Q<|fR Q Q<|rW (hT:=tok) (s13,s14,s15,s16,s5,s6,s11) [16,1,2,3,4,10,11,12,13,21,14,15] hF Q results111 Q Q Q Q)<|bU [102,103] Q Q (fun hF=>QD cG 12 [] h1 () Q Q Q Q Q Q Q Q Q<|wi hF<|pP aP [0,14] Q<|fun hF=>have hq9:=rb h1;ro cG 15 14 1 Q Q Q Q hq9 fun u9 h7 hq9 _=>match u9,hq9 with | _,rfl=>wi hF<|uF oI 8 Q Q Q fun x14 h9 _ h10=>fun hF=>m6 2 h10 h9 Q Q Q Q Q<|wi hF<|jC 0 3 (EC s w_ x1 x14) [0,1,4] (fun(x15:(List Int)) (_:Unit)=>[]) [1,2,3,4,5,6,7,10,11,14] (fun x15 _=>[ow s8 (x15:List Int),ow s9 (s.aX.set w_.toNat ({x1 with Old:=x14}:bE):List bE),.box 0 [.h s1 s.aA.Mem.aC.Bytes.length,.h s2 s.aA.Mem.aC.Class.length,.h s3 s.aA.Mem.aB.Global.length,.h s4 s.aA.Mem.aB.Own.length,I s.aA.aD.aJ,.h s5 s.aA.aD.b9.length,.h s6 s.aA.aO.length,.h s7 s.aA.l7.length,.h s8 x15.length,.h s9 (s.aX.set w_.toNat ({x1 with Old:=x14}:bE)).length,.h s10 s.dT.length,.h s11 s.Log.length,I s.aI]]) Q (fun hF=>QD oI 19 [] h9 () Q Q Q Q Q Q Q Q Q<|ceS cG 16 [] [10] ({x1 with Old:=x14}:bE) () Q Q Q Q Q Q Q Q Q Q<|rh s9 dM.symm [] [(0,9)] Q Q Q<|wi hF<|pP aP [0,14,18,21] Q<|fun hF=>bd hF fun x23 hA4 hF=>bd hF fun x24 hA5 hF=>j8 Q Q (have hq14:=rb hA4;ro cG 23 14 1 Q Q Q Q hq14 fun u14 h23 hq14 _=>match u14,hq14 with | _,rfl=>have hq15:=rb hA5;wi hq15<|uF oI 22 Q Q Q fun u15 h25 _ h26=>fun hq15=>m6 3 h26 h25 Q Q Q Q Q<|match u15,hq15 with | _,rfl=>sF Q<|rX oI 27 [] [108,121] x23.H () Q Q Q Q Q Q Q Q<|CX s8 dM.symm [] [(0,8)] Q Q Q<|pS cG 24 [] h23 () Q Q Q Q Q Q Q<|fR Q Q<|uE (p:=(s.Cells.set x23.Op.Cell.toNat x23.H)) () [30,31,0,1,2,3,4,5,6,7,10,11,14] hF Q) (have hq16:=rb hA4;ro cG 23 14 1 Q Q Q Q hq16 fun u16 h27 hq16 _=>match u16,hq16 with | _,rfl=>have hq17:=rb hA5;wi hq17<|uF oI 22 Q Q Q fun u17 h29 _ h30=>fun hq17=>m6 3 h30 h29 Q Q Q Q Q<|match u17,hq17 with | _,rfl=>sF Q<|rX oI 27 [] [108,121] x23.H () Q Q Q Q Q Q Q Q<|CX s8 dM.symm [] [(0,8)] Q Q Q<|pS cG 24 [] h27 () Q Q Q Q Q Q Q<|fR Q Q<|uE (p:=(s.Cells.set x23.Op.Cell.toNat x23.H)) () [30,31,0,1,2,3,4,5,6,7,10,11,14] hF Q)) fun x15 _=>jC 0 3 (EB w_) [0,4] (fun(x16:aG) (s26:AC)=>[]) [12] (fun x16 s26=>(oS x16 s1 s2 s3 s4 s5 s6 s7 s8 s9 s10 s26 [.box 0 (gS x16 s1 s2 s3 s4 s5 s6 s7 s8 s9 s10 s26)])) Q (pP aP [12] Q<|fun hF=>bd hF fun x21 hA2 hF=>bd hF fun x22 hA3 hF=>j8 Q Q (have hq10:=rb hA2;ro cG 1 12 1 Q Q Q Q hq10 fun u10 h15 hq10 _=>match u10,hq10 with | _,rfl=>QD cG 13 [] h15 () Q Q Q Q Q Q Q Q Q<|have hq11:=rb hA3;wi hq11<|dW 2 0 0 13 [3,4,5,6,7,8,9,0,16,10,11] Q Q Q Q Q (fun _=>jY (s:=({s with Cells:=x15,aX:=s.aX.set w_.toNat ({x1 with Old:=x14}:bE)}:aG))) fun u11 s28=>fun hq11=>match u11,hq11 with | _,rfl=>wi hF<|pG (p:=(x22)) s28 [17,18,19,20,21,22,23,24,25,26,27,2,12] Q Q) (have hq12:=rb hA2;ro cG 1 12 1 Q Q Q Q hq12 fun u12 h17 hq12 _=>match u12,hq12 with | _,rfl=>QD cG 13 [] h17 () Q Q Q Q Q Q Q Q Q<|have hq13:=rb hA3;wi hq13<|dW 2 0 0 13 [3,4,5,6,7,8,9,0,16,10,11] Q Q Q Q Q (fun _=>jY (s:=({s with Cells:=x15,aX:=s.aX.set w_.toNat ({x1 with Old:=x14}:bE)}:aG))) fun u13 s29=>fun hq13=>match u13,hq13 with | _,rfl=>wi hF<|pG (p:=(x22)) s29 [17,18,19,20,21,22,23,24,25,26,27,2,12] Q Q)) fun x16 s26=>fun hF=>ro cG 8 12 1 Q Q Q Q hF fun x17 h11 hF _=>wi hF<|bU [148] Q Q (dW 14 1 0 21 [] Q Q Q Q Q (fun _=>cE) fun x18 _=>fun hF=>sR Q<|rX cG 13 [] [] x18 () Q Q Q Q Q Q Q Q<|CX s9 dM.symm [] [(11,9)] Q Q Q<|fR Q Q<|rW (hT:=tok) (s1,s2,s3,s4,s5,s6,s26) [11,0,1,2,3,4,5,6,7,16,9,10] hF Q results111 Q Q Q Q)<|c0 Q (fun _=>AV) fun x19=>dW 14 1 0 21 [] Q Q Q Q Q (fun _=>fT (j:=({x17 with Sub:=x19}:bE))) fun x20 _=>fun hF=>sF Q<|rX cG 13 [] [] x20 () Q Q Q Q Q Q Q Q<|CX s9 dM.symm [] [(11,9)] Q Q Q<|fR Q Q<|rW (hT:=tok) (s1,s2,s3,s4,s5,s6,s26) [11,0,1,2,3,4,5,6,7,16,9,10] hF Q results111 Q Q Q Q)<|bU [161,162] Q Q (pP aP [14] Q<|aB8 13 1 7 10 0 0 0 8 [1,2,3,4,5,6,7] Q Q Q Q Q (fun _=>oG) fun x25 s30=>bU [175] Q Q (dW 13 1 0 21 [] Q Q Q Q Q (fun _=>cE (j:=({x1 with Sub:=x25.1}:bE))) fun x26 _=>fun hF=>sF Q<|rX cG 12 [] [10] x26 () Q Q Q Q Q Q Q Q<|CX s9 dM.symm [] [(0,9)] Q Q Q<|fR Q Q<|rW (hT:=tok) (s30.1,s30.2.1,s30.2.2.1,s30.2.2.2.1,s30.2.2.2.2.1,s30.2.2.2.2.2,s11) [0,15,16,17,18,19,20,21,8,22,10,11] hF Q results111 Q Q Q Q)<|fun hF=>sF Q<|rX cG 12 [] [10] ({x1 with Sub:=x25.1}:bE) () Q Q Q Q Q Q Q Q<|CX s9 dM.symm [] [(0,9)] Q Q Q<|fR Q Q<|rW (hT:=tok) (s30.1,s30.2.1,s30.2.2.1,s30.2.2.2.1,s30.2.2.2.2.1,s30.2.2.2.2.2,s11) [0,15,16,17,18,19,20,21,8,22,10,11] hF Q results111 Q Q Q Q)<|dW 13 1 0 21 [] Q Q Q Q Q (fun _=>cE) fun x27 _=>fun hF=>sF Q<|rX cG 12 [] [10] x27 () Q Q Q Q Q Q Q Q<|CX s9 dM.symm [] [(0,9)] Q Q Q<|fR Q Q<|rW (hT:=tok) (s1,s2,s3,s4,s5,s6,s11) [0,1,2,3,4,5,6,7,8,15,10,11] hF Q results111 Q Q Q Q
theorem PO{s:aG}{w_:Int}{s1 s2 s3 s4 s5 s6 s7 s8 s9 s10 s11:AC}{b0:Nat×Nat}:VS prog κ 187 (vZ s w_) [.p 0 0,I w_] [b0] ([.box 0 (gS s s1 s2 s3 s4 s5 s6 s7 s8 s9 s10 s11)]++(oS s s1 s2 s3 s4 s5 s6 s7 s8 s9 s10 s11 [])) (fun(r:aG) (y:AC)=>.t []) (fun(r:aG) (y:AC)=>([.box 0 (gS r s1 s2 s3 s4 s5 s6 s7 s8 s9 s10 y)]++(oS r s1 s2 s3 s4 s5 s6 s7 s8 s9 s10 y []))):=
 c9 tok call187 func187 results187 Q Q<|uF cG 9 Q Q Q fun x1 h1 _ h2=>fun hF=>m6 1 h2 h1 Q Q Q Q Q<|QD cG 12 [] h1 () Q Q Q Q Q Q Q Q Q<|wi hF<|pP aP [0,14] Q<|fun hF=>have hq1:=rb h1;ro cG 15 14 1 Q Q Q Q hq1 fun u1 h3 hq1 _=>match u1,hq1 with | _,rfl=>wi hF<|uF oI 8 Q Q Q fun x2 h5 _ h6=>fun hF=>m6 2 h6 h5 Q Q Q Q Q<|QD oI 19 [] h5 () Q Q Q Q Q Q Q Q Q<|ceS cG 16 [] [8] ({x1 with H:=x2}:bE) () Q Q Q Q Q Q Q Q Q Q<|rh s9 dM.symm [] [(0,9)] Q Q Q<|wi hF<|dW 0 0 0 13 [1,2,3,4,5,6,7,22,23,10,11] Q Q Q Q Q (fun _=>jY (s:=({s with aX:=s.aX.set w_.toNat ({x1 with H:=x2}:bE)}:aG))) fun x3 s12=>ON s12 [0,24,25,26,27,28,29,30,31,32,33,34] Q Q
theorem aGN{b:aA}{h at_ width:Int}{s1 s2 s3 s4 s5 s6 s7:AC}(h1:bB κ s1 b.Mem.aC.Bytes)(h2:bB κ s2 b.Mem.aC.Class)(h3:bB κ s3 b.Mem.aB.Global)(h4:bB κ s4 b.Mem.aB.Own)(h5:bB κ s5 b.aD.b9)(h6:bB κ s6 b.aO)(h7:bB κ s7 b.l7):V0 prog κ 260 (J4 b h at_ width) [.g (gB b s1 s2 s3 s4 s5 s6 s7),I h,I at_,I width] (fun r=>.t [I r.1,.b r.2]):=
 c9 tok call260 func260 results260 Q Q<|cV 0 2 (tD b h at_ width) [1,2,3,10] 29 [1] Q (c0 Q (fun _=>oF) fun x4=>eA [17,18] Q Q (bR [1] Q Q)<|c0 Q (fun h=>wR (h.a h1) (h.a h2)) fun x5=>eA [23,24,25] Q Q (bR [1] Q Q)<|c0 Q (fun _=>LK) fun x6=>bR [1] Q Q) fun x1=>bU [29] Q Q (cM Q Q)<|c0 Q (fun h=>FB (h.a h1) (h.a h2)) fun x2=>bU [37] Q Q (cM Q Q)<|c0 Q (fun h=>E7 (h.a h1)) fun x3=>cM Q Q
theorem FC{s:aG}{w_:Int}{s1 s2 s3 s4 s5 s6 s7 s8 s9 s10 s11:AC}{b0:Nat×Nat}:VS prog κ 188 (lZ s w_) [.p 0 0,I w_] [b0] ([.box 0 (gS s s1 s2 s3 s4 s5 s6 s7 s8 s9 s10 s11)]++(oS s s1 s2 s3 s4 s5 s6 s7 s8 s9 s10 s11 [])) (fun(r:aG) (y:Unit)=>.t []) (fun(r:aG) (y:Unit)=>([.box 0 (gS r s1 s2 s3 s4 s5 s6 s7 s8 s9 s10 s11)]++(oS r s1 s2 s3 s4 s5 s6 s7 s8 s9 s10 s11 []))):=
 c9 tok call188 func188 results188 Q Q<|pP aP [0] Q<|uF cG 9 Q Q Q fun x1 h1 _ h2=>fun hF=>m6 1 h2 h1 Q Q Q Q Q<|wi hF<|c0 Q (fun h=>aGN (h.o 1 Q) (h.o 2 Q) (h.o 3 Q) (h.o 4 Q) (h.o 5 Q) (h.o 6 Q) (h.o 7 Q)) fun x2=>fun hF=>m6 1 h2 h1 Q Q Q Q Q<|sF Q<|rX cG 12 [] [8,17] ({x1 with dQ:=x2.1}:bE) () Q Q Q Q Q Q Q Q<|CX s9 dM.symm [] [(0,9)] Q Q Q<|fR Q Q<|rW (hT:=tok) () [0,1,2,3,4,5,6,7,8,15,10,11] hF Q results188 Q Q Q Q
theorem IL{p:pQ}:V0 prog κ 66 (kS p) [.g [.b p.On,I p.aJ,.b p.dB,I p.Seen]] .b:=
 c9 tok call66 func66 results66 Q Q<|cV 0 1 iW [] 2 [] Q (eA [4,5] Q Q (bR [] Q Q)<|bR [] Q Q) fun x1=>cM Q Q
theorem F7{s:aG}{w_ pc:Int}{s1 s2 s3 s4 s5 s6 s7 s8 s9 s10 s11:AC}{b0:Nat×Nat}:VS prog κ 189 (mB s w_ pc) [.p 0 0,I w_,I pc] [b0] ([.box 0 (gS s s1 s2 s3 s4 s5 s6 s7 s8 s9 s10 s11)]++(oS s s1 s2 s3 s4 s5 s6 s7 s8 s9 s10 s11 [])) (fun(r:aG) (y:Unit)=>.t []) (fun(r:aG) (y:Unit)=>([.box 0 (gS r s1 s2 s3 s4 s5 s6 s7 s8 s9 s10 s11)]++(oS r s1 s2 s3 s4 s5 s6 s7 s8 s9 s10 s11 []))):=
 c9 tok call189 func189 results189 Q Q<|uF cG 9 Q Q Q fun x1 h1 _ h2=>fun hF=>m6 1 h2 h1 Q Q Q Q Q<|wi hF<|dW 13 1 0 21 [] Q Q Q Q Q (fun _=>fT) fun x2 _=>uF PJ 5 Q Q Q fun x3 h3 _ h4=>fun hF=>m6 2 h4 h3 Q Q Q Q Q<|wi hF<|c0 Q (fun _=>IL) fun x4=>bU [26] Q Q (fun hF=>sF Q<|pS PJ 15 [] h3 () Q Q Q Q Q Q Q<|rX cG 12 [] [10] ({x2 with dQ:=0,Code:=6}:bE) () Q Q Q Q Q Q Q Q<|CX s9 dM.symm [] [(0,9)] Q Q Q<|fR Q Q<|rW (hT:=tok) () [0,1,2,3,4,18,6,7,8,19,10,11] hF Q results189 Q Q Q Q)<|fun hF=>sF Q<|pS PJ 15 [] h3 () Q Q Q Q Q Q Q<|rX cG 12 [] [10] x2 () Q Q Q Q Q Q Q Q<|CX s9 dM.symm [] [(0,9)] Q Q Q<|fR Q Q<|rW (hT:=tok) () [0,1,2,3,4,18,6,7,8,19,10,11] hF Q results189 Q Q Q Q
theorem aLI{c:aD}{w_:Int}{s1:AC}(h1:bB κ s1 c.b9):VS prog κ 261 (QO c w_) [.g [I c.aJ,.h s1 c.b9.length],I w_] [] [] (fun r (y:AC)=>.t [.g [I r.1.aJ,.h y r.1.b9.length],.b r.2]) (fun r y=>[ow y r.1.b9]):=
 c9 tok call261 func261 results261 Q Q<|c1 Q (fun h=>yG (h.a h1)) fun x1 s2=>cV 0 3 (zN w_ x1) [1,4,6] 25 [1,2,3] Q (c0 Q (fun h=>wS (h.a h1)) fun x4=>eA [11,12] Q Q (bR [1,2,3] Q Q)<|c0 Q (fun _=>gW) fun x5=>eA [15,16,17] Q Q (bR [1,2,3] Q Q)<|DG aN2 Q h1 Q fun x6 _ _=>bR [1,2,3] Q Q) fun x2=>bU [25] Q Q (oL s2 [1] Q Q)<|uF PJ 1 Q Q Q fun x3 h2 _ h3=>fun hF=>m6 3 h3 h2 Q Q Q Q Q<|sR Q<|rX PJ 3 [] [28] (⟨false,0,false,0⟩:pQ) () Q Q Q Q Q Q Q Q<|CX s2 dM.symm [(32,1)] [(0,1),(2,1)] Q Q Q<|fR Q Q<|rW (hT:=tok) s2 [6] hF Q results261 Q Q Q Q
theorem NH{b:aA}{w_:Int}{s1 s2 s3 s4 s5 s6 s7:AC}{b0:Nat×Nat}:VS prog κ 190 (tE b w_) [.p 0 0,I w_] [b0] ([.box 0 (gB b s1 s2 s3 s4 s5 s6 s7)]++(oB b s1 s2 s3 s4 s5 s6 s7 [])) (fun(r:Bool×aA) (y:AC)=>.b r.1) (fun(r:Bool×aA) (y:AC)=>([.box 0 (gB r.2 s1 s2 s3 s4 y s6 s7)]++(oB r.2 s1 s2 s3 s4 y s6 s7 []))):=
 c9 tok call190 func190 results190 Q Q<|c1 Q (fun h=>aLI (h.o 5 Q)) fun x1 s8=>oL s8 [0,1,2,3,4,8,6,7] Q Q
theorem aA9{s:aG}{w_:Int}{s1 s2 s3 s4 s5 s6 s7 s8 s9 s10 s11:AC}{b0:Nat×Nat}:VS prog κ 112 (EE s w_) [.p 0 0,I w_] [b0] ([.box 0 (gS s s1 s2 s3 s4 s5 s6 s7 s8 s9 s10 s11)]++(oS s s1 s2 s3 s4 s5 s6 s7 s8 s9 s10 s11 [])) (fun(r:aG) (y:A7C)=>.t []) (fun(r:aG) (y:A7C)=>([.box 0 (gS r y.1 y.2.1 y.2.2.1 y.2.2.2.1 y.2.2.2.2.1 y.2.2.2.2.2.1 s7 s8 s9 s10 y.2.2.2.2.2.2)]++(oS r y.1 y.2.1 y.2.2.1 y.2.2.2.1 y.2.2.2.2.1 y.2.2.2.2.2.1 s7 s8 s9 s10 y.2.2.2.2.2.2 []))):=
 c9 tok call112 func112 results112 Q Q<|uF cG 9 Q Q Q fun x1 h1 _ h2=>fun hF=>m6 1 h2 h1 Q Q Q Q Q<|wi hF<|bU [17,18] Q Q (pP aP [14] Q<|aB8 13 1 7 10 0 0 0 8 [1,2,3,4,5,6,7] Q Q Q Q Q (fun _=>oG) fun x2 s12=>bU [31] Q Q (dW 13 1 0 21 [] Q Q Q Q Q (fun _=>fT (j:=({x1 with Sub:=x2.1}:bE))) fun x3 _=>fun hF=>sF Q<|rX cG 12 [] [8] x3 () Q Q Q Q Q Q Q Q<|CX s9 dM.symm [] [(0,9)] Q Q Q<|fR Q Q<|rW (hT:=tok) (s12.1,s12.2.1,s12.2.2.1,s12.2.2.2.1,s12.2.2.2.2.1,s12.2.2.2.2.2,s11) [0,15,16,17,18,19,20,21,8,22,10,11] hF Q results112 Q Q Q Q)<|fun hF=>sF Q<|rX cG 12 [] [8] ({x1 with Sub:=x2.1}:bE) () Q Q Q Q Q Q Q Q<|CX s9 dM.symm [] [(0,9)] Q Q Q<|fR Q Q<|rW (hT:=tok) (s12.1,s12.2.1,s12.2.2.1,s12.2.2.2.1,s12.2.2.2.2.1,s12.2.2.2.2.2,s11) [0,15,16,17,18,19,20,21,8,22,10,11] hF Q results112 Q Q Q Q)<|bU [34,35] Q Q (fun hF=>QD cG 12 [] h1 () Q Q Q Q Q Q Q Q Q<|wi hF<|dW 0 0 0 13 [1,2,3,4,5,6,7,8,15,10,11] Q Q Q Q Q (fun _=>PO) fun x4 s13=>fun hF=>ro cG 24 14 1 Q Q Q Q hF fun x5 h3 hF _=>wi hF<|dW 28 1 0 21 [] Q Q Q Q Q (fun _=>fT) fun x6 _=>bU [45] Q Q (fun hF=>sF Q<|rX cG 27 [] [] ({x6 with Pc:=4,Code:=8}:bE) () Q Q Q Q Q Q Q Q<|CX s9 dM.symm [] [(0,9)] Q Q Q<|fR Q Q<|rW (hT:=tok) (s1,s2,s3,s4,s5,s6,s13) [0,16,17,18,19,20,21,22,23,30,25,26] hF Q results112 Q Q Q Q)<|fun hF=>sF Q<|rX cG 27 [] [] x6 () Q Q Q Q Q Q Q Q<|CX s9 dM.symm [] [(0,9)] Q Q Q<|fR Q Q<|rW (hT:=tok) (s1,s2,s3,s4,s5,s6,s13) [0,16,17,18,19,20,21,22,23,30,25,26] hF Q results112 Q Q Q Q)<|bU [52,53] Q Q (fun hF=>QD cG 12 [] h1 () Q Q Q Q Q Q Q Q Q<|wi hF<|dW 0 0 0 13 [1,2,3,4,5,6,7,8,15,10,11] Q Q Q Q Q (fun _=>FC) fun x7 _=>fun hF=>ro cG 24 14 1 Q Q Q Q hF fun x8 h5 hF _=>wi hF<|dW 28 1 0 21 [] Q Q Q Q Q (fun _=>fT) fun x9 _=>fun hF=>sF Q<|rX cG 27 [] [] x9 () Q Q Q Q Q Q Q Q<|CX s9 dM.symm [] [(0,9)] Q Q Q<|fR Q Q<|rW (hT:=tok) (s1,s2,s3,s4,s5,s6,s11) [0,16,17,18,19,20,21,22,23,30,25,26] hF Q results112 Q Q Q Q)<|bU [59,60] Q Q (fun hF=>QD cG 12 [] h1 () Q Q Q Q Q Q Q Q Q<|wi hF<|dW 0 0 0 13 [1,2,3,4,5,6,7,8,15,10,11] Q Q Q Q Q (fun _=>F7) fun x10 _=>ON (s1,s2,s3,s4,s5,s6,s11) [0,16,17,18,19,20,21,22,23,24,25,26] Q Q)<|bU [64,65] Q Q (dW 0 0 0 8 [1,2,3,4,5,6,7] Q Q Q Q Q (fun _=>NH) fun x11 s14=>dW 13 1 0 21 [] Q Q Q Q Q (fun _=>cE) fun x12 _=>fun hF=>sF Q<|rX cG 12 [] [8] x12 () Q Q Q Q Q Q Q Q<|CX s9 dM.symm [] [(0,9)] Q Q Q<|fR Q Q<|rW (hT:=tok) (s1,s2,s3,s4,s14,s6,s11) [0,15,16,17,18,19,20,21,8,22,10,11] hF Q results112 Q Q Q Q)<|dW 13 1 0 21 [] Q Q Q Q Q (fun _=>cE) fun x13 _=>fun hF=>sF Q<|rX cG 12 [] [8] x13 () Q Q Q Q Q Q Q Q<|CX s9 dM.symm [] [(0,9)] Q Q Q<|fR Q Q<|rW (hT:=tok) (s1,s2,s3,s4,s5,s6,s11) [0,1,2,3,4,5,6,7,8,15,10,11] hF Q results112 Q Q Q Q
theorem UJ{z:List Int}{w_ h:Int}{s1:AC}(h1:bB κ s1 z):VS prog κ 191 (J5 z w_ h) [.h s1 z.length,I w_,I h] [] [] (fun r (y:AC)=>.t [.h y r.1.length,.b r.2]) (fun r y=>[ow y r.1]):=
 c9 tok call191 func191 results191 Q Q<|c1 Q (fun h=>fS (h.a h1)) fun x1 s2=>cV 0 0 (tF w_ h x1) [1,2,8] 23 [0] Q (c0 Q (fun h=>Q7 (h.a h1)) fun x4=>eA [13,14] Q Q (bR [0] Q Q)<|c0 Q (fun _=>gW) fun x5=>eA [17,18,19] Q Q (bR [0] Q Q)<|c0 Q (fun _=>oF) fun x6=>bR [0] Q Q) fun x2=>bU [23] Q Q (oL s2 [0] Q Q)<|uF oI 0 Q Q Q fun x3 h2 _ h3=>fun hF=>m6 0 h3 h2 Q Q Q Q Q<|sR Q<|rX oI 1 [] [6,8,25,29] h () Q Q Q Q Q Q Q Q<|rW (hT:=tok) s2 [4] hF Q results191 Q Q Q Q
theorem aLJ{z:List Int}{w_:Int}{s1:AC}(h1:bB κ s1 z):VS prog κ 192 (QP z w_) [.h s1 z.length,I w_] [] [] (fun r (y:AC)=>.t [.h y r.1.length,.b r.2]) (fun r y=>[ow y r.1]):=
 c9 tok call192 func192 results192 Q Q<|c1 Q (fun h=>fS (h.a h1)) fun x1 s2=>cV 0 0 (zO w_ x1) [1,6] 23 [0] Q (c0 Q (fun h=>Q7 (h.a h1)) fun x4=>eA [11,12] Q Q (bR [0] Q Q)<|c0 Q (fun _=>gW) fun x5=>eA [15,16,17] Q Q (bR [0] Q Q)<|V5 Q h1 Q fun x6=>bR [0] Q Q) fun x2=>bU [23] Q Q (oL s2 [0] Q Q)<|uF oI 0 Q Q Q fun x3 h2 _ h3=>fun hF=>m6 0 h3 h2 Q Q Q Q Q<|sR Q<|rX oI 1 [] [4,6,25,28] 0 () Q Q Q Q Q Q Q Q<|rW (hT:=tok) s2 [4] hF Q results192 Q Q Q Q
theorem aBA{s:aG}{w_:Int}{s1 s2 s3 s4 s5 s6 s7 s8 s9 s10 s11:AC}{b0:Nat×Nat}:VS prog κ 113 (EH s w_) [.p 0 0,I w_] [b0] ([.box 0 (gS s s1 s2 s3 s4 s5 s6 s7 s8 s9 s10 s11)]++(oS s s1 s2 s3 s4 s5 s6 s7 s8 s9 s10 s11 [])) (fun(r:aG) (y:AC×AC)=>.t []) (fun(r:aG) (y:AC×AC)=>([.box 0 (gS r s1 s2 s3 s4 s5 s6 y.1 s8 s9 s10 y.2)]++(oS r s1 s2 s3 s4 s5 s6 y.1 s8 s9 s10 y.2 []))):=
 c9 tok call113 func113 results113 Q Q<|uF cG 9 Q Q Q fun x1 h1 _ h2=>fun hF=>m6 1 h2 h1 Q Q Q Q Q<|wi hF<|bU [17,18] Q Q (fun hF=>QD cG 12 [] h1 () Q Q Q Q Q Q Q Q Q<|wi hF<|pP aP [0,14] Q<|fun hF=>have hq1:=rb h1;ro cG 15 14 1 Q Q Q Q hq1 fun u1 h3 hq1 _=>match u1,hq1 with | _,rfl=>wi hF<|uF oI 8 Q Q Q fun x2 h5 _ h6=>fun hF=>m6 2 h6 h5 Q Q Q Q Q<|wi hF<|dW 17 1 0 21 [] Q Q Q Q Q (fun _=>fT (j:=({x1 with H:=x2}:bE))) fun x3 _=>bU [39] Q Q (fun hF=>QD oI 19 [] h5 () Q Q Q Q Q Q Q Q Q<|ceS cG 16 [] [8] x3 () Q Q Q Q Q Q Q Q Q Q<|rh s9 dM.symm [] [(0,9)] Q Q Q<|wi hF<|dW 0 0 0 13 [1,2,3,4,5,6,7,22,23,10,11] Q Q Q Q Q (fun _=>jY (s:=({s with aX:=s.aX.set w_.toNat x3}:aG))) fun x4 s12=>fun hF=>ro cG 32 14 1 Q Q Q Q hF fun x5 h7 hF _=>sF Q<|rX cG 35 [] [] ({x5 with Pc:=4,Code:=8}:bE) () Q Q Q Q Q Q Q Q<|CX s9 dM.symm [] [(0,9)] Q Q Q<|fR Q Q<|rW (hT:=tok) (s7,s12) [0,24,25,26,27,28,29,30,31,38,33,34] hF Q results113 Q Q Q Q)<|fun hF=>sF Q<|pS oI 19 [] h5 () Q Q Q Q Q Q Q<|rX cG 16 [] [8] x3 () Q Q Q Q Q Q Q Q<|CX s9 dM.symm [] [(0,9)] Q Q Q<|fR Q Q<|rW (hT:=tok) (s7,s11) [0,1,2,3,4,5,6,7,22,23,10,11] hF Q results113 Q Q Q Q)<|bU [49,50] Q Q (jC 0 2 (EF s w_) [0,4] (fun(x6:(List Int)) (s13:AC)=>[]) [1,2,3,4,5,6,8,10,11,14] (fun x6 s13=>[ow s13 (x6:List Int),ow s9 (s.aX:List bE),.box 0 [.h s1 s.aA.Mem.aC.Bytes.length,.h s2 s.aA.Mem.aC.Class.length,.h s3 s.aA.Mem.aB.Global.length,.h s4 s.aA.Mem.aB.Own.length,I s.aA.aD.aJ,.h s5 s.aA.aD.b9.length,.h s6 s.aA.aO.length,.h s13 x6.length,.h s8 s.Cells.length,.h s9 s.aX.length,.h s10 s.dT.length,.h s11 s.Log.length,I s.aI]]) Q (pP aP [14] Q<|fun hF=>bd hF fun x9 hA1 hF=>j8 Q Q (have hq2:=rb hA1;wi hq2<|c1 Q (fun h=>UJ (h.o 7 Q)) fun u2 s15=>fun hq2=>match u2,hq2 with | _,rfl=>sF Q<|pS cG 12 [] h1 () Q Q Q Q Q Q Q<|uE (p:=(x9.1)) s15 [15,16,0,1,2,3,4,5,6,8,10,11,14] hF Q) (have hq3:=rb hA1;wi hq3<|c1 Q (fun h=>UJ (h.o 7 Q)) fun u3 s16=>fun hq3=>match u3,hq3 with | _,rfl=>sF Q<|pS cG 12 [] h1 () Q Q Q Q Q Q Q<|uE (p:=(x9.1)) s16 [15,16,0,1,2,3,4,5,6,8,10,11,14] hF Q)) fun x6 s13=>fun hF=>ro cG 1 12 1 Q Q Q Q hF fun x7 h9 hF _=>wi hF<|dW 14 1 0 21 [] Q Q Q Q Q (fun _=>fT) fun x8 _=>fun hF=>sF Q<|rX cG 13 [] [] x8 () Q Q Q Q Q Q Q Q<|CX s9 dM.symm [] [(2,9)] Q Q Q<|fR Q Q<|rW (hT:=tok) (s13,s11) [2,3,4,5,6,7,8,0,9,16,10,11] hF Q results113 Q Q Q Q)<|bU [71,72] Q Q (jC 0 2 (EG s w_) [0,1,4] (fun(x10:Bool) (_:Unit)=>[(88,.b x10)]) [1,2,3,4,5,6,7,8,10,11,0,14] (fun x10 _=>[ow s9 (s.aX:List bE)]) Q (fun hF=>QD cG 12 [] h1 () Q Q Q Q Q Q Q Q Q<|wi hF<|pP aP [0,14] Q<|fun hF=>bd hF fun x17 hA2 hF=>j8 Q Q (have hq4:=rb h1;ro cG 15 14 1 Q Q Q Q hq4 fun u4 h21 hq4 _=>match u4,hq4 with | _,rfl=>have hq5:=rb hA2;wi hq5<|uF oI 8 Q Q Q fun u5 h23 _ h24=>fun hq5=>m6 2 h24 h23 Q Q Q Q Q<|match u5,hq5 with | _,rfl=>j8 Q Q (sF Q<|pS oI 19 [] h23 () Q Q Q Q Q Q Q<|pS cG 16 [] h21 () Q Q Q Q Q Q Q<|uE (p:=(x17 != x1.H)) () [23,1,2,3,4,5,6,7,22,10,11,0,14] hF Q) (sF Q<|pS oI 19 [] h23 () Q Q Q Q Q Q Q<|pS cG 16 [] h21 () Q Q Q Q Q Q Q<|uE (p:=(x17 != x1.H)) () [23,1,2,3,4,5,6,7,22,10,11,0,14] hF Q)) (have hq6:=rb h1;ro cG 15 14 1 Q Q Q Q hq6 fun u6 h25 hq6 _=>match u6,hq6 with | _,rfl=>have hq7:=rb hA2;wi hq7<|uF oI 8 Q Q Q fun u7 h27 _ h28=>fun hq7=>m6 2 h28 h27 Q Q Q Q Q<|match u7,hq7 with | _,rfl=>sF Q<|pS oI 19 [] h27 () Q Q Q Q Q Q Q<|pS cG 16 [] h25 () Q Q Q Q Q Q Q<|uE (p:=(x17 != x1.H)) () [23,1,2,3,4,5,6,7,22,10,11,0,14] hF Q)) fun x10 _=>bU [88] Q Q (fun hF=>ro cG 0 12 1 Q Q Q Q hF fun x11 h11 hF _=>wi hF<|dW 14 1 0 21 [] Q Q Q Q Q (fun _=>fT) fun x12 _=>fun hF=>sR Q<|rX cG 13 [] [] x12 () Q Q Q Q Q Q Q Q<|CX s9 dM.symm [] [(11,9)] Q Q Q<|fR Q Q<|rW (hT:=tok) (s7,s11) [11,1,2,3,4,5,6,7,8,16,9,10] hF Q results113 Q Q Q Q)<|fun hF=>ro cG 0 12 1 Q Q Q Q hF fun x13 h13 hF _=>QD cG 13 [] h13 () Q Q Q Q Q Q Q Q Q<|wi hF<|dW 11 0 0 13 [1,2,3,4,5,6,7,8,16,9,10] Q Q Q Q Q (fun _=>jY) fun x14 s17=>fun hF=>ro cG 25 12 1 Q Q Q Q hF fun x15 h15 hF _=>wi hF<|dW 29 1 0 21 [] Q Q Q Q Q (fun _=>fT) fun x16 _=>fun hF=>sF Q<|rX cG 28 [] [] x16 () Q Q Q Q Q Q Q Q<|CX s9 dM.symm [] [(11,9)] Q Q Q<|fR Q Q<|rW (hT:=tok) (s7,s17) [11,17,18,19,20,21,22,23,24,31,26,27] hF Q results113 Q Q Q Q)<|bU [100,101] Q Q (fun hF=>QD cG 12 [] h1 () Q Q Q Q Q Q Q Q Q<|wi hF<|dW 0 0 0 13 [1,2,3,4,5,6,7,8,15,10,11] Q Q Q Q Q (fun _=>FC) fun x18 _=>fun hF=>ro cG 24 14 1 Q Q Q Q hF fun x19 h29 hF _=>wi hF<|dW 28 1 0 21 [] Q Q Q Q Q (fun _=>fT) fun x20 _=>fun hF=>sF Q<|rX cG 27 [] [] x20 () Q Q Q Q Q Q Q Q<|CX s9 dM.symm [] [(0,9)] Q Q Q<|fR Q Q<|rW (hT:=tok) (s7,s11) [0,16,17,18,19,20,21,22,23,30,25,26] hF Q results113 Q Q Q Q)<|bU [107,108] Q Q (c1 Q (fun h=>aLJ (h.o 7 Q)) fun x21 s18=>dW 13 1 0 21 [] Q Q Q Q Q (fun _=>cE) fun x22 _=>fun hF=>sF Q<|rX cG 12 [] [8] x22 () Q Q Q Q Q Q Q Q<|CX s9 dM.symm [] [(0,9)] Q Q Q<|fR Q Q<|rW (hT:=tok) (s18,s11) [0,1,2,3,4,5,6,15,8,16,10,11] hF Q results113 Q Q Q Q)<|dW 13 1 0 21 [] Q Q Q Q Q (fun _=>cE) fun x23 _=>fun hF=>sF Q<|rX cG 12 [] [8] x23 () Q Q Q Q Q Q Q Q<|CX s9 dM.symm [] [(0,9)] Q Q Q<|fR Q Q<|rW (hT:=tok) (s7,s11) [0,1,2,3,4,5,6,7,8,15,10,11] hF Q results113 Q Q Q Q
theorem ZM{s:aG}{w_:Int}{s1 s2 s3 s4 s5 s6 s7 s8 s9 s10 s11:AC}{b0:Nat×Nat}:VS prog κ 114 (BG s w_) [.p 0 0,I w_] [b0] ([.box 0 (gS s s1 s2 s3 s4 s5 s6 s7 s8 s9 s10 s11)]++(oS s s1 s2 s3 s4 s5 s6 s7 s8 s9 s10 s11 [])) (fun(r:aG) (y:AC)=>.t []) (fun(r:aG) (y:AC)=>([.box 0 (gS r s1 s2 s3 s4 s5 s6 s7 s8 s9 s10 y)]++(oS r s1 s2 s3 s4 s5 s6 s7 s8 s9 s10 y []))):=
 c9 tok call114 func114 results114 Q Q<|jC 0 4 (CE s w_) [0,1] (fun(x1:pQ) (_:Unit)=>[(4,.p 1 0),(5,.p 3 0)]) [1,2,3,4,5,6,7,8,9,10,11,0] (fun x1 _=>[wOf bE 1 s9 s.aX.length w_.toNat,.box 3 [.b x1.On,I x1.aJ,.b x1.dB,I x1.Seen]]) Q (pP aP [0] Q<|uF cG 9 Q Q Q fun x20 h15 _ h16=>fun hF=>m6 1 h16 h15 Q Q Q Q Q<|wi hF<|uF PJ 5 Q Q Q fun x21 h17 _ h18=>fun hF=>m6 2 h18 h17 Q Q Q Q Q<|j8 Q Q (sF Q<|pS PJ 15 [] h17 () Q Q Q Q Q Q Q<|pS cG 12 [] h15 () Q Q Q Q Q Q Q<|uE (p:=(x21)) () [14,18,1,2,3,4,19,6,7,8,20,10,11,0] hF Q) (sF Q<|pS PJ 15 [] h17 () Q Q Q Q Q Q Q<|pS cG 12 [] h15 () Q Q Q Q Q Q Q<|uE (p:=(x21)) () [14,18,1,2,3,4,19,6,7,8,20,10,11,0] hF Q)) fun x1 _=>cV 0 4 (sK s w_ x1) [0,1,4,5] 23 [2,3,4,5,6,7,8,9,10,11,12,13,0,1] Q (fun hF=>ro cG 10 0 1 Q Q Q Q hF fun x19 h13 hF _=>wi hF<|eA [28,29] Q Q (fun hF=>sF Q<|pS cG 14 [] h13 () Q Q Q Q Q Q Q<|uE () [2,3,4,5,6,7,8,9,17,11,12,13,0,1] hF Q)<|fun hF=>sF Q<|pS cG 14 [] h13 () Q Q Q Q Q Q Q<|uE () [2,3,4,5,6,7,8,9,17,11,12,13,0,1] hF Q) fun x2=>bU [23] Q Q (fun hF=>ro cG 8 12 1 Q Q Q Q hF fun x3 h1 hF _=>wi hF<|dW 15 1 0 21 [] Q Q Q Q Q (fun _=>cE) fun x4 _=>fun hF=>sF Q<|rX cG 14 [] [] x4 () Q Q Q Q Q Q Q Q<|CX s9 dM.symm [] [(11,9)] Q Q Q<|fR Q Q<|rW (hT:=tok) s11 [11,0,1,2,3,4,5,6,7,17,9,10] hF Q results114 Q Q Q Q)<|cV 0 4 (sJ s w_) [0,1,4] 36 [0,1,2,3,4,5,6,7,8,9,10,11,12] Q (fun hF=>ro cG 8 12 1 Q Q Q Q hF fun x18 h11 hF _=>wi hF<|eA [41,42] Q Q (fun hF=>sF Q<|pS cG 14 [] h11 () Q Q Q Q Q Q Q<|uE () [0,1,2,3,4,5,6,7,17,9,10,11,12] hF Q)<|fun hF=>sF Q<|pS cG 14 [] h11 () Q Q Q Q Q Q Q<|uE () [0,1,2,3,4,5,6,7,17,9,10,11,12] hF Q) fun x5=>bU [36] Q Q (fun hF=>ro cG 8 12 1 Q Q Q Q hF fun x6 h3 hF _=>wi hF<|dW 14 1 0 21 [] Q Q Q Q Q (fun _=>cE) fun x7 _=>fun hF=>sF Q<|rX cG 13 [] [] x7 () Q Q Q Q Q Q Q Q<|CX s9 dM.symm [] [(11,9)] Q Q Q<|fR Q Q<|rW (hT:=tok) s11 [11,0,1,2,3,4,5,6,7,16,9,10] hF Q results114 Q Q Q Q)<|fun hF=>ro cG 8 12 1 Q Q Q Q hF fun x8 h5 hF _=>wi hF<|bU [48,53] Q Q (fun hF=>QD cG 13 [] h5 () Q Q Q Q Q Q Q Q Q<|wi hF<|dW 11 0 0 13 [0,1,2,3,4,5,6,7,16,9,10] Q Q Q Q Q (fun _=>PO) fun x9 s12=>fun hF=>ro cG 25 12 1 Q Q Q Q hF fun x10 h7 hF _=>wi hF<|dW 29 1 0 21 [] Q Q Q Q Q (fun _=>fT) fun x11 _=>bU [63] Q Q (dW 29 1 0 21 [] Q Q Q Q Q (fun _=>cE) fun x12 _=>fun hF=>sF Q<|rX cG 28 [] [] x12 () Q Q Q Q Q Q Q Q<|CX s9 dM.symm [] [(11,9)] Q Q Q<|fR Q Q<|rW (hT:=tok) s12 [11,17,18,19,20,21,22,23,24,31,26,27] hF Q results114 Q Q Q Q)<|fun hF=>sF Q<|rX cG 28 [] [] x11 () Q Q Q Q Q Q Q Q<|CX s9 dM.symm [] [(11,9)] Q Q Q<|fR Q Q<|rW (hT:=tok) s12 [11,17,18,19,20,21,22,23,24,31,26,27] hF Q results114 Q Q Q Q)<|bU [66,71] Q Q (fun hF=>QD cG 13 [] h5 () Q Q Q Q Q Q Q Q Q<|wi hF<|dW 11 0 0 13 [0,1,2,3,4,5,6,7,16,9,10] Q Q Q Q Q (fun _=>FC) fun x13 _=>fun hF=>ro cG 25 12 1 Q Q Q Q hF fun x14 h9 hF _=>wi hF<|dW 29 1 0 21 [] Q Q Q Q Q (fun _=>fT) fun x15 _=>fun hF=>sF Q<|rX cG 28 [] [] x15 () Q Q Q Q Q Q Q Q<|CX s9 dM.symm [] [(11,9)] Q Q Q<|fR Q Q<|rW (hT:=tok) s11 [11,17,18,19,20,21,22,23,24,31,26,27] hF Q results114 Q Q Q Q)<|bU [77,82] Q Q (fun hF=>QD cG 13 [] h5 () Q Q Q Q Q Q Q Q Q<|wi hF<|dW 11 0 0 13 [0,1,2,3,4,5,6,7,16,9,10] Q Q Q Q Q (fun _=>F7) fun x16 _=>ON s11 [11,17,18,19,20,21,22,23,24,25,26,27] Q Q)<|dW 14 1 0 21 [] Q Q Q Q Q (fun _=>cE) fun x17 _=>fun hF=>sF Q<|rX cG 13 [] [] x17 () Q Q Q Q Q Q Q Q<|CX s9 dM.symm [] [(11,9)] Q Q Q<|fR Q Q<|rW (hT:=tok) s11 [11,0,1,2,3,4,5,6,7,16,9,10] hF Q results114 Q Q Q Q
theorem X2{s:aG}{w_:Int}{s1 s2 s3 s4 s5 s6 s7 s8 s9 s10 s11:AC}{b0:Nat×Nat}:VS prog κ 115 (xQ s w_) [.p 0 0,I w_] [b0] ([.box 0 (gS s s1 s2 s3 s4 s5 s6 s7 s8 s9 s10 s11)]++(oS s s1 s2 s3 s4 s5 s6 s7 s8 s9 s10 s11 [])) (fun(r:aG) (y:A6C)=>.t []) (fun(r:aG) (y:A6C)=>([.box 0 (gS r y.1 y.2.1 y.2.2.1 y.2.2.2.1 y.2.2.2.2.1 y.2.2.2.2.2 s7 s8 s9 s10 s11)]++(oS r y.1 y.2.1 y.2.2.1 y.2.2.2.1 y.2.2.2.2.1 y.2.2.2.2.2 s7 s8 s9 s10 s11 []))):=
 c9 tok call115 func115 results115 Q Q<|uF cG 9 Q Q Q fun x1 h1 _ h2=>fun hF=>m6 1 h2 h1 Q Q Q Q Q<|wi hF<|jC 0 2 (qG s w_) [0,1,4] (fun(x2:Bool) (_:Unit)=>[(14,.b x2)]) [1,2,3,4,5,6,7,8,10,11,0,14] (fun x2 _=>[ow s9 (s.aX:List bE)]) Q (eA [20,21] Q Q (fun hF=>sF Q<|pS cG 12 [] h1 () Q Q Q Q Q Q Q<|uE () [15,1,2,3,4,5,6,7,8,10,11,0,14] hF Q)<|fun hF=>sF Q<|pS cG 12 [] h1 () Q Q Q Q Q Q Q<|uE () [15,1,2,3,4,5,6,7,8,10,11,0,14] hF Q) fun x2 _=>bU [14] Q Q (jC 1 2 (fun(p:Int×aG)=>qB w_ p.1 p.2) [0,4] (fun(p:Int×aG) (s12:AC)=>[(5,I p.1)]) [12] (fun p s12=>(oS p.2 s1 s2 s3 s4 s12 s6 s7 s8 s9 s10 s11 [.box 0 (gS p.2 s1 s2 s3 s4 s12 s6 s7 s8 s9 s10 s11)])) Q (dW 11 0 0 8 [1,2,3,4,5,6,7] Q Q Q Q Q (fun _=>NH) fun x7 s13=>bU [33] Q Q (pG (p:=(5,({s with aA:=x7.2}:aG))) s13 [13,14,15,16,17,18,19,8,0,9,10,11,12] Q Q)<|pG (p:=(0,({s with aA:=x7.2}:aG))) s13 [13,14,15,16,17,18,19,8,0,9,10,11,12] Q Q) fun⟨x3,x4⟩ s12=>fun hF=>ro cG 8 12 1 Q Q Q Q hF fun x5 h3 hF _=>wi hF<|dW 14 1 0 21 [] Q Q Q Q Q (fun _=>cE) fun x6 _=>fun hF=>sF Q<|rX cG 13 [] [] x6 () Q Q Q Q Q Q Q Q<|CX s9 dM.symm [] [(11,9)] Q Q Q<|fR Q Q<|rW (hT:=tok) (s1,s2,s3,s4,s12,s6) [11,0,1,2,3,4,5,6,7,16,9,10] hF Q results115 Q Q Q Q)<|cV 0 2 (qF s w_) [0,1,4] 37 [1,2,3,4,5,6,7,8,0,9,10,11,12] Q (fun hF=>ro cG 0 12 1 Q Q Q Q hF fun x25 h17 hF _=>wi hF<|eA [43,44] Q Q (fun hF=>sF Q<|pS cG 13 [] h17 () Q Q Q Q Q Q Q<|uE () [1,2,3,4,5,6,7,8,16,9,10,11,12] hF Q)<|fun hF=>sF Q<|pS cG 13 [] h17 () Q Q Q Q Q Q Q<|uE () [1,2,3,4,5,6,7,8,16,9,10,11,12] hF Q) fun x8=>bU [37] Q Q (pP aP [12] Q<|fun hF=>ro cG 8 12 1 Q Q Q Q hF fun x9 h5 hF _=>wi hF<|aB8 14 1 7 10 11 0 0 8 [0,1,2,3,4,5,6] Q Q Q Q Q (fun _=>oG) fun x10 s14=>bU [63] Q Q (dW 14 1 0 21 [] Q Q Q Q Q (fun _=>cE (j:=({x9 with Sub:=x10.1}:bE))) fun x11 _=>fun hF=>sF Q<|rX cG 13 [] [] x11 () Q Q Q Q Q Q Q Q<|CX s9 dM.symm [] [(11,9)] Q Q Q<|fR Q Q<|rW (hT:=tok) s14 [11,16,17,18,19,20,21,22,7,23,9,10] hF Q results115 Q Q Q Q)<|fun hF=>sF Q<|rX cG 13 [] [] ({x9 with Sub:=x10.1}:bE) () Q Q Q Q Q Q Q Q<|CX s9 dM.symm [] [(11,9)] Q Q Q<|fR Q Q<|rW (hT:=tok) s14 [11,16,17,18,19,20,21,22,7,23,9,10] hF Q results115 Q Q Q Q)<|cV 0 2 (qE s w_) [0,1,4] 71 [0,1,2,3,4,5,6,7,8,9,10,11,12] Q (fun hF=>ro cG 8 12 1 Q Q Q Q hF fun x24 h15 hF _=>wi hF<|eA [77,78] Q Q (fun hF=>sF Q<|pS cG 13 [] h15 () Q Q Q Q Q Q Q<|uE () [0,1,2,3,4,5,6,7,16,9,10,11,12] hF Q)<|fun hF=>sF Q<|pS cG 13 [] h15 () Q Q Q Q Q Q Q<|uE () [0,1,2,3,4,5,6,7,16,9,10,11,12] hF Q) fun x12=>bU [71] Q Q (pP aP [12] Q<|fun hF=>ro cG 8 12 1 Q Q Q Q hF fun x13 h7 hF _=>wi hF<|aB8 14 1 7 10 11 0 0 8 [0,1,2,3,4,5,6] Q Q Q Q Q (fun _=>oG) fun x14 s15=>bU [97] Q Q (c0 Q (fun _=>AV) fun x15=>dW 14 1 0 21 [] Q Q Q Q Q (fun _=>fT (j:=({x13 with Sub:=x15}:bE))) fun x16 _=>fun hF=>sF Q<|rX cG 13 [] [] x16 () Q Q Q Q Q Q Q Q<|CX s9 dM.symm [] [(11,9)] Q Q Q<|fR Q Q<|rW (hT:=tok) s15 [11,16,17,18,19,20,21,22,7,23,9,10] hF Q results115 Q Q Q Q)<|fun hF=>sF Q<|rX cG 13 [] [] ({x13 with Sub:=x14.1}:bE) () Q Q Q Q Q Q Q Q<|CX s9 dM.symm [] [(11,9)] Q Q Q<|fR Q Q<|rW (hT:=tok) s15 [11,16,17,18,19,20,21,22,7,23,9,10] hF Q results115 Q Q Q Q)<|cV 0 2 (qD s w_) [0,1,4] 104 [0,1,2,3,4,5,6,7,8,9,10,11,12] Q (fun hF=>ro cG 8 12 1 Q Q Q Q hF fun x23 h13 hF _=>wi hF<|eA [110,111] Q Q (fun hF=>sF Q<|pS cG 13 [] h13 () Q Q Q Q Q Q Q<|uE () [0,1,2,3,4,5,6,7,16,9,10,11,12] hF Q)<|fun hF=>sF Q<|pS cG 13 [] h13 () Q Q Q Q Q Q Q<|uE () [0,1,2,3,4,5,6,7,16,9,10,11,12] hF Q) fun x17=>bU [104] Q Q (pP aP [12] Q<|fun hF=>ro cG 8 12 1 Q Q Q Q hF fun x18 h9 hF _=>wi hF<|aB8 14 1 7 10 11 0 0 8 [0,1,2,3,4,5,6] Q Q Q Q Q (fun _=>oG) fun x19 s16=>bU [130] Q Q (dW 14 1 0 21 [] Q Q Q Q Q (fun _=>cE (j:=({x18 with Sub:=x19.1,dQ:=x19.1.Out}:bE))) fun x20 _=>fun hF=>sF Q<|rX cG 13 [] [] x20 () Q Q Q Q Q Q Q Q<|CX s9 dM.symm [] [(11,9)] Q Q Q<|fR Q Q<|rW (hT:=tok) s16 [11,16,17,18,19,20,21,22,7,23,9,10] hF Q results115 Q Q Q Q)<|fun hF=>sF Q<|rX cG 13 [] [] ({x18 with Sub:=x19.1}:bE) () Q Q Q Q Q Q Q Q<|CX s9 dM.symm [] [(11,9)] Q Q Q<|fR Q Q<|rW (hT:=tok) s16 [11,16,17,18,19,20,21,22,7,23,9,10] hF Q results115 Q Q Q Q)<|fun hF=>ro cG 8 12 1 Q Q Q Q hF fun x21 h11 hF _=>wi hF<|dW 14 1 0 21 [] Q Q Q Q Q (fun _=>cE) fun x22 _=>fun hF=>sF Q<|rX cG 13 [] [] x22 () Q Q Q Q Q Q Q Q<|CX s9 dM.symm [] [(11,9)] Q Q Q<|fR Q Q<|rW (hT:=tok) (s1,s2,s3,s4,s5,s6) [11,0,1,2,3,4,5,6,7,16,9,10] hF Q results115 Q Q Q Q
theorem ZN{s:aG}{w_:Int}{s1 s2 s3 s4 s5 s6 s7 s8 s9 s10 s11:AC}{b0:Nat×Nat}:VS prog κ 52 (tG s w_) [.p 0 0,I w_] [b0] ([.box 0 (gS s s1 s2 s3 s4 s5 s6 s7 s8 s9 s10 s11)]++(oS s s1 s2 s3 s4 s5 s6 s7 s8 s9 s10 s11 [])) (fun(r:aG) (y:A8C)=>.t []) (fun(r:aG) (y:A8C)=>([.box 0 (gS r y.1 y.2.1 y.2.2.1 y.2.2.2.1 y.2.2.2.2.1 y.2.2.2.2.2.1 y.2.2.2.2.2.2.1 s8 s9 s10 y.2.2.2.2.2.2.2)]++(oS r y.1 y.2.1 y.2.2.1 y.2.2.2.1 y.2.2.2.2.1 y.2.2.2.2.2.1 y.2.2.2.2.2.2.1 s8 s9 s10 y.2.2.2.2.2.2.2 []))):=
 c9 tok call52 func52 results52 Q Q<|uF cG 9 Q Q Q fun x1 h1 _ h2=>fun hF=>m6 1 h2 h1 Q Q Q Q Q<|wi hF<|bU [15,18] Q Q (fun hF=>QD cG 12 [] h1 () Q Q Q Q Q Q Q Q Q<|wi hF<|dW 0 0 0 13 [1,2,3,4,5,6,7,8,16,10,11] Q Q Q Q Q (fun _=>XY) fun x2 s12=>ON (s1,s2,s3,s4,s5,s6,s7,s12) [0,17,18,19,20,21,22,23,24,25,26,27] Q Q)<|bU [22,25] Q Q (fun hF=>QD cG 12 [] h1 () Q Q Q Q Q Q Q Q Q<|wi hF<|dW 0 0 0 13 [1,2,3,4,5,6,7,8,16,10,11] Q Q Q Q Q (fun _=>jY) fun x3 s13=>uF cG 25 Q Q Q fun x4 h3 _ h4=>fun hF=>m6 3 h4 h3 Q Q Q Q Q<|sF Q<|rX cG 28 [] [38] (⟨false,(⟨0,0,0,0⟩:dY),0,0,(⟨0,0,0,0,0,0,0,0,0,false⟩:Sub),0,0,0,0⟩:bE) () Q Q Q Q Q Q Q Q<|CX s9 dM.symm [] [(0,9)] Q Q Q<|fR Q Q<|rW (hT:=tok) (s1,s2,s3,s4,s5,s6,s7,s13) [0,17,18,19,20,21,22,23,24,31,26,27] hF Q results52 Q Q Q Q)<|bU [42,46] Q Q (fun hF=>QD cG 12 [] h1 () Q Q Q Q Q Q Q Q Q<|wi hF<|dW 0 0 0 13 [1,2,3,4,5,6,7,8,16,10,11] Q Q Q Q Q (fun _=>aA8) fun x5 s14=>ON (s14.1,s14.2.1,s14.2.2.1,s14.2.2.2.1,s14.2.2.2.2.1,s14.2.2.2.2.2.1,s7,s14.2.2.2.2.2.2) [0,17,18,19,20,21,22,23,24,25,26,27] Q Q)<|bU [50,54] Q Q (fun hF=>QD cG 12 [] h1 () Q Q Q Q Q Q Q Q Q<|wi hF<|dW 0 0 0 13 [1,2,3,4,5,6,7,8,16,10,11] Q Q Q Q Q (fun _=>aA9) fun x6 s15=>ON (s15.1,s15.2.1,s15.2.2.1,s15.2.2.2.1,s15.2.2.2.2.1,s15.2.2.2.2.2.1,s7,s15.2.2.2.2.2.2) [0,17,18,19,20,21,22,23,24,25,26,27] Q Q)<|bU [58,62] Q Q (fun hF=>QD cG 12 [] h1 () Q Q Q Q Q Q Q Q Q<|wi hF<|dW 0 0 0 13 [1,2,3,4,5,6,7,8,16,10,11] Q Q Q Q Q (fun _=>aBA) fun x7 s16=>ON (s1,s2,s3,s4,s5,s6,s16.1,s16.2) [0,17,18,19,20,21,22,23,24,25,26,27] Q Q)<|bU [66,70] Q Q (fun hF=>QD cG 12 [] h1 () Q Q Q Q Q Q Q Q Q<|wi hF<|dW 0 0 0 13 [1,2,3,4,5,6,7,8,16,10,11] Q Q Q Q Q (fun _=>ZM) fun x8 s17=>ON (s1,s2,s3,s4,s5,s6,s7,s17) [0,17,18,19,20,21,22,23,24,25,26,27] Q Q)<|fun hF=>QD cG 12 [] h1 () Q Q Q Q Q Q Q Q Q<|wi hF<|dW 0 0 0 13 [1,2,3,4,5,6,7,8,16,10,11] Q Q Q Q Q (fun _=>X2) fun x9 s18=>ON (s18.1,s18.2.1,s18.2.2.1,s18.2.2.2.1,s18.2.2.2.2.1,s18.2.2.2.2.2,s7,s11) [0,17,18,19,20,21,22,23,24,25,26,27] Q Q
theorem ZO{x y:Int}:V0 prog κ 358 (R1 x y) [.i .u64 x,.i .u64 y] (fun r=>.t [.i .u64 r.1,.i .u64 r.2]):=
 c9 tok call358 func358 results358 Q Q<|cM Q Q
theorem aDK{x y:Int}:V0 prog κ 347 (NY x y) [.i .u64 x,.i .u64 y] (fun r=>.t [.i .u64 r.1,.i .u64 r.2]):=
 c9 tok call347 func347 results347 Q Q<|c0 Q (fun _=>ZO) fun x1=>cM Q Q
theorem yY{x:List Int}{count:Int}{s1:AC}(h1:bB κ s1 x):VS prog κ 316 (uZ x count) [.h s1 x.length,I count] [] [] (fun r (y:AC)=>.h y r.length) (fun r y=>[ow y r]):=
 c9 tok call316 func316 results316 Q Q<|bU [10] Q Q (fun hF=>nomatch hF)<|c0 Q (fun _=>aDK) fun x1=>cV 0 0 (oW x x1) [0,6] 26 [] Q (eA [22,23] Q Q (bR [] Q Q)<|bR [] Q Q) fun x2=>bU [26] Q Q (fun hF=>nomatch hF)<|fun hF=>FR (0:Int) aV (fun w=>mV Q w) Q Q Q Q Q Q Q hF fun hF s2=>cp0 (xs:=x) 0 (fun h=>(h.a h1)) Q Q Q Q Q Q Q Q<|rr s2 (fE (xs:=x) (sW _)).symm [7,30,31] [] [] Q Q Q Q<|wi hF<|QF () [] (fun(p:(List Int)×Int) (_:Unit)=>[(7,.h s2 p.1.length),(8,I p.2)]) [0] [] (fun p _=>[ow s2 (p.1:List Int)]) id [] (fun(x7:(List Int)) (_:Unit)=>[(7,.h s2 x7.length)]) [] (fun x7 _=>[ow s2 (x7:List Int)]) Q Q (fun hF2 ⟨x5,x6⟩ _ hr2=>bU [37] Q Q (pP aP [] Q<|fun hG2=>cpc 0 Q Q fun hc1=>aNQ hc1 Q Q Q Q Q Q hG2 fun hG2 h2=>aPW hc1 Q Q Q Q Q Q hG2 fun hG2 h3=>cpy (xs:=(x5.take x6.toNat).drop 0) 0 x6.toNat h2 (fun h=>((h.o 0 Q).sub (JF h3.1 h3.2) h3)) Q Q Q Q Q Q Q Q<|rr s2 (fE (xs:=(x5.take x6.toNat).drop 0) h2.1).symm [7,35,39,42] [] [] Q Q Q Q<|wi hG2<|JG [0] Q)<|FV [0] Q) fun x7 _=>oL s2 [0] Q Q
theorem aGO:VS prog κ 262 J6 [] [] [] (fun r (y:AC×AC)=>.g [.h y.1 r.Bytes.length,.h y.2 r.Class.length]) (fun r y=>[ow y.1 r.Bytes,ow y.2 r.Class]):=
 c9 tok call262 func262 results262 Q Q<|jC 0 1 R2 [0] (fun(x1:(List Int)) (u:AC×AC)=>[]) [] (fun x1 u=>[ow u.1 (List.replicate ((384:Int).toNat) 0:List Int),ow u.2 (x1:List Int),.box 0 [.h u.1 (List.replicate ((384:Int).toNat) 0).length,.h u.2 x1.length]]) Q (pP aP [] Q<|fun hF=>nd hF fun hA1 hF=>bd hF fun x2 hA2 hF=>j8 Q Q (have hq1:=rn hA1;FR (0:Int) aV (fun w=>mV Q w) Q Q Q Q Q Q Q hq1 fun hq1 s6=>lt1 Q aV Q Q Q Q fun s7=>have hq2:=rb hA2;wi hq2<|c1 Q (fun h=>yY (h.o 2 Q)) fun u1 s8=>fun hq2=>match u1,hq2 with | _,rfl=>wi hF<|pG (p:=(x2)) (s6,s8) [1,3,0] Q Q) (lt1 Q aV Q Q Q Q fun s9=>j8 Q Q (have hq3:=rn hA1;FR (0:Int) aV (fun w=>mV Q w) Q Q Q Q Q Q Q hq3 fun hq3 s10=>have hq4:=rb hA2;wi hq4<|c1 Q (fun h=>yY (h.o 1 Q)) fun u2 s11=>fun hq4=>match u2,hq4 with | _,rfl=>wi hF<|pG (p:=(x2)) (s10,s11) [2,3,0] Q Q) (have hq5:=rb hA2;wi hq5<|c1 Q (fun h=>yY (h.o 1 Q)) fun u3 s12=>fun hq5=>match u3,hq5 with | _,rfl=>have hq6:=rn hA1;FR (0:Int) aV (fun w=>mV Q w) Q Q Q Q Q Q Q hq6 fun hq6 s13=>wi hF<|pG (p:=(x2)) (s13,s12) [3,2,0] Q Q))) fun x1 ⟨s1,s2⟩=>oL (s1,s2) [0,1] Q Q
theorem aDL:VS prog κ 263 NZ [] [] [] (fun r (y:AC×AC)=>.g [.h y.1 r.Global.length,.h y.2 r.Own.length]) (fun r y=>[ow y.1 r.Global,ow y.2 r.Own]):=
 c9 tok call263 func263 results263 Q Q<|jC 0 1 (fun(_:Unit)=>PD) [0] (fun(_:Unit) (u:AC×AC)=>[]) [] (fun _ u=>[ow u.1 (List.replicate ((3:Int).toNat) (⟨[]⟩:aR):List aR),ow u.2 (List.replicate ((9:Int).toNat) (⟨[]⟩:aR):List aR),.box 0 [.h u.1 (List.replicate ((3:Int).toNat) (⟨[]⟩:aR)).length,.h u.2 (List.replicate ((9:Int).toNat) (⟨[]⟩:aR)).length]]) Q (pP aP [] Q<|fun hF=>nd hF fun hA1 hF=>nd hF fun hA2 hF=>j8 Q Q (have hq1:=rn hA1;FR ((⟨[]⟩:aR):aR) dZ (fun _=>(GU (DH (⟨[]⟩:aR)) (WC aH5))) Q Q Q Q Q Q Q hq1 fun hq1 s5=>have hq2:=rn hA2;FR ((⟨[]⟩:aR):aR) dZ (fun _=>(GU (DH (⟨[]⟩:aR)) (WC aH5))) Q Q Q Q Q Q Q hq2 fun hq2 s6=>wi hF<|pG (p:=()) (s5,s6) [1,2,0] Q Q) (have hq3:=rn hA2;FR ((⟨[]⟩:aR):aR) dZ (fun _=>(GU (DH (⟨[]⟩:aR)) (WC aH5))) Q Q Q Q Q Q Q hq3 fun hq3 s7=>have hq4:=rn hA1;FR ((⟨[]⟩:aR):aR) dZ (fun _=>(GU (DH (⟨[]⟩:aR)) (WC aH5))) Q Q Q Q Q Q Q hq4 fun hq4 s8=>wi hF<|pG (p:=()) (s8,s7) [2,1,0] Q Q)) fun _ ⟨s1,s2⟩=>oL (s1,s2) [0,1] Q Q
theorem aI6:VS prog κ 193 TZ [] [] [] (fun r (y:A4C)=>.g (yM r y)) (fun r y=>(zM r y [])):=
 c9 tok call193 func193 results193 Q Q<|c1 Q (fun _=>aGO) fun x1 s1=>c1 Q (fun _=>aDL) fun x2 s2=>oL (s1.1,s1.2,s2.1,s2.2) [1,2,3,4] Q Q
theorem aDM:VS prog κ 194 N0 [] [] [] (fun r (y:AC)=>.g [I r.aJ,.h y r.b9.length]) (fun r y=>[ow y r.b9]):=
 c9 tok call194 func194 results194 Q Q<|fun hF=>FR ((⟨false,0,false,0⟩:pQ):pQ) NG (fun w=>mV (aXQ (⟨false,0,false,0⟩:pQ)) w) Q Q Q Q Q Q Q hF fun hF s1=>wi hF<|oL s1 [1] Q Q
theorem aDN:VS prog κ 195 N2 [] [] [] (fun r (y:AC)=>.h y r.length) (fun r y=>[ow y r]):=
 c9 tok call195 func195 results195 Q Q<|fun hF=>FR ((⟨[]⟩:bC):bC) IK (fun _=>(GU (aFN (⟨[]⟩:bC)) (WC aH5))) Q Q Q Q Q Q Q hF fun hF s1=>wi hF<|oL s1 [0] Q Q
theorem aI7:VS prog κ 196 T0 [] [] [] (fun r (y:AC)=>.h y r.length) (fun r y=>[ow y r]):=
 c9 tok call196 func196 results196 Q Q<|fun hF=>FR (0:Int) aV (fun w=>mV Q w) Q Q Q Q Q Q Q hF fun hF s1=>wi hF<|oL s1 [0] Q Q
theorem wU:VS prog κ 116 J7 [] [] [] (fun r (y:A7C)=>.g (yB r y)) (fun r y=>(zB r y [])):=
 c9 tok call116 func116 results116 Q Q<|c1 Q (fun _=>aI6) fun x1 s1=>c1 Q (fun _=>aDM) fun x2 s2=>c1 Q (fun _=>aDN) fun x3 s3=>c1 Q (fun _=>aI7) fun x4 s4=>oL (s1.1,s1.2.1,s1.2.2.1,s1.2.2.2,s2,s3,s4) [1,2,3,4,5,6,7] Q Q
theorem aDO{todo:List Queue}{s1:AC}(h1:bB κ s1 todo):VS prog κ 53 (HF todo) [.h s1 todo.length] [] [] (fun r (y:a1C)=>.g (yS r y)) (fun r y=>(zS r y [])):=
 c9 tok call53 func53 results53 Q Q<|c0 Q (fun h=>WY (h.a h1)) fun x1=>bU [5] Q Q (fun hF=>sR Q<|Y0 Int<|Y0 Int<|Y0 aR<|Y0 aR<|Y0 pQ<|Y0 bC<|Y0 Int<|Y0 Int<|Y0 bE<|Y0 Queue<|Y0 Ev<|rW (hT:=tok) (⟨none,0⟩,⟨none,0⟩,⟨none,0⟩,⟨none,0⟩,⟨none,0⟩,⟨none,0⟩,⟨none,0⟩,⟨none,0⟩,⟨none,0⟩,⟨none,0⟩,⟨none,0⟩) [1,2,3,4,5,6,7,8,9,10,11] hF Q results53 Q Q Q Q)<|jC 0 1 PE [2] (fun(x2:aG) (u:a6G)=>[]) [] (fun x2 u=>(oB x2.aA u.1 u.2.1 u.2.2.1 u.2.2.2.1 u.2.2.2.2.1 u.2.2.2.2.2.1 u.2.2.2.2.2.2.1 [ow u.2.2.2.2.2.2.2.1 (x2.Cells:List Int),ow u.2.2.2.2.2.2.2.2.1 (x2.aX:List bE),ow u.2.2.2.2.2.2.2.2.2 (x2.dT:List Queue),.box 0 [.h u.1 x2.aA.Mem.aC.Bytes.length,.h u.2.1 x2.aA.Mem.aC.Class.length,.h u.2.2.1 x2.aA.Mem.aB.Global.length,.h u.2.2.2.1 x2.aA.Mem.aB.Own.length,I x2.aA.aD.aJ,.h u.2.2.2.2.1 x2.aA.aD.b9.length,.h u.2.2.2.2.2.1 x2.aA.aO.length,.h u.2.2.2.2.2.2.1 x2.aA.l7.length,.h u.2.2.2.2.2.2.2.1 x2.Cells.length,.h u.2.2.2.2.2.2.2.2.1 x2.aX.length,.h u.2.2.2.2.2.2.2.2.2 x2.dT.length,.h ⟨none,0⟩ 0,I x2.aI]])) Q (pP aP [] Q<|fun hF=>bd hF fun x3 hA1 hF=>nd hF fun hA2 hF=>nd hF fun hA3 hF=>bd hF fun x4 hA4 hF=>aWY Q Q (have hq1:=rb hA1;wi hq1<|c1 Q (fun _=>wU) fun u1 s16=>fun hq1=>match u1,hq1 with | _,rfl=>aWY Q Q (have hq2:=rn hA2;FR (0:Int) aV (fun w=>mV Q w) Q Q Q Q Q Q Q hq2 fun hq2 s17=>j8 Q Q (have hq3:=rn hA3;FR ((⟨false,(⟨0,0,0,0⟩:dY),0,0,(⟨0,0,0,0,0,0,0,0,0,false⟩:Sub),0,0,0,0⟩:bE):bE) hO (fun w=>mV (uS (⟨false,(⟨0,0,0,0⟩:dY),0,0,(⟨0,0,0,0,0,0,0,0,0,false⟩:Sub),0,0,0,0⟩:bE)) w) Q Q Q Q Q Q Q hq3 fun hq3 s18=>have hq4:=rb hA4;wi hq4<|c1 Q (fun h=>gU (h.a h1)) fun u2 s19=>fun hq4=>match u2,hq4 with | _,rfl=>wi hF<|pG (p:=((⟨x3,List.replicate ((2:Int).toNat) 0,List.replicate ((3:Int).toNat) (⟨false,(⟨0,0,0,0⟩:dY),0,0,(⟨0,0,0,0,0,0,0,0,0,false⟩:Sub),0,0,0,0⟩:bE),x4,[],0⟩:aG))) (s16.1,s16.2.1,s16.2.2.1,s16.2.2.2.1,s16.2.2.2.2.1,s16.2.2.2.2.2.1,s16.2.2.2.2.2.2,s17,s18,s19) [1,2,3,4,5,6,7,8,9,10,0] Q Q) (have hq5:=rb hA4;wi hq5<|c1 Q (fun h=>gU (h.a h1)) fun u3 s20=>fun hq5=>match u3,hq5 with | _,rfl=>have hq6:=rn hA3;FR ((⟨false,(⟨0,0,0,0⟩:dY),0,0,(⟨0,0,0,0,0,0,0,0,0,false⟩:Sub),0,0,0,0⟩:bE):bE) hO (fun w=>mV (uS (⟨false,(⟨0,0,0,0⟩:dY),0,0,(⟨0,0,0,0,0,0,0,0,0,false⟩:Sub),0,0,0,0⟩:bE)) w) Q Q Q Q Q Q Q hq6 fun hq6 s21=>wi hF<|pG (p:=((⟨x3,List.replicate ((2:Int).toNat) 0,List.replicate ((3:Int).toNat) (⟨false,(⟨0,0,0,0⟩:dY),0,0,(⟨0,0,0,0,0,0,0,0,0,false⟩:Sub),0,0,0,0⟩:bE),x4,[],0⟩:aG))) (s16.1,s16.2.1,s16.2.2.1,s16.2.2.2.1,s16.2.2.2.2.1,s16.2.2.2.2.2.1,s16.2.2.2.2.2.2,s17,s21,s20) [1,2,3,4,5,6,7,8,10,9,0] Q Q)) (have hq7:=rn hA3;FR ((⟨false,(⟨0,0,0,0⟩:dY),0,0,(⟨0,0,0,0,0,0,0,0,0,false⟩:Sub),0,0,0,0⟩:bE):bE) hO (fun w=>mV (uS (⟨false,(⟨0,0,0,0⟩:dY),0,0,(⟨0,0,0,0,0,0,0,0,0,false⟩:Sub),0,0,0,0⟩:bE)) w) Q Q Q Q Q Q Q hq7 fun hq7 s22=>j8 Q Q (have hq8:=rn hA2;FR (0:Int) aV (fun w=>mV Q w) Q Q Q Q Q Q Q hq8 fun hq8 s23=>have hq9:=rb hA4;wi hq9<|c1 Q (fun h=>gU (h.a h1)) fun u4 s24=>fun hq9=>match u4,hq9 with | _,rfl=>wi hF<|pG (p:=((⟨x3,List.replicate ((2:Int).toNat) 0,List.replicate ((3:Int).toNat) (⟨false,(⟨0,0,0,0⟩:dY),0,0,(⟨0,0,0,0,0,0,0,0,0,false⟩:Sub),0,0,0,0⟩:bE),x4,[],0⟩:aG))) (s16.1,s16.2.1,s16.2.2.1,s16.2.2.2.1,s16.2.2.2.2.1,s16.2.2.2.2.2.1,s16.2.2.2.2.2.2,s23,s22,s24) [1,2,3,4,5,6,7,9,8,10,0] Q Q) (have hq10:=rb hA4;wi hq10<|c1 Q (fun h=>gU (h.a h1)) fun u5 s25=>fun hq10=>match u5,hq10 with | _,rfl=>have hq11:=rn hA2;FR (0:Int) aV (fun w=>mV Q w) Q Q Q Q Q Q Q hq11 fun hq11 s26=>wi hF<|pG (p:=((⟨x3,List.replicate ((2:Int).toNat) 0,List.replicate ((3:Int).toNat) (⟨false,(⟨0,0,0,0⟩:dY),0,0,(⟨0,0,0,0,0,0,0,0,0,false⟩:Sub),0,0,0,0⟩:bE),x4,[],0⟩:aG))) (s16.1,s16.2.1,s16.2.2.1,s16.2.2.2.1,s16.2.2.2.2.1,s16.2.2.2.2.2.1,s16.2.2.2.2.2.2,s26,s22,s25) [1,2,3,4,5,6,7,10,8,9,0] Q Q)) (have hq12:=rb hA4;wi hq12<|c1 Q (fun h=>gU (h.a h1)) fun u6 s27=>fun hq12=>match u6,hq12 with | _,rfl=>j8 Q Q (have hq13:=rn hA2;FR (0:Int) aV (fun w=>mV Q w) Q Q Q Q Q Q Q hq13 fun hq13 s28=>have hq14:=rn hA3;FR ((⟨false,(⟨0,0,0,0⟩:dY),0,0,(⟨0,0,0,0,0,0,0,0,0,false⟩:Sub),0,0,0,0⟩:bE):bE) hO (fun w=>mV (uS (⟨false,(⟨0,0,0,0⟩:dY),0,0,(⟨0,0,0,0,0,0,0,0,0,false⟩:Sub),0,0,0,0⟩:bE)) w) Q Q Q Q Q Q Q hq14 fun hq14 s29=>wi hF<|pG (p:=((⟨x3,List.replicate ((2:Int).toNat) 0,List.replicate ((3:Int).toNat) (⟨false,(⟨0,0,0,0⟩:dY),0,0,(⟨0,0,0,0,0,0,0,0,0,false⟩:Sub),0,0,0,0⟩:bE),x4,[],0⟩:aG))) (s16.1,s16.2.1,s16.2.2.1,s16.2.2.2.1,s16.2.2.2.2.1,s16.2.2.2.2.2.1,s16.2.2.2.2.2.2,s28,s29,s27) [1,2,3,4,5,6,7,9,10,8,0] Q Q) (have hq15:=rn hA3;FR ((⟨false,(⟨0,0,0,0⟩:dY),0,0,(⟨0,0,0,0,0,0,0,0,0,false⟩:Sub),0,0,0,0⟩:bE):bE) hO (fun w=>mV (uS (⟨false,(⟨0,0,0,0⟩:dY),0,0,(⟨0,0,0,0,0,0,0,0,0,false⟩:Sub),0,0,0,0⟩:bE)) w) Q Q Q Q Q Q Q hq15 fun hq15 s30=>have hq16:=rn hA2;FR (0:Int) aV (fun w=>mV Q w) Q Q Q Q Q Q Q hq16 fun hq16 s31=>wi hF<|pG (p:=((⟨x3,List.replicate ((2:Int).toNat) 0,List.replicate ((3:Int).toNat) (⟨false,(⟨0,0,0,0⟩:dY),0,0,(⟨0,0,0,0,0,0,0,0,0,false⟩:Sub),0,0,0,0⟩:bE),x4,[],0⟩:aG))) (s16.1,s16.2.1,s16.2.2.1,s16.2.2.2.1,s16.2.2.2.2.1,s16.2.2.2.2.2.1,s16.2.2.2.2.2.2,s31,s30,s27) [1,2,3,4,5,6,7,10,9,8,0] Q Q))) (have hq17:=rn hA2;FR (0:Int) aV (fun w=>mV Q w) Q Q Q Q Q Q Q hq17 fun hq17 s32=>j8 Q Q (have hq18:=rb hA1;wi hq18<|c1 Q (fun _=>wU) fun u7 s33=>fun hq18=>match u7,hq18 with | _,rfl=>j8 Q Q (have hq19:=rn hA3;FR ((⟨false,(⟨0,0,0,0⟩:dY),0,0,(⟨0,0,0,0,0,0,0,0,0,false⟩:Sub),0,0,0,0⟩:bE):bE) hO (fun w=>mV (uS (⟨false,(⟨0,0,0,0⟩:dY),0,0,(⟨0,0,0,0,0,0,0,0,0,false⟩:Sub),0,0,0,0⟩:bE)) w) Q Q Q Q Q Q Q hq19 fun hq19 s34=>have hq20:=rb hA4;wi hq20<|c1 Q (fun h=>gU (h.a h1)) fun u8 s35=>fun hq20=>match u8,hq20 with | _,rfl=>wi hF<|pG (p:=((⟨x3,List.replicate ((2:Int).toNat) 0,List.replicate ((3:Int).toNat) (⟨false,(⟨0,0,0,0⟩:dY),0,0,(⟨0,0,0,0,0,0,0,0,0,false⟩:Sub),0,0,0,0⟩:bE),x4,[],0⟩:aG))) (s33.1,s33.2.1,s33.2.2.1,s33.2.2.2.1,s33.2.2.2.2.1,s33.2.2.2.2.2.1,s33.2.2.2.2.2.2,s32,s34,s35) [2,3,4,5,6,7,8,1,9,10,0] Q Q) (have hq21:=rb hA4;wi hq21<|c1 Q (fun h=>gU (h.a h1)) fun u9 s36=>fun hq21=>match u9,hq21 with | _,rfl=>have hq22:=rn hA3;FR ((⟨false,(⟨0,0,0,0⟩:dY),0,0,(⟨0,0,0,0,0,0,0,0,0,false⟩:Sub),0,0,0,0⟩:bE):bE) hO (fun w=>mV (uS (⟨false,(⟨0,0,0,0⟩:dY),0,0,(⟨0,0,0,0,0,0,0,0,0,false⟩:Sub),0,0,0,0⟩:bE)) w) Q Q Q Q Q Q Q hq22 fun hq22 s37=>wi hF<|pG (p:=((⟨x3,List.replicate ((2:Int).toNat) 0,List.replicate ((3:Int).toNat) (⟨false,(⟨0,0,0,0⟩:dY),0,0,(⟨0,0,0,0,0,0,0,0,0,false⟩:Sub),0,0,0,0⟩:bE),x4,[],0⟩:aG))) (s33.1,s33.2.1,s33.2.2.1,s33.2.2.2.1,s33.2.2.2.2.1,s33.2.2.2.2.2.1,s33.2.2.2.2.2.2,s32,s37,s36) [2,3,4,5,6,7,8,1,10,9,0] Q Q)) (have hq23:=rn hA3;FR ((⟨false,(⟨0,0,0,0⟩:dY),0,0,(⟨0,0,0,0,0,0,0,0,0,false⟩:Sub),0,0,0,0⟩:bE):bE) hO (fun w=>mV (uS (⟨false,(⟨0,0,0,0⟩:dY),0,0,(⟨0,0,0,0,0,0,0,0,0,false⟩:Sub),0,0,0,0⟩:bE)) w) Q Q Q Q Q Q Q hq23 fun hq23 s38=>have hq24:=rb hA1;wi hq24<|c1 Q (fun _=>wU) fun u10 s39=>fun hq24=>match u10,hq24 with | _,rfl=>have hq25:=rb hA4;wi hq25<|c1 Q (fun h=>gU (h.a h1)) fun u11 s40=>fun hq25=>match u11,hq25 with | _,rfl=>wi hF<|pG (p:=((⟨x3,List.replicate ((2:Int).toNat) 0,List.replicate ((3:Int).toNat) (⟨false,(⟨0,0,0,0⟩:dY),0,0,(⟨0,0,0,0,0,0,0,0,0,false⟩:Sub),0,0,0,0⟩:bE),x4,[],0⟩:aG))) (s39.1,s39.2.1,s39.2.2.1,s39.2.2.2.1,s39.2.2.2.2.1,s39.2.2.2.2.2.1,s39.2.2.2.2.2.2,s32,s38,s40) [3,4,5,6,7,8,9,1,2,10,0] Q Q)) (have hq26:=rn hA3;FR ((⟨false,(⟨0,0,0,0⟩:dY),0,0,(⟨0,0,0,0,0,0,0,0,0,false⟩:Sub),0,0,0,0⟩:bE):bE) hO (fun w=>mV (uS (⟨false,(⟨0,0,0,0⟩:dY),0,0,(⟨0,0,0,0,0,0,0,0,0,false⟩:Sub),0,0,0,0⟩:bE)) w) Q Q Q Q Q Q Q hq26 fun hq26 s41=>j8 Q Q (have hq27:=rb hA1;wi hq27<|c1 Q (fun _=>wU) fun u12 s42=>fun hq27=>match u12,hq27 with | _,rfl=>j8 Q Q (have hq28:=rn hA2;FR (0:Int) aV (fun w=>mV Q w) Q Q Q Q Q Q Q hq28 fun hq28 s43=>have hq29:=rb hA4;wi hq29<|c1 Q (fun h=>gU (h.a h1)) fun u13 s44=>fun hq29=>match u13,hq29 with | _,rfl=>wi hF<|pG (p:=((⟨x3,List.replicate ((2:Int).toNat) 0,List.replicate ((3:Int).toNat) (⟨false,(⟨0,0,0,0⟩:dY),0,0,(⟨0,0,0,0,0,0,0,0,0,false⟩:Sub),0,0,0,0⟩:bE),x4,[],0⟩:aG))) (s42.1,s42.2.1,s42.2.2.1,s42.2.2.2.1,s42.2.2.2.2.1,s42.2.2.2.2.2.1,s42.2.2.2.2.2.2,s43,s41,s44) [2,3,4,5,6,7,8,9,1,10,0] Q Q) (have hq30:=rb hA4;wi hq30<|c1 Q (fun h=>gU (h.a h1)) fun u14 s45=>fun hq30=>match u14,hq30 with | _,rfl=>have hq31:=rn hA2;FR (0:Int) aV (fun w=>mV Q w) Q Q Q Q Q Q Q hq31 fun hq31 s46=>wi hF<|pG (p:=((⟨x3,List.replicate ((2:Int).toNat) 0,List.replicate ((3:Int).toNat) (⟨false,(⟨0,0,0,0⟩:dY),0,0,(⟨0,0,0,0,0,0,0,0,0,false⟩:Sub),0,0,0,0⟩:bE),x4,[],0⟩:aG))) (s42.1,s42.2.1,s42.2.2.1,s42.2.2.2.1,s42.2.2.2.2.1,s42.2.2.2.2.2.1,s42.2.2.2.2.2.2,s46,s41,s45) [2,3,4,5,6,7,8,10,1,9,0] Q Q)) (have hq32:=rn hA2;FR (0:Int) aV (fun w=>mV Q w) Q Q Q Q Q Q Q hq32 fun hq32 s47=>have hq33:=rb hA1;wi hq33<|c1 Q (fun _=>wU) fun u15 s48=>fun hq33=>match u15,hq33 with | _,rfl=>have hq34:=rb hA4;wi hq34<|c1 Q (fun h=>gU (h.a h1)) fun u16 s49=>fun hq34=>match u16,hq34 with | _,rfl=>wi hF<|pG (p:=((⟨x3,List.replicate ((2:Int).toNat) 0,List.replicate ((3:Int).toNat) (⟨false,(⟨0,0,0,0⟩:dY),0,0,(⟨0,0,0,0,0,0,0,0,0,false⟩:Sub),0,0,0,0⟩:bE),x4,[],0⟩:aG))) (s48.1,s48.2.1,s48.2.2.1,s48.2.2.2.1,s48.2.2.2.2.1,s48.2.2.2.2.2.1,s48.2.2.2.2.2.2,s47,s41,s49) [3,4,5,6,7,8,9,2,1,10,0] Q Q))) fun x2 ⟨s2,s3,s4,s5,s6,s7,s8,s9,s10,s11⟩=>fun hF=>sR Q<|Y0 Ev<|rW (hT:=tok) (s2,s3,s4,s5,s6,s7,s8,s9,s10,s11,⟨none,0⟩) [0,1,2,3,4,5,6,7,8,9,11] hF Q results53 Q Q Q Q
theorem m5{x:m7}{s1 s2:AC}(h1:bB κ s1 x.dT)(h2:bB κ s2 x.eO):VS prog κ 11 (jV x) [.g [.h s1 x.dT.length,.h s2 x.eO.length]] [] [] (fun r (y:a1C)=>.g (yS r y)) (fun r y=>(zS r y [])):=
 c9 tok call11 func11 results11 Q Q<|c1 Q (fun h=>aDO (h.a h1)) fun x1 s3=>bU [12] Q Q (oL s3 [2,3,4,5,6,7,8,9,10,11,12] Q Q)<|fun hF=>a50 Q Q Q Q<|a52 Q Q Q Q Q h2 Q Q hF fun hF s4 h3=>wi hF<|QF (s3.1,s3.2.1,s3.2.2.1,s3.2.2.2.1,s3.2.2.2.2.1,s3.2.2.2.2.2.1,s3.2.2.2.2.2.2.1,s3.2.2.2.2.2.2.2.2.2.2) [2,3,20,21] (fun(p:Int×aG) (u:A8C)=>[(22,I p.1)]) [2,3,4,5,6,7,8,9,10,11,12,13,1] [1] (fun p u=>(oS p.2 u.1 u.2.1 u.2.2.1 u.2.2.2.1 u.2.2.2.2.1 u.2.2.2.2.2.1 u.2.2.2.2.2.2.1 s3.2.2.2.2.2.2.2.1 s3.2.2.2.2.2.2.2.2.1 s3.2.2.2.2.2.2.2.2.2.1 u.2.2.2.2.2.2.2 [.box 2 (gS p.2 u.1 u.2.1 u.2.2.1 u.2.2.2.1 u.2.2.2.2.1 u.2.2.2.2.2.1 u.2.2.2.2.2.2.1 s3.2.2.2.2.2.2.2.1 s3.2.2.2.2.2.2.2.2.1 s3.2.2.2.2.2.2.2.2.2.1 u.2.2.2.2.2.2.2)])) id [2,3] (fun(x6:aG) (u:A8C)=>[]) [1] (fun x6 u=>(oS x6 u.1 u.2.1 u.2.2.1 u.2.2.2.1 u.2.2.2.2.1 u.2.2.2.2.2.1 u.2.2.2.2.2.2.1 s3.2.2.2.2.2.2.2.1 s3.2.2.2.2.2.2.2.2.1 s3.2.2.2.2.2.2.2.2.2.1 u.2.2.2.2.2.2.2 [.box 2 (gS x6 u.1 u.2.1 u.2.2.1 u.2.2.2.1 u.2.2.2.2.1 u.2.2.2.2.2.1 u.2.2.2.2.2.2.1 s3.2.2.2.2.2.2.2.1 s3.2.2.2.2.2.2.2.2.1 s3.2.2.2.2.2.2.2.2.2.1 u.2.2.2.2.2.2.2)])) Q Q (fun hF1 ⟨x4,x5⟩ ⟨s13,s14,s15,s16,s17,s18,s19,s20⟩ hr1=>bU [23] Q Q (jC 2 3 (vA x4) [2,3,20,21,22] (fun(x7:aG) (u:A8C)=>[]) [12] (fun x7 u=>(oS x7 u.1 u.2.1 u.2.2.1 u.2.2.2.1 u.2.2.2.2.1 u.2.2.2.2.2.1 u.2.2.2.2.2.2.1 s3.2.2.2.2.2.2.2.1 s3.2.2.2.2.2.2.2.2.1 s3.2.2.2.2.2.2.2.2.2.1 u.2.2.2.2.2.2.2 [.box 2 (gS x7 u.1 u.2.1 u.2.2.1 u.2.2.2.1 u.2.2.2.2.1 u.2.2.2.2.2.1 u.2.2.2.2.2.2.1 s3.2.2.2.2.2.2.2.1 s3.2.2.2.2.2.2.2.2.1 s3.2.2.2.2.2.2.2.2.2.1 u.2.2.2.2.2.2.2)])) Q (V5 Q h3 Q fun x8=>c0 Q (fun _=>gW) fun x9=>bU [27] Q Q (dW 11 2 0 13 [0,1,2,3,4,5,6,7,8,9,10] Q Q Q Q Q (fun _=>ZN) fun x10 s37=>pG s37 [14,15,16,17,18,19,20,21,22,23,24,11,12] Q Q)<|pG (s13,s14,s15,s16,s17,s18,s19,s20) [0,1,2,3,4,5,6,7,8,9,10,11,12] Q Q) fun x7 ⟨s29,s30,s31,s32,s33,s34,s35,s36⟩=>nxW (s29,s30,s31,s32,s33,s34,s35,s36) [0,1,2,3,4,5,6,7,8,9,10,11,12] Q)<|bkW (s13,s14,s15,s16,s17,s18,s19,s20) [0,1,2,3,4,5,6,7,8,9,10,11,12] Q) fun x6 ⟨s21,s22,s23,s24,s25,s26,s27,s28⟩=>oL (s21,s22,s23,s24,s25,s26,s27,s3.2.2.2.2.2.2.2.1,s3.2.2.2.2.2.2.2.2.1,s3.2.2.2.2.2.2.2.2.2.1,s28) [0,1,2,3,4,5,6,7,8,9,10] Q Q
theorem aI8{l:List Ev}{i cell:Int}{s1:AC}(h_s1:bB κ s1 l):V0 prog κ 12 (IC l i cell) [.h s1 l.length,I i,I cell] (fun(r:Ev)=>.g [I r.Kind,I r.Who,I r.aI,I r.Cell,I r.Handle,I r.dQ,I r.Code]):=
 fun r hF=>a39 call12 fun hm vs hv=>by cases hv;exact Calls.mono (aIV (hm (CS [AC.v s1 l.length] l) h_s1) hF) fun _ _ ⟨v,h1,h2,h3⟩=>⟨v,h1,by rw [h2];rfl,h3⟩
theorem aI9{l:List Ev}{i cell:Int}{s1:AC}(h1:bB κ s1 l):V0 prog κ 13 (M6 l i cell) [.h s1 l.length,I i,I cell] (fun r=>.g [I r.Kind,I r.Who,I r.aI,I r.Cell,I r.Handle,I r.dQ,I r.Code]):=
 c9 tok call13 func13 results13 Q Q<|QF () [0,1,2,6,7] (fun(p:Int×Ev) (_:Unit)=>[(8,I p.1)]) [1,0] [0] (fun p _=>[.box 1 [I p.2.Kind,I p.2.Who,I p.2.aI,I p.2.Cell,I p.2.Handle,I p.2.dQ,I p.2.Code]]) id [6,7] (fun(x5:Ev) (_:Unit)=>[]) [0] (fun x5 _=>[.box 1 [I x5.Kind,I x5.Who,I x5.aI,I x5.Cell,I x5.Handle,I x5.dQ,I x5.Code]]) Q Q (fun hF1 ⟨x3,x4⟩ _ hr1=>cV 0 2 (v7 l cell x3 x4) [0,1,2,6,7,8] 18 [1,0] Q (eA [12,13] Q Q (bR [1,0] Q Q)<|bR [1,0] Q Q) fun x6=>bU [18] Q Q (jC 2 2 (EI x3) [0,1,2,6,7,8] (fun(x7:Ev) (_:Unit)=>[]) [0] (fun x7 _=>[.box 1 [I x7.Kind,I x7.Who,I x7.aI,I x7.Cell,I x7.Handle,I x7.dQ,I x7.Code]]) Q (cV 0 2 (EJ l x3 x4) [0,1,2,6,7,8] 35 [0,1] Q (DG cEv Q h1 Q fun x10 _ _=>eA [26,27] Q Q (DG cEv Q h1 Q fun x11 _ _=>bR [0,1] Q Q)<|bR [0,1] Q Q) fun x8=>bU [35] Q Q (DG cEv Q h1 Q fun x9 _ _=>bR [1,0] Q Q)<|bR [1,0] Q Q) fun x7 _=>JG [0,1] Q)<|FV [1,0] Q) fun x5 _=>cM Q Q
theorem aGP{l:List Ev}{i serial:Int}{s1:AC}(h1:bB κ s1 l):V0 prog κ 56 (J8 l i serial) [.h s1 l.length,I i,I serial] I:=
 c9 tok call56 func56 results56 Q Q<|QF () [0,1,2] (fun(p:Int×Int) (_:Unit)=>[(7,I p.1),(8,I p.2)]) [] [] (fun p _=>[]) id [] (fun(x5:Int) (_:Unit)=>[(7,I x5)]) [] (fun x5 _=>[]) Q Q (fun hF1 ⟨x3,x4⟩ _ hr1=>bU [11] Q Q (jC 2 0 (BH x4) [0,1,2,8] (fun(x6:Int) (_:Unit)=>[(7,I x6)]) [] (fun x6 _=>[]) Q (cV 0 0 (BI x3 x4) [0,1,2,7,8] 28 [] Q (DG cEv Q h1 Q fun x8 _ _=>eA [19,20] Q Q (DG cEv Q h1 Q fun x9 _ _=>bR [] Q Q)<|bR [] Q Q) fun x7=>bU [28] Q Q (bR [] Q Q)<|bR [] Q Q) fun x6 _=>JG [] Q)<|FV [] Q) fun x5 _=>cM Q Q
theorem aGQ{l:List Ev}{s1:AC}(h1:bB κ s1 l):V0 prog κ 14 (J9 l) [.h s1 l.length] .b:=
 c9 tok call14 func14 results14 Q Q<|OO 3 [0] [] Out.brk [] [] Q Q (fun hF1 x2 hr1=>bU [9] Q Q (jC 2 0 (fun(_:Unit)=>l4 x2) [0,3] (fun(_:Unit) (_:Unit)=>[]) [] (fun _ _=>[]) Q (DG cEv Q h1 Q fun x3 _ _=>c0 Q (fun h=>aGP (h.a h1)) fun x4=>cV 0 1 (nS l x2 x4) [0,3,4] 29 [] Q (DG cEv Q h1 Q fun x14 _ _=>eA [25,26] Q Q (bR [] Q Q)<|bR [] Q Q) fun x5=>bU [29] Q Q (bR (p:=()) [] Q Q)<|DG cEv Q h1 Q fun x6 _ _=>c0 Q (fun h=>aI9 (h.a h1)) fun x7=>DG cEv Q h1 Q fun x8 _ _=>bU [43,44] Q Q (cV 0 4 (tH x2) [0,3] 67 [] Q (pP aP [0,1,2] Q<|eA [47,48] Q Q (bR [] Q Q)<|DG cEv Q h1 Q fun x10 _ _=>eA [56,57,58] Q Q (bR [] Q Q)<|DG cEv Q h1 Q fun x11 _ _=>bR [] Q Q) fun x9=>bU [67] Q Q (MC hr1 hF1<|cM Q Q)<|bR (p:=()) [] Q Q)<|bU [68,69] Q Q (cV 0 4 (BK x2) [0,3] 80 [] Q (eA [72,73] Q Q (bR [] Q Q)<|DG cEv Q h1 Q fun x13 _ _=>bR [] Q Q) fun x12=>bU [80] Q Q (MC hr1 hF1<|cM Q Q)<|bR (p:=()) [] Q Q)<|bR (p:=()) [] Q Q) fun _ _=>JG [] Q)<|FV [] Q)<|cM Q Q
theorem PQ{s:List Int}{del:(Int->Option Bool)}{s1:AC}{g_del:FuncId}{cap_del:List Value}(h_del:Fu1 prog κ (cI:MB Int) .b g_del cap_del del):VS prog κ 118 (nI s del) [.h s1 s.length,.k (.func (.func g_del) #[] cap_del.toArray)] [] [ow s1 (s:List Int)] (fun(r:(List Int)) (y:AC)=>.h y r.length) (fun(r:(List Int)) (y:AC)=>[ow y r]):=
 c9 tok call118 func118 results118 Q Q<|c0 Q (fun h=>E6 (h.o 0 Q) (h.u1 h_del)) fun x1=>bU [12] Q Q (oL s1 [0] Q Q)<|QF () [1] (fun(p:(List Int)×Int×Int) (_:Unit)=>[(0,.h s1 p.1.length),(5,I p.2.1),(6,I p.2.2)]) [0] [] (fun p _=>[ow s1 (p.1:List Int)]) id [] (fun(p:(List Int)×Int) (_:Unit)=>[(0,.h s1 p.1.length),(5,I p.2)]) [] (fun p _=>[ow s1 (p.1:List Int)]) Q Q (fun hF1 ⟨x5,x6,x7⟩ _ hr1=>bU [19] Q Q (jC 2 0 (fun(p:(List Int)×Int)=>iZ x7 p.1 p.2) [1,6] (fun(p:(List Int)×Int) (_:Unit)=>[(0,.h s1 p.1.length),(5,I p.2)]) [] (fun p _=>[ow s1 (p.1:List Int)]) Q (uF oI 0 Q Q Q fun x12 h3 _ h4=>fun hG1=>m6 0 h4 h3 Q Q Q Q Q<|fa1 h_del x12 () Q Q Q Q Q trivial hG1 fun x13 _ hG1=>wi hG1<|bU [29] Q Q (fun hG1=>QD oI 1 [] h3 () Q Q Q Q Q Q Q Q Q<|wi hG1<|uF oI 4 Q Q Q fun x14 h5 _ h6=>fun hG1=>m6 1 h6 h5 Q Q Q Q Q<|sF Q<|rX oI 5 [] [0,17,22,30] x12 () Q Q Q Q Q Q Q Q<|uE (p:=(x5.set x6.toNat x12,aY (x6+1))) () [8] hG1 Q)<|fun hG1=>sF Q<|pS oI 1 [] h3 () Q Q Q Q Q Q Q<|uE (p:=(x5,x6)) () [4] hG1 Q) fun⟨x10,x11⟩ _=>JG [0] Q)<|FV [0] Q) fun⟨x8,x9⟩ _=>fun hF=>cpc 0 Q Q fun hc1=>aNQ hc1 Q Q Q Q Q Q hF fun hF h1=>clr 0 x9.toNat x8.length (0:Int) h1 aV Q (fun _=>Q) Q Q Q Q Q Q Q Q<|rr s1 (fE (xs:=List.replicate (x8.length - x9.toNat) 0) (yN h1.1 h1.2)).symm [0,36] [] [] Q Q Q Q<|cpc 0 Q Q fun hc2=>aPW hc2 Q Q Q Q Q Q hF fun hF h2=>sR Q<|poR 0 0 x9.toNat Q Q h2 Q<|rW (hT:=tok) (AC.sub s1 1 0) [0] hF Q results118 Q Q Q Q
theorem X3{n:Int}:V0 prog κ 119 (GG n) [I n] .b:=
 c9 tok call119 func119 results119 Q Q<|cM Q Q
theorem SM{x:Int}:V0 prog κ 322 (cmp_isNaN_int x) [I x] .b:=
 c9 tok call322 func322 results322 Q Q<|cM Q Q
theorem UK{x y:Int}:V0 prog κ 270 (cmp_Less_int x y) [I x,I y] .b:=
 c9 tok call270 func270 results270 Q Q<|cV 0 0 tI [] 4 [] Q (c0 Q (fun _=>SM) fun x2=>eA [6,7] Q Q (c0 Q (fun _=>SM) fun x3=>eA [10,11,12] Q Q (bR [] Q Q)<|bR [] Q Q)<|bR [] Q Q) fun x1=>cM Q Q
theorem C9{data:List Int}{a_ b:Int}{s1:AC}:VS prog κ 264 (iC data a_ b) [.h s1 data.length,I a_,I b] [] [ow s1 (data:List Int)] (fun(r:(List Int)) (y:Unit)=>.t []) (fun(r:(List Int)) (y:Unit)=>[.o (gI [AC.v s1 data.length] r)]):=
 c9 tok call264 func264 results264 Q Q<|QF () [1,2] (fun(p:(List Int)×Int) (_:Unit)=>[(0,.h s1 p.1.length),(6,I p.2)]) [0] [] (fun p _=>[ow s1 (p.1:List Int)]) id [] (fun(x5:(List Int)) (_:Unit)=>[(0,.h s1 x5.length)]) [] (fun x5 _=>[ow s1 (x5:List Int)]) Q Q (fun hF1 ⟨x3,x4⟩ _ hr1=>fun hG1=>nd hG1 fun hl3 hG1=>wi hG1<|bU [12] Q Q (QF () [1,2,6] (fun(p:(List Int)×Int) (_:Unit)=>[(0,.h s1 p.1.length),(7,I p.2)]) [0] [] (fun p _=>[ow s1 (p.1:List Int)]) id [1,2,6] (fun(x10:(List Int)) (_:Unit)=>[(0,.h s1 x10.length)]) [] (fun x10 _=>[ow s1 (x10:List Int)]) Q Q (fun hF2 ⟨x8,x9⟩ _ hr2=>fun hG2=>nd hG2 fun hl6 hG2=>wi hG2<|cV 0 0 (dO data x8 x9) [0,1,2,6,7] 30 [0] Q (pP aP [] Q<|eA [18,19] Q Q (uF oI 0 Q Q Q fun x16 h27 _ h28=>fun hG2=>m6 0 h28 h27 Q Q Q Q Q<|QD oI 1 [] h27 () Q Q Q Q Q Q Q Q Q<|wi hG2<|uF oI 4 Q Q Q fun x17 h29 _ h30=>fun hG2=>m6 1 h30 h29 Q Q Q Q Q<|bd hG2 fun x18 hA2 hG2=>j8 Q Q (QD oI 5 [] h29 () Q Q Q Q Q Q Q Q Q<|have hq8:=rb h27;ro oI 8 3 0 Q Q Q Q hq8 fun u8 h35 hq8 _=>match u8,hq8 with | _,rfl=>QD oI 9 [] h35 () Q Q Q Q Q Q Q Q Q<|have hq9:=rb h29;ro oI 12 7 1 Q Q Q Q hq9 fun u9 h37 hq9 _=>match u9,hq9 with | _,rfl=>have hq10:=rb hA2;wi hq10<|c0 Q (fun _=>UK) fun u10=>fun hq10=>match u10,hq10 with | _,rfl=>sF Q<|pS oI 13 [] h37 () Q Q Q Q Q Q Q<|uE (p:=(x18)) () [16] hG2 Q) (QD oI 5 [] h29 () Q Q Q Q Q Q Q Q Q<|have hq11:=rb h27;ro oI 8 3 0 Q Q Q Q hq11 fun u11 h39 hq11 _=>match u11,hq11 with | _,rfl=>have hq12:=rb hA2;wi hq12<|c0 Q (fun _=>UK) fun u12=>fun hq12=>match u12,hq12 with | _,rfl=>sF Q<|pS oI 9 [] h39 () Q Q Q Q Q Q Q<|uE (p:=(x18)) () [12] hG2 Q))<|bR (p:=(false)) [0] Q Q) fun x11=>fun hG2=>nd hG2 fun hl7 hG2=>wi hG2<|bU [30] Q Q (jC 0 0 (jE data x9) [1,2,6,7] (fun(x12:(List Int)) (_:Unit)=>[(0,.h s1 x12.length)]) [] (fun x12 _=>[ow s1 (x12:List Int)]) Q (pP aP [] Q<|uF oI 0 Q Q Q fun x13 h1 _ h2=>fun hG2=>m6 0 h2 h1 Q Q Q Q Q<|QD oI 1 [] h1 () Q Q Q Q Q Q Q Q Q<|wi hG2<|uF oI 4 Q Q Q fun x14 h3 _ h4=>fun hG2=>m6 1 h4 h3 Q Q Q Q Q<|bd hG2 fun x15 hA1 hG2=>j8 Q Q (QD oI 5 [] h3 () Q Q Q Q Q Q Q Q Q<|have hq1:=rb h1;ro oI 8 3 0 Q Q Q Q hq1 fun u1 h13 hq1 _=>match u1,hq1 with | _,rfl=>QD oI 9 [] h13 () Q Q Q Q Q Q Q Q Q<|have hq2:=rb h3;ro oI 12 7 1 Q Q Q Q hq2 fun u2 h15 hq2 _=>match u2,hq2 with | _,rfl=>QD oI 13 [] h15 () Q Q Q Q Q Q Q Q Q<|have hq3:=rb h3;wi hq3<|uF oI 16 Q Q Q fun u3 h17 _ h18=>fun hq3=>m6 2 h18 h17 Q Q Q Q Q<|match u3,hq3 with | _,rfl=>ceS oI 17 [] [0,33,35,38,43] x13 () Q Q Q Q Q Q Q Q Q Q<|have hq4:=rb hA1;wi hq4<|uF oI 20 Q Q Q fun u4 h19 _ h20=>fun hq4=>m6 3 h20 h19 Q Q Q Q Q<|match u4,hq4 with | _,rfl=>sF Q<|rX oI 21 [] [0,33,35,38,43] x14 () Q Q Q Q Q Q Q Q<|uE (p:=((x8.set x9.toNat x13).set ((aY (x9 - 1)).toNat) x14)) () [24] hG2 Q) (QD oI 5 [] h3 () Q Q Q Q Q Q Q Q Q<|have hq5:=rb h1;ro oI 8 3 0 Q Q Q Q hq5 fun u5 h21 hq5 _=>match u5,hq5 with | _,rfl=>QD oI 9 [] h21 () Q Q Q Q Q Q Q Q Q<|have hq6:=rb h3;wi hq6<|uF oI 12 Q Q Q fun u6 h23 _ h24=>fun hq6=>m6 2 h24 h23 Q Q Q Q Q<|match u6,hq6 with | _,rfl=>ceS oI 13 [] [0,33,35,38,43] x13 () Q Q Q Q Q Q Q Q Q Q<|have hq7:=rb hA1;wi hq7<|uF oI 16 Q Q Q fun u7 h25 _ h26=>fun hq7=>m6 3 h26 h25 Q Q Q Q Q<|match u7,hq7 with | _,rfl=>sF Q<|rX oI 17 [] [0,33,35,38,43] x14 () Q Q Q Q Q Q Q Q<|uE (p:=((x8.set x9.toNat x13).set ((aY (x9 - 1)).toNat) x14)) () [20] hG2 Q)) fun x12 _=>fun hG2=>nd hG2 fun hl8 hG2=>wi hG2<|JG [0] Q)<|FV [0] Q) fun x10 _=>fun hG1=>nd hG1 fun hl5 hG1=>wi hG1<|JG [0] Q)<|FV [0] Q) fun x5 _=>fun hF=>nd hF fun hl2 hF=>sF Q<|pnR 0 hl2 Q<|rW (hT:=tok) () [0] hF Q results264 Q Q Q Q
theorem KM{data:List Int}{a_ b limit:Int}{s1:AC}:VS prog κ 197 (nN data a_ b limit) [.h s1 data.length,I a_,I b,I limit] [] [ow s1 (data:List Int)] (fun(r:(List Int)) (y:Unit)=>.t []) (fun(r:(List Int)) (y:Unit)=>[.o (gI [AC.v s1 data.length] r)]):=
 c9 tok call197 func197 results197 Q Q<|lrW () [0,1,2,3,8,9] (fun(_:Unit) (_:Unit)=>[]) [0] [0] (fun _ _=>[]) Q Q (fun hF1 _ _ hr1=>bU [23] Q Q (QG [0] Q Q Q Q (fun _=>C9) fun x1 _=>fun hG1=>un 1 [0,24] [] [] Q Q Q Q Q Q fun hl2=>sR Q<|pnR 1 hl2 Q<|rW (hT:=tok) () [1] (re hG1 Q hr1 hF1) Q results197 Q Q Q Q)<|bU [29] Q Q (fun hG1=>nomatch hG1)<|fun hG1=>nomatch hG1)
theorem ZP{x:Int}:V0 prog κ 274 (R5 x) [.i .u64 x] I:=
 c9 tok call274 func274 results274 Q Q<|jC 0 0 (fun(p:Int×Int)=>CH p.1 p.2) [] (fun(p:Int×Int) (_:Unit)=>[(0,.i .u64 p.1),(2,I p.2)]) [] (fun p _=>[]) Q (bU [4] Q Q (bR (p:=(oK .u64 x 32,32)) [] Q Q)<|bR (p:=(x,0)) [] Q Q) fun⟨x1,x2⟩ _=>jC 0 0 (fun(p:Int×Int)=>CG p.1 p.2) [] (fun(p:Int×Int) (_:Unit)=>[(0,.i .u64 p.1),(2,I p.2)]) [] (fun p _=>[]) Q (bU [8] Q Q (bR (p:=(oK .u64 x1 16,aY (x2+16))) [] Q Q)<|bR (p:=(x1,x2)) [] Q Q) fun⟨x3,x4⟩ _=>jC 0 0 (fun(p:Int×Int)=>CF p.1 p.2) [] (fun(p:Int×Int) (_:Unit)=>[(0,.i .u64 p.1),(2,I p.2)]) [] (fun p _=>[]) Q (bU [14] Q Q (bR (p:=(oK .u64 x3 8,aY (x4+8))) [] Q Q)<|bR (p:=(x3,x4)) [] Q Q) fun⟨x5,x6⟩ _=>fun hF=>qsi Q Q Q Q Q hF fun x7 _ hF=>wi hF<|cM Q Q
theorem aDP{x:Int}:V0 prog κ 198 (zR x) [.i .u64 x] I:=
 c9 tok call198 func198 results198 Q Q<|c0 Q (fun _=>ZP) fun x1=>cM Q Q
theorem ZQ{x:List Int}{s1:AC}:VS prog κ 120 (BM x) [.h s1 x.length] [] [ow s1 (x:List Int)] (fun(r:(List Int)) (y:Unit)=>.t []) (fun(r:(List Int)) (y:Unit)=>[.o (gI [AC.v s1 x.length] r)]):=
 c9 tok call120 func120 results120 Q Q<|c0 Q (fun _=>aDP) fun x1=>QG [0] Q Q Q Q (fun _=>KM) fun x2 _=>fun hF=>un 1 [0,3,5] [] [] Q Q Q Q Q Q fun hl1=>sF Q<|pnR 1 hl1 Q<|rW (hT:=tok) () [1] hF Q results120 Q Q Q Q
theorem UL{s:List Int}{s1:AC}:VS prog κ 121 (slices_Compact_int s) [.h s1 s.length] [] [ow s1 s] (fun r (y:AC)=>.h y r.length) (fun r y=>[ow y r]):=
 a70 a6I call121
theorem PR{list:List Int}{s1:AC}(h1:bB κ s1 list):VS prog κ 59 (v8 list) [.h s1 list.length] [] [] (fun r (y:AC)=>.h y r.length) (fun r y=>[ow y r]):=
 c9 tok call59 func59 results59 Q Q<|c1 Q (fun h=>fS (h.a h1)) fun x1 s2=>QG [0] Q Q Q Q (fun _=>PQ (a7Y call119 fun _=>X3)) fun x2 s3=>QG [1] Q Q Q Q (fun _=>ZQ) fun x3 _=>fun hF=>un 2 [3,6,7] [] [] Q Q Q Q Q Q fun hl1=>wi hF<|QG [2] Q Q Q Q (fun _=>UL) fun x4 s4=>oL s4 [3] Q Q
theorem aLK{s:aG}{s1 s2 s3 s4 s5 s6 s7 s8 s9 s10 s11:AC}(h1:bB κ s1 s.aA.Mem.aC.Bytes)(h2:bB κ s2 s.aA.Mem.aC.Class)(h3:bB κ s3 s.aA.Mem.aB.Global)(h4:bB κ s4 s.aA.Mem.aB.Own)(h5:bB κ s5 s.aA.aD.b9)(h6:bB κ s6 s.aA.aO)(h7:bB κ s7 s.aA.l7)(h8:bB κ s8 s.Cells)(h9:bB κ s9 s.aX)(h10:bB κ s10 s.dT)(h11:bB κ s11 s.Log):VS prog κ 17 (QQ s) [.g (gS s s1 s2 s3 s4 s5 s6 s7 s8 s9 s10 s11)] [] [] (fun r (y:AC)=>.h y r.length) (fun r y=>[ow y r]):=
 c9 tok call17 func17 results17 Q Q<|c0 Q (fun h=>FA (h.a h1) (h.a h2) (h.a h3) (h.a h4) (h.a h5) (h.a h6) (h.a h7) (h.a h8) (h.a h9) (h.a h10) (h.a h11)) fun x1=>bU [8] Q Q (fun hF=>sR Q<|Y0 Int<|rW (hT:=tok) ⟨none,0⟩ [1] hF Q results17 Q Q Q Q)<|c1 Q (fun h=>fS (h.a h8)) fun x2 s12=>QF s12 [13,14] (fun(p:(List Int)×Int) (s14:AC)=>[(3,.h s14 p.1.length),(15,I p.2)]) [1] [] (fun p s14=>[ow s14 (p.1:List Int)]) id [] (fun(x7:(List Int)) (s15:AC)=>[(3,.h s15 x7.length)]) [] (fun x7 s15=>[ow s15 (x7:List Int)]) Q Q (fun hF1 ⟨x5,x6⟩ s14 hr1=>bU [16] Q Q (jC 2 1 (zT x6) [13,14,15] (fun(x9:(List Int)) (s17:AC)=>[(3,.h s17 x9.length)]) [] (fun x9 s17=>[ow s17 (x9:List Int)]) Q (DG aIW Q h9 Q fun x10 _ _=>cV 0 3 (HI x5 x6 x10) [3,5,13,14,15] 19 [0,2] Q (eA [23,24] Q Q (c0 Q (fun _=>cA) fun x13=>bR [0,2] Q Q)<|bR [0,2] Q Q) fun x11=>bU [19] Q Q (fun hG1=>lt1 Q aV Q Q Q Q fun s18=>ap 0 aV Q Q Q Q Q Q Q (fun h=>(h.o 2 Q)) Q Q hG1 fun hG1 s19=>wi hG1<|pG s19 [0] Q Q)<|cV 0 3 (HH x5 x6 x10) [3,5,13,14,15] 34 [0,1] Q (eA [38,39] Q Q (bR [0,1] Q Q)<|bR [0,1] Q Q) fun x12=>bU [34] Q Q (fun hG1=>lt1 Q aV Q Q Q Q fun s20=>ap 0 aV Q Q Q Q Q Q Q (fun h=>(h.o 2 Q)) Q Q hG1 fun hG1 s21=>wi hG1<|pG s21 [0] Q Q)<|pG s14 [0] Q Q) fun x9 s17=>nxW s17 [0] Q)<|bkW s14 [0] Q) fun x7 s15=>c1 Q (fun h=>PR (h.o 0 Q)) fun x8 s16=>oL s16 [1] Q Q
theorem aGR{b:List Int}{s1:AC}(h1:bB κ s1 b):V0 prog κ 275 (KA b) [.h s1 b.length] .b:=
 c9 tok call275 func275 results275 Q Q<|OO 3 [0] [] Out.brk [0] [] Q Q (fun hF1 x2 hr1=>bU [7] Q Q (V5 Q h1 Q fun x3=>c0 Q (fun _=>dD) fun x4=>bU [15] Q Q (MC hr1 hF1<|cM Q Q)<|JG [] Q)<|FV [] Q)<|cM Q Q
theorem aGS{h:aC}{s1 s2:AC}(h1:bB κ s1 h.Bytes)(h2:bB κ s2 h.Class):V0 prog κ 199 (KB h) [.g [.h s1 h.Bytes.length,.h s2 h.Class.length]] .b:=
 c9 tok call199 func199 results199 Q Q<|cV 0 1 (tK h) [1] 19 [0] Q (eA [7,8] Q Q (bR [0] Q Q)<|eA [12,13,14] Q Q (bR [0] Q Q)<|c0 Q (fun h=>aGR (h.a h1)) fun x6=>bR [0] Q Q) fun x1=>bU [19] Q Q (cM Q Q)<|OO 3 [1] [0] Out.brk [] [] Q Q (fun hF2 x3 hr2=>bU [21] Q Q (V5 Q h2 Q fun x4=>c0 Q (fun _=>dD) fun x5=>bU [30] Q Q (MC hr2 hF2<|cM Q Q)<|JG [0] Q)<|FV [] Q)<|cM Q Q
theorem W0{b:List Int}{at_ width:Int}{s1:AC}(h1:bB κ s1 b):V0 prog κ 205 (wB b at_ width) [.h s1 b.length,I at_,I width] I:=
 c9 tok call205 func205 results205 Q Q<|QF () [0,1,2] (fun(p:Int×Int) (_:Unit)=>[(7,I p.1),(8,I p.2)]) [] [] (fun p _=>[]) id [] (fun(x5:Int) (_:Unit)=>[(7,I x5)]) [] (fun x5 _=>[]) Q Q (fun hF1 ⟨x3,x4⟩ _ hr1=>bU [11] Q Q (V5 Q h1 Q fun x6=>JG [] Q)<|FV [] Q) fun x5 _=>cM Q Q
theorem aJA{c:Int}:V0 prog κ 146 (oX c) [I c] I:=
 c9 tok call146 func146 results146 Q Q<|bU [4,5] Q Q (cM Q Q)<|bU [6,7] Q Q (cM Q Q)<|bU [8,9] Q Q (cM Q Q)<|cM Q Q
theorem SN{c:Int}:V0 prog κ 280 (zV c) [I c] I:=
 c9 tok call280 func280 results280 Q Q<|c0 Q (fun _=>dD) fun x1=>bU [5] Q Q (cM Q Q)<|c0 Q (fun _=>aJA) fun x2=>cM Q Q
theorem FD{c:Int}:V0 prog κ 276 (mN c) [I c] I:=
 c9 tok call276 func276 results276 Q Q<|c0 Q (fun _=>dD) fun x1=>bU [5] Q Q (cM Q Q)<|c0 Q (fun _=>SN) fun x2=>fun hF=>a5X Q Q Q Q hF fun hF=>wi hF<|cM Q Q
theorem OF{slot:Int}:V0 prog κ 278 (C3 slot) [I slot] I:=
 c9 tok call278 func278 results278 Q Q<|c0 Q (fun _=>dD) fun x1=>bU [5] Q Q (cM Q Q)<|cM Q Q
theorem LM{slot:Int}:V0 prog κ 279 (xR slot) [I slot] I:=
 c9 tok call279 func279 results279 Q Q<|c0 Q (fun _=>dD) fun x1=>bU [5] Q Q (cM Q Q)<|cM Q Q
theorem ZR{slot c:Int}:V0 prog κ 206 (wC slot c) [I slot,I c] I:=
 c9 tok call206 func206 results206 Q Q<|cV 0 0 (HJ slot c) [0,1] 16 [] Q (c0 Q (fun _=>OF) fun x5=>eA [7,8] Q Q (bR [] Q Q)<|c0 Q (fun _=>LM) fun x6=>c0 Q (fun _=>FD) fun x7=>c0 Q (fun _=>dD) fun x8=>bR [] Q Q) fun x1=>bU [16] Q Q (cM Q Q)<|c0 Q (fun _=>OF) fun x2=>c0 Q (fun _=>LM) fun x3=>c0 Q (fun _=>SN) fun x4=>cM Q Q
theorem aJB{page index:Int}:V0 prog κ 277 (rT page index) [I page,I index] I:=
 c9 tok call277 func277 results277 Q Q<|cV 0 0 (wD page index) [0,1] 12 [] Q (c0 Q (fun _=>dD) fun x2=>eA [7,8] Q Q (bR [] Q Q)<|c0 Q (fun _=>dD) fun x3=>bR [] Q Q) fun x1=>bU [12] Q Q (cM Q Q)<|cM Q Q
theorem aJC{h:aC}{p:Int}{s1 s2:AC}(h1:bB κ s1 h.Bytes)(h2:bB κ s2 h.Class):V0 prog κ 200 (M7 h p) [.g [.h s1 h.Bytes.length,.h s2 h.Class.length],I p] .b:=
 c9 tok call200 func200 results200 Q Q<|V5 Q h2 Q fun x1=>bU [18] Q Q (OO 7 [2,5] [0] Out.brk [] [] Q Q (fun hF1 x3 hr1=>bU [23] Q Q (V5 Q h1 Q fun x4=>bU [31] Q Q (MC hr1 hF1<|cM Q Q)<|JG [0] Q)<|FV [] Q)<|cM Q Q)<|cV 0 2 (lE h p x1) [1,2,5,6] 58 [0] Q (pP aP [0,1] Q<|V5 Q h1 Q fun x16=>eA [37,38] Q Q (bR [0] Q Q)<|V5 Q h1 Q fun x17=>eA [46,47,48] Q Q (bR [0] Q Q)<|V5 Q h1 Q fun x18=>c0 Q (fun _=>FD) fun x19=>bR [0] Q Q) fun x5=>bU [58] Q Q (cM Q Q)<|OO 8 [1,2,5,6] [0] Out.brk [1,2,6] [0] Q Q (fun hF3 x7 hr3=>bU [64] Q Q (V5 Q h1 Q fun x15=>bU [72] Q Q (MC hr3 hF3<|cM Q Q)<|JG [0] Q)<|FV [0] Q)<|OO 9 [1,2,6] [0] Out.brk [] [] Q Q (fun hF4 x9 hr4=>c0 Q (fun _=>FD) fun x10=>bU [76] Q Q (pP aP [0] Q<|c0 Q (fun _=>aJB) fun x11=>c0 Q (fun _=>ZR) fun x12=>c0 Q (fun h=>W0 (h.a h1)) fun x13=>c0 Q (fun _=>dD) fun x14=>bU [88] Q Q (MC hr4 hF4<|cM Q Q)<|JG [0] Q)<|FV [] Q)<|cM Q Q
theorem aJD{h:aC}{s1 s2:AC}(h1:bB κ s1 h.Bytes)(h2:bB κ s2 h.Class):V0 prog κ 122 (M8 h) [.g [.h s1 h.Bytes.length,.h s2 h.Class.length]] .b:=
 c9 tok call122 func122 results122 Q Q<|c0 Q (fun h=>aGS (h.a h1) (h.a h2)) fun x1=>bU [6] Q Q (cM Q Q)<|OO 3 [1] [0] Out.brk [] [] Q Q (fun hF1 x3 hr1=>bU [8] Q Q (c0 Q (fun h=>aJC (h.a h1) (h.a h2)) fun x4=>bU [14] Q Q (MC hr1 hF1<|cM Q Q)<|JG [0] Q)<|FV [] Q)<|cM Q Q
theorem ZS{l:aB}{s1 s2:AC}(h1:bB κ s1 l.Global)(h2:bB κ s2 l.Own):VS prog κ 201 (K8 l) [.g [.h s1 l.Global.length,.h s2 l.Own.length]] [] [] (fun r (y:AC)=>.h y r.length) (fun r y=>[ow y r]):=
 c9 tok call201 func201 results201 Q Q<|fun hF=>lt0 (α:=Int) aV Q Q Q Q fun s3=>wi hF<|QF s3 [1] (fun(p:(List Int)×Int) (s5:AC)=>[(3,.h s5 p.1.length),(4,I p.2)]) [1,0] [0] (fun p s5=>[ow s5 (p.1:List Int)]) id [1] (fun(x5:(List Int)) (s6:AC)=>[(3,.h s6 x5.length)]) [0] (fun x5 s6=>[ow s6 (x5:List Int)]) Q Q (fun hF1 ⟨x3,x4⟩ s5 hr1=>bU [11] Q Q (DG GL Q h1 Q fun x12 s12 h4=>fun hG1=>ap 0 aV Q Q Q Q Q Q Q (fun h=>(h.a h4)) Q Q hG1 fun hG1 s13=>wi hG1<|nxW s13 [0,1] Q)<|bkW s5 [0,1] Q) fun x5 s6=>QF s6 [1] (fun(p:(List Int)×Int) (s8:AC)=>[(3,.h s8 p.1.length),(5,I p.2)]) [0,1] [1] (fun p s8=>[ow s8 (p.1:List Int)]) id [] (fun(x10:(List Int)) (s9:AC)=>[(3,.h s9 x10.length)]) [] (fun x10 s9=>[ow s9 (x10:List Int)]) Q Q (fun hF2 ⟨x8,x9⟩ s8 hr2=>bU [26] Q Q (DG GL Q h2 Q fun x11 s10 h3=>fun hG2=>ap 0 aV Q Q Q Q Q Q Q (fun h=>(h.a h3)) Q Q hG2 fun hG2 s11=>wi hG2<|nxW s11 [0,1] Q)<|bkW s8 [0] Q) fun x10 s9=>oL s9 [0] Q Q
theorem RC{l:List Int}{x:Int}{s1:AC}(h1:bB κ s1 l):V0 prog κ 202 (GH l x) [.h s1 l.length,I x] .b:=
 c9 tok call202 func202 results202 Q Q<|OO 5 [0,1] [] Out.brk [] [] Q Q (fun hF1 x2 hr1=>bU [9] Q Q (V5 Q h1 Q fun x3=>bU [17] Q Q (MC hr1 hF1<|cM Q Q)<|JG [] Q)<|FV [] Q)<|cM Q Q
theorem aGT{l:aB}{s1 s2:AC}(h1:bB κ s1 l.Global)(h2:bB κ s2 l.Own):V0 prog κ 123 (KC l) [.g [.h s1 l.Global.length,.h s2 l.Own.length]] .b:=
 c9 tok call123 func123 results123 Q Q<|cV 0 1 (BO l) [1] 15 [0] Q (eA [9,10] Q Q (bR [0] Q Q)<|bR [0] Q Q) fun x1=>bU [15] Q Q (cM Q Q)<|OO 3 [1] [0] Out.brk [1] [0] Q Q (fun hF2 x3 hr2=>bU [20] Q Q (DG GL Q h2 Q fun x11 s4 h8=>bU [30] Q Q (MC hr2 hF2<|cM Q Q)<|JG [0] Q)<|FV [0] Q)<|c1 Q (fun h=>ZS (h.a h1) (h.a h2)) fun x4 s3=>OO 5 [4] [1] Out.brk [] [] Q Q (fun hF3 x6 hr3=>bU [36] Q Q (cV 0 1 (BN x6) [4,5] 54 [0] Q (pP aP [] Q<|uF oI 0 Q Q Q fun x8 h3 _ h4=>fun hG3=>m6 1 h4 h3 Q Q Q Q Q<|wi hG3<|c0 Q (fun _=>dD) fun x9=>eA [44,45] Q Q (fun hG3=>sF Q<|pS oI 1 [] h3 () Q Q Q Q Q Q Q<|uE () [4] hG3 Q)<|fun hG3=>QD oI 1 [] h3 () Q Q Q Q Q Q Q Q Q<|cpc 4 Q Q fun hc1=>aPW hc1 Q Q Q Q Q Q hG3 fun hG3 h5=>have hq1:=rb h3;wi hq1<|uF oI 4 Q Q Q fun u1 h6 _ h7=>fun hq1=>m6 2 h7 h6 Q Q Q Q Q<|match u1,hq1 with | _,rfl=>QD oI 5 [] h6 () Q Q Q Q Q Q Q Q Q<|wi hG3<|c0 Q (fun h=>RC ((h.o 8 Q).sub (JF h5.1 h5.2) h5)) fun x10=>bR [8] Q Q) fun x7=>bU [54] Q Q (MC hr3 hF3<|cM Q Q)<|JG [0] Q)<|FV [] Q)<|cM Q Q
theorem LN{h:aC}{slot:Int}{s1 s2:AC}(h1:bB κ s1 h.Bytes)(h2:bB κ s2 h.Class):V0 prog κ 203 (mO h slot) [.g [.h s1 h.Bytes.length,.h s2 h.Class.length],I slot] I:=
 c9 tok call203 func203 results203 Q Q<|c0 Q (fun _=>OF) fun x1=>cV 0 1 (tL h x1) [2,5] 28 [0] Q (pP aP [0] Q<|eA [9,10] Q Q (bR [0] Q Q)<|V5 Q h2 Q fun x4=>eA [16,17,18] Q Q (bR [0] Q Q)<|V5 Q h2 Q fun x5=>c0 Q (fun _=>LM) fun x6=>c0 Q (fun _=>FD) fun x7=>bR [0] Q Q) fun x2=>bU [28] Q Q (cM Q Q)<|V5 Q h2 Q fun x3=>cM Q Q
theorem RD{h:aC}{slot:Int}{s1 s2:AC}(h1:bB κ s1 h.Bytes)(h2:bB κ s2 h.Class):V0 prog κ 127 (wF h slot) [.g [.h s1 h.Bytes.length,.h s2 h.Class.length],I slot] I:=
 c9 tok call127 func127 results127 Q Q<|pP aP [0] Q<|c0 Q (fun h=>LN (h.a h1) (h.a h2)) fun x1=>c0 Q (fun _=>ZR) fun x2=>c0 Q (fun h=>W0 (h.a h1)) fun x3=>cM Q Q
theorem SO{h:aC}{l:List Int}{c:Int}{s1 s2:AC}{s3:AC}(h1:bB κ s1 h.Bytes)(h2:bB κ s2 h.Class)(h3:bB κ s3 l):V0 prog κ 124 (zY h l c) [.g [.h s1 h.Bytes.length,.h s2 h.Class.length],.h s3 l.length,I c] .b:=
 c9 tok call124 func124 results124 Q Q<|OO 7 [1,2,3] [0] Out.brk [] [] Q Q (fun hF1 x2 hr1=>bU [11] Q Q (cV 0 1 (xS x2) [1,2,3,7] 30 [0] Q (pP aP [0] Q<|V5 Q h3 Q fun x4=>c0 Q (fun h=>LN (h.a h1) (h.a h2)) fun x5=>eA [21,22] Q Q (bR [0] Q Q)<|V5 Q h3 Q fun x6=>c0 Q (fun h=>RD (h.a h1) (h.a h2)) fun x7=>bR [0] Q Q) fun x3=>bU [30] Q Q (MC hr1 hF1<|cM Q Q)<|JG [0] Q)<|FV [] Q)<|cM Q Q
theorem aLL{w_ c:Int}:V0 prog κ 125 (wG w_ c) [I w_,I c] I:=
 c9 tok call125 func125 results125 Q Q<|cV 0 0 (zZ w_ c) [0,1] 12 [] Q (c0 Q (fun _=>dD) fun x2=>eA [7,8] Q Q (bR [] Q Q)<|c0 Q (fun _=>dD) fun x3=>bR [] Q Q) fun x1=>bU [12] Q Q (cM Q Q)<|cM Q Q
theorem aLM{m:Mem}{s1 s2 s3 s4:AC}(h1:bB κ s1 m.aC.Bytes)(h2:bB κ s2 m.aC.Class)(h3:bB κ s3 m.aB.Global)(h4:bB κ s4 m.aB.Own):V0 prog κ 60 (K9 m) [.g (gM m s1 s2 s3 s4)] .b:=
 c9 tok call60 func60 results60 Q Q<|cV 0 1 (HK m) [1] 14 [0] Q (c0 Q (fun h=>aJD (h.a h1) (h.a h2)) fun x11=>aNU [8,9] Q Q (fun hb6=>bR [0] Q Q) fun hb6=>c0 Q (fun h=>aGT (h.a h3) (h.a h4)) fun x12=>bR [0] Q Q) fun x1=>aNT [14] Q Q (fun hb1=>cM Q Q) fun hb1=>OO 3 [1] [0] Out.brk [] [] Q Q (fun hF2 x3 hr2=>aNT [16] Q Q (fun hb2=>pP aP [0] Q<|DG GL Q h3 Q fun x4 s5 h5=>c0 Q (fun h=>SO (h.a h1) (h.a h2) (h.a h5)) fun x5=>aNT [30] Q Q (fun hb3=>MC hr2 hF2<|cM Q Q) fun hb3=>OO 4 [1,3] [0] Out.brk [1,3] [0] Q Q (fun hF3 x7 hr3=>aNT [32] Q Q (fun hb4=>pP aP [0] Q<|c0 Q (fun _=>aLL) fun x8=>DG GL Q h4 Q fun x9 s6 h6=>c0 Q (fun h=>SO (h.a h1) (h.a h2) (h.a h6)) fun x10=>aNT [48] Q Q (fun hb5=>MC hr3 hF3<|MC hr2 hF2<|cM Q Q) fun hb5=>JG [0] Q) fun hb4=>FV [0] Q)<|JG [0] Q) fun hb2=>FV [] Q)<|cM Q Q
theorem oH{h:Int}:V0 prog κ 63 (iK h) [I h] .b:=
 c9 tok call63 func63 results63 Q Q<|cV 0 0 xT [] 2 [] Q (c0 Q (fun _=>dD) fun x2=>eA [4,5] Q Q (bR [] Q Q)<|bR [] Q Q) fun x1=>cM Q Q
theorem pD{h:Int}:V0 prog κ 20 (fG h) [I h] I:=
 c9 tok call20 func20 results20 Q Q<|c0 Q (fun _=>oH) fun x1=>bU [5] Q Q (cM Q Q)<|cM Q Q
theorem aJE{l:aB}{slot:Int}{s1 s2:AC}(h1:bB κ s1 l.Global)(h2:bB κ s2 l.Own):V0 prog κ 204 (M9 l slot) [.g [.h s1 l.Global.length,.h s2 l.Own.length],I slot] .b:=
 c9 tok call204 func204 results204 Q Q<|c1 Q (fun h=>ZS (h.a h1) (h.a h2)) fun x1 s3=>c0 Q (fun h=>RC (h.o 1 Q)) fun x2=>cM Q Q
theorem UM{m:Mem}{slot:Int}{s1 s2 s3 s4:AC}(h1:bB κ s1 m.aC.Bytes)(h2:bB κ s2 m.aC.Class)(h3:bB κ s3 m.aB.Global)(h4:bB κ s4 m.aB.Own):V0 prog κ 126 (EL m slot) [.g (gM m s1 s2 s3 s4),I slot] I:=
 c9 tok call126 func126 results126 Q Q<|c0 Q (fun h=>LN (h.a h1) (h.a h2)) fun x1=>bU [5,10] Q Q (cM Q Q)<|c0 Q (fun h=>aJE (h.a h3) (h.a h4)) fun x2=>bU [11,15] Q Q (cM Q Q)<|c0 Q (fun h=>RD (h.a h1) (h.a h2)) fun x3=>bU [16,21] Q Q (cM Q Q)<|cM Q Q
theorem aBB{h:Int}:V0 prog κ 128 (EM h) [I h] I:=
 c9 tok call128 func128 results128 Q Q<|c0 Q (fun _=>oH) fun x1=>bU [5] Q Q (cM Q Q)<|cM Q Q
theorem LO{m:Mem}{h:Int}{s1 s2 s3 s4:AC}(h1:bB κ s1 m.aC.Bytes)(h2:bB κ s2 m.aC.Class)(h3:bB κ s3 m.aB.Global)(h4:bB κ s4 m.aB.Own):V0 prog κ 61 (oY m h) [.g (gM m s1 s2 s3 s4),I h] .b:=
 c9 tok call61 func61 results61 Q Q<|cV 0 1 tM [] 4 [] Q (pP aP [0] Q<|c0 Q (fun _=>oH) fun x2=>eA [6,7] Q Q (c0 Q (fun _=>pD) fun x3=>c0 Q (fun h=>UM (h.a h1) (h.a h2) (h.a h3) (h.a h4)) fun x4=>eA [12,13,14] Q Q (c0 Q (fun _=>pD) fun x5=>c0 Q (fun h=>RD (h.a h1) (h.a h2)) fun x6=>c0 Q (fun _=>aBB) fun x7=>bR [] Q Q)<|bR [] Q Q)<|bR [] Q Q) fun x1=>cM Q Q
theorem OG{l:List bC}{s1:AC}(h1:bB κ s1 l):VS prog κ 62 (C4 l) [.h s1 l.length] [] [] (fun r (y:AC)=>.h y r.length) (fun r y=>[ow y r]):=
 c9 tok call62 func62 results62 Q Q<|fun hF=>lt0 (α:=dA) CJ Q Q Q Q fun s2=>wi hF<|QF s2 [0] (fun(p:(List dA)×Int) (s4:AC)=>[(3,.h s4 p.1.length),(4,I p.2)]) [0] [] (fun p s4=>[ow s4 (p.1:List dA)]) id [] (fun(x5:(List dA)) (s5:AC)=>[(3,.h s5 x5.length)]) [] (fun x5 s5=>[ow s5 (x5:List dA)]) Q Q (fun hF1 ⟨x3,x4⟩ s4 hr1=>bU [9] Q Q (DG XV Q h1 Q fun x6 s6 h2=>fun hG1=>ap 0 CJ Q Q Q Q Q Q Q (fun h=>(h.a h2)) Q Q hG1 fun hG1 s7=>wi hG1<|nxW s7 [0] Q)<|bkW s4 [0] Q) fun x5 s5=>oL s5 [0] Q Q
theorem UN{l:List bC}{slot:Int}{s1:AC}(h1:bB κ s1 l):V0 prog κ 19 (xU l slot) [.h s1 l.length,I slot] .b:=
 c9 tok call19 func19 results19 Q Q<|c1 Q (fun h=>OG (h.a h1)) fun x1 s2=>OO 6 [1,5] [0] Out.brk [] [] Q Q (fun hF1 x3 hr1=>bU [12] Q Q (cV 0 0 (tO x3) [1,5,6] 30 [0] Q (uF F6 0 Q Q Q fun x5 h2 _ h3=>fun hG1=>m6 0 h3 h2 Q Q Q Q Q<|wi hG1<|c0 Q (fun _=>oH) fun x6=>eA [20,21] Q Q (fun hG1=>m6 0 h3 h2 Q Q Q Q Q<|wi hG1<|c0 Q (fun _=>pD) fun x7=>fun hG1=>sF Q<|pS F6 1 [] h2 () Q Q Q Q Q Q Q<|uE () [4] hG1 Q)<|fun hG1=>sF Q<|pS F6 1 [] h2 () Q Q Q Q Q Q Q<|uE () [4] hG1 Q) fun x4=>bU [30] Q Q (MC hr1 hF1<|cM Q Q)<|JG [0] Q)<|FV [] Q)<|cM Q Q
theorem aGU{c:aD}{s1:AC}(h1:bB κ s1 c.b9):V0 prog κ 207 (oZ c) [.g [I c.aJ,.h s1 c.b9.length]] .b:=
 c9 tok call207 func207 results207 Q Q<|cV 0 1 (nY c) [1] 14 [0] Q (c0 Q (fun _=>dD) fun x10=>eA [8,9] Q Q (bR [0] Q Q)<|bR [0] Q Q) fun x1=>bU [14] Q Q (cM Q Q)<|OO 3 [1] [0] Out.brk [] [] Q Q (fun hF2 x3 hr2=>bU [16] Q Q (DG aN2 Q h1 Q fun x4 _ _=>cV 0 3 (l5 x3) [1,3] 45 [0] Q (eA [26,27] Q Q (fun hG2=>neS eqGuardType100 stoodInHeld100 underlying100 (aBW 9997 x4 (⟨false,0,false,0⟩:pQ)) Q Q Q Q Q Q<|wi hG2<|eA [30,31,32] Q Q (bR [0] Q Q)<|c0 Q (fun _=>dD) fun x6=>eA [38,39,40] Q Q (bR [0] Q Q)<|c0 Q (fun _=>dD) fun x7=>bR [0] Q Q)<|c0 Q (fun _=>dD) fun x8=>eA [38,39,40] Q Q (bR [0] Q Q)<|c0 Q (fun _=>dD) fun x9=>bR [0] Q Q) fun x5=>bU [45] Q Q (MC hr2 hF2<|cM Q Q)<|JG [0] Q)<|FV [] Q)<|cM Q Q
theorem aGV{l:List bC}{s1:AC}(h1:bB κ s1 l):V0 prog κ 208 (KD l) [.h s1 l.length] .b:=
 c9 tok call208 func208 results208 Q Q<|c1 Q (fun h=>OG (h.a h1)) fun x1 s2=>cV 0 0 (BP x1) [3] 16 [0] Q (eA [11,12] Q Q (bR [0] Q Q)<|bR [0] Q Q) fun x2=>bU [16] Q Q (cM Q Q)<|fun hF=>lt0 (α:=Int) aV Q Q Q Q fun s3=>wi hF<|QF s3 [3] (fun(p:(List Int)×Int) (s5:AC)=>[(4,.h s5 p.1.length),(5,I p.2)]) [1,0] [0] (fun p s5=>[ow s5 (p.1:List Int)]) Out.brk [] (fun(_:Unit) (_:Unit)=>[]) [] (fun _ _=>[]) Q Q (fun hF2 ⟨x5,x6⟩ s5 hr2=>bU [21] Q Q (uF F6 1 Q Q Q fun x7 h2 _ h3=>fun hG2=>m6 0 h3 h2 Q Q Q Q Q<|wi hG2<|c0 Q (fun _=>pD) fun x8=>jC 0 1 (tQ x5 x6 x8) [3,4,5,6] (fun(x9:Bool) (_:Unit)=>[(45,.b x9)]) [0] (fun x9 _=>[ow s2 (x1:List dA)]) Q (eA [31,32] Q Q (fun hG2=>sF Q<|pS F6 2 [] h2 () Q Q Q Q Q Q Q<|uE () [5,0] hG2 Q)<|fun hG2=>m6 0 h3 h2 Q Q Q Q Q<|wi hG2<|c0 Q (fun _=>dD) fun x10=>eA [39,40,41] Q Q (fun hG2=>sF Q<|pS F6 2 [] h2 () Q Q Q Q Q Q Q<|uE () [5,0] hG2 Q)<|c0 Q (fun h=>RC (h.o 0 Q)) fun x11=>fun hG2=>sF Q<|pS F6 2 [] h2 () Q Q Q Q Q Q Q<|uE () [5,0] hG2 Q) fun x9 _=>bU [45] Q Q (MC hr2 hF2<|cM Q Q)<|fun hG2=>lt1 Q aV Q Q Q Q fun s6=>ap 1 aV Q Q Q Q Q Q Q (fun h=>(h.o 2 Q)) Q Q hG2 fun hG2 s7=>wi hG2<|nxW s7 [1,0] Q)<|FV [] Q) fun() _=>cM Q Q
theorem aLN{z:List Int}{s1:AC}(h1:bB κ s1 z):V0 prog κ 209 (GI z) [.h s1 z.length] .b:=
 c9 tok call209 func209 results209 Q Q<|OO 3 [0] [] Out.brk [0] [] Q Q (fun hF1 x2 hr1=>bU [7] Q Q (cV 0 0 (HL x2) [0,3] 22 [] Q (V5 Q h1 Q fun x4=>eA [14,15] Q Q (V5 Q h1 Q fun x5=>c0 Q (fun _=>oH) fun x6=>bR [] Q Q)<|bR [] Q Q) fun x3=>bU [22] Q Q (MC hr1 hF1<|cM Q Q)<|JG [] Q)<|FV [] Q)<|cM Q Q
theorem W4{b:aA}{s1 s2 s3 s4 s5 s6 s7:AC}(h1:bB κ s1 b.Mem.aC.Bytes)(h2:bB κ s2 b.Mem.aC.Class)(h3:bB κ s3 b.Mem.aB.Global)(h4:bB κ s4 b.Mem.aB.Own)(h5:bB κ s5 b.aD.b9)(h6:bB κ s6 b.aO)(h7:bB κ s7 b.l7):V0 prog κ 129 (ID b) [.g (gB b s1 s2 s3 s4 s5 s6 s7)] .b:=
 c9 tok call129 func129 results129 Q Q<|cV 0 1 (qY b) [1] 26 [0] Q (c0 Q (fun h=>aLM (h.a h1) (h.a h2) (h.a h3) (h.a h4)) fun x8=>eA [8,9] Q Q (bR [0] Q Q)<|c0 Q (fun h=>aGU (h.a h5)) fun x9=>eA [13,14,15] Q Q (bR [0] Q Q)<|c0 Q (fun h=>aGV (h.a h6)) fun x10=>eA [19,20,21] Q Q (bR [0] Q Q)<|c0 Q (fun h=>aLN (h.a h7)) fun x11=>bR [0] Q Q) fun x1=>bU [26] Q Q (cM Q Q)<|c1 Q (fun h=>OG (h.a h6)) fun x2 s8=>OO 4 [1,3] [1,0] Out.brk [] [] Q Q (fun hF2 x4 hr2=>bU [33] Q Q (cV 0 1 (EN x4) [1,3,4] 55 [0,1] Q (pP aP [1] Q<|uF F6 0 Q Q Q fun x6 h8 _ h9=>fun hG2=>m6 1 h9 h8 Q Q Q Q Q<|wi hG2<|c0 Q (fun h=>LO (h.a h1) (h.a h2) (h.a h3) (h.a h4)) fun x7=>eA [44,45] Q Q (fun hG2=>sF Q<|pS F6 2 [] h8 () Q Q Q Q Q Q Q<|uE () [5,1] hG2 Q)<|fun hG2=>m6 1 h9 h8 Q Q Q Q Q<|sF Q<|pS F6 2 [] h8 () Q Q Q Q Q Q Q<|uE () [5,1] hG2 Q) fun x5=>bU [55] Q Q (MC hr2 hF2<|cM Q Q)<|JG [0,1] Q)<|FV [] Q)<|cM Q Q
theorem jZ{h:Int}:V0 prog κ 130 (i6 h) [I h] .b:=
 c9 tok call130 func130 results130 Q Q<|cV 0 0 BQ [] 2 [] Q (eA [4,5] Q Q (bR [] Q Q)<|c0 Q (fun _=>oH) fun x2=>bR [] Q Q) fun x1=>cM Q Q
theorem FE{s:aG}{s1 s2 s3 s4 s5 s6 s7 s8 s9 s10 s11:AC}(h1:bB κ s1 s.aA.Mem.aC.Bytes)(h2:bB κ s2 s.aA.Mem.aC.Class)(h3:bB κ s3 s.aA.Mem.aB.Global)(h4:bB κ s4 s.aA.Mem.aB.Own)(h5:bB κ s5 s.aA.aD.b9)(h6:bB κ s6 s.aA.aO)(h7:bB κ s7 s.aA.l7)(h8:bB κ s8 s.Cells)(h9:bB κ s9 s.aX)(h10:bB κ s10 s.dT)(h11:bB κ s11 s.Log):V0 prog κ 64 (o7 s) [.g (gS s s1 s2 s3 s4 s5 s6 s7 s8 s9 s10 s11)] .b:=
 c9 tok call64 func64 results64 Q Q<|cV 0 1 (l6 s) [1] 33 [0] Q (c0 Q (fun h=>W4 (h.a h1) (h.a h2) (h.a h3) (h.a h4) (h.a h5) (h.a h6) (h.a h7)) fun x20=>eA [9,10] Q Q (bR [0] Q Q)<|eA [14,15,16] Q Q (bR [0] Q Q)<|eA [20,21,22] Q Q (bR [0] Q Q)<|c0 Q (fun h=>UE (h.a h10)) fun x21=>eA [26,27,28] Q Q (bR [0] Q Q)<|c0 Q (fun _=>dD) fun x22=>bR [0] Q Q) fun x1=>bU [33] Q Q (cM Q Q)<|OO 3 [1] [0] Out.brk [1] [0] Q Q (fun hF2 x3 hr2=>bU [35] Q Q (V5 Q h8 Q fun x18=>c0 Q (fun _=>jZ) fun x19=>bU [44] Q Q (MC hr2 hF2<|cM Q Q)<|JG [0] Q)<|FV [0] Q)<|OO 4 [1] [0] Out.brk [] [] Q Q (fun hF3 x5 hr3=>bU [46] Q Q (DG aIW Q h9 Q fun x6 _ _=>cV 0 3 (fH x5) [1,4] 83 [0] Q (eA [56,57] Q Q (fun hG3=>neS eqGuardType91 stoodInHeld91 underlying91 (aGA 9996 x6 (⟨false,(⟨0,0,0,0⟩:dY),0,0,(⟨0,0,0,0,0,0,0,0,0,false⟩:Sub),0,0,0,0⟩:bE)) Q Q Q Q Q Q<|wi hG3<|eA [60,61,62] Q Q (bR [0] Q Q)<|eA [55,64,65] Q Q (c0 Q (fun _=>UD) fun x8=>eA [69,70,71,72] Q Q (bR [0] Q Q)<|c0 Q (fun _=>jZ) fun x9=>eA [76,77,78] Q Q (bR [0] Q Q)<|c0 Q (fun _=>jZ) fun x10=>bR [0] Q Q)<|c0 Q (fun _=>jZ) fun x11=>eA [76,77,78] Q Q (bR [0] Q Q)<|c0 Q (fun _=>jZ) fun x12=>bR [0] Q Q)<|eA [55,64,65] Q Q (c0 Q (fun _=>UD) fun x13=>eA [69,70,71,72] Q Q (bR [0] Q Q)<|c0 Q (fun _=>jZ) fun x14=>eA [76,77,78] Q Q (bR [0] Q Q)<|c0 Q (fun _=>jZ) fun x15=>bR [0] Q Q)<|c0 Q (fun _=>jZ) fun x16=>eA [76,77,78] Q Q (bR [0] Q Q)<|c0 Q (fun _=>jZ) fun x17=>bR [0] Q Q) fun x7=>bU [83] Q Q (MC hr3 hF3<|cM Q Q)<|JG [0] Q)<|FV [] Q)<|cM Q Q
theorem HU{l:List Int}{x:Int}{s1:AC}:VS prog κ 65 (rU l x) [.h s1 l.length,I x] [] [ow s1 (l:List Int)] (fun(r:(List Int)) (y:AC)=>.h y r.length) (fun(r:(List Int)) (y:AC)=>[ow y r]):=
 c9 tok call65 func65 results65 Q Q<|fun hF=>lt0 (α:=Int) aV Q Q Q Q fun s2=>wi hF<|QF s2 [0,1] (fun(p:(List Int)×Bool×Int) (s4:AC)=>[(5,.h s4 p.1.length),(6,.b p.2.1),(7,I p.2.2)]) [1,0] [0] (fun p s4=>[ow s4 (p.1:List Int)]) Out.brk [1] (fun(p:(List Int)×Bool) (s5:AC)=>[(5,.h s5 p.1.length),(6,.b p.2)]) [] (fun p s5=>[ow s5 (p.1:List Int)]) Q Q (fun hF1 ⟨x4,x5,x6⟩ s4 hr1=>bU [12] Q Q (uF oI 1 Q Q Q fun x10 h1 _ h2=>fun hG1=>m6 0 h2 h1 Q Q Q Q Q<|wi hG1<|bU [20] Q Q (fun hG1=>sR Q<|pS oI 2 [] h1 () Q Q Q Q Q Q Q<|rW (hT:=tok) s1 [5] (re hG1 Q hr1 hF1) Q results65 Q Q Q Q)<|jC 1 1 (fun(p:(List Int)×Bool)=>qZ l x6 p.1 p.2) [0,1,7] (fun(p:(List Int)×Bool) (s9:AC)=>[(5,.h s9 p.1.length),(6,.b p.2)]) [] (fun p s9=>[ow s1 (l:List Int),ow s9 (p.1:List Int)]) Q (jC 0 1 (rA l x x4 x5 x6) [0,1,5,6,7] (fun(x14:Bool) (_:Unit)=>[(31,.b x14)]) [0] (fun x14 _=>[ow s1 (l:List Int)]) Q (eA [23,24] Q Q (fun hG1=>m6 0 h2 h1 Q Q Q Q Q<|sF Q<|pS oI 2 [] h1 () Q Q Q Q Q Q Q<|uE () [5,0] hG1 Q)<|fun hG1=>sF Q<|pS oI 2 [] h1 () Q Q Q Q Q Q Q<|uE () [5,0] hG1 Q) fun x14 _=>bU [31] Q Q (fun hG1=>lt1 Q aV Q Q Q Q fun s12=>ap 1 aV Q Q Q Q Q Q Q (fun h=>(h.o 2 Q)) Q Q hG1 fun hG1 s13=>wi hG1<|pG (p:=(x4++([x]),true)) s13 [0,1] Q Q)<|pG (p:=(x4,x5)) s4 [0,1] Q Q) fun⟨x11,x12⟩ s9=>uF oI 0 Q Q Q fun x13 h3 _ h4=>fun hG1=>m6 1 h4 h3 Q Q Q Q Q<|lt1 Q aV Q Q Q Q fun s10=>ap 1 aV Q Q Q Q Q Q Q (fun h=>(h.o 5 Q)) Q Q hG1 fun hG1 s11=>sF Q<|pS oI 2 [] h3 () Q Q Q Q Q Q Q<|nxR s11 [1,6] hG1 Q)<|bkW s4 [0] Q) fun⟨x7,x8⟩ s5=>jC 0 0 wJ [] (fun(x9:(List Int)) (s6:AC)=>[(5,.h s6 x9.length)]) [] (fun x9 s6=>[ow s6 (x9:List Int)]) Q (bU [44] Q Q (fun hF=>lt1 Q aV Q Q Q Q fun s7=>ap 0 aV Q Q Q Q Q Q Q (fun h=>(h.o 1 Q)) Q Q hF fun hF s8=>wi hF<|pG s8 [0] Q Q)<|pG s5 [0] Q Q) fun x9 s6=>oL s6 [0] Q Q
theorem aLO{s:aG}{s1 s2 s3 s4 s5 s6 s7 s8 s9 s10 s11:AC}(h1:bB κ s1 s.aA.Mem.aC.Bytes)(h2:bB κ s2 s.aA.Mem.aC.Class)(h3:bB κ s3 s.aA.Mem.aB.Global)(h4:bB κ s4 s.aA.Mem.aB.Own)(h5:bB κ s5 s.aA.aD.b9)(h6:bB κ s6 s.aA.aO)(h7:bB κ s7 s.aA.l7)(h8:bB κ s8 s.Cells)(h9:bB κ s9 s.aX)(h10:bB κ s10 s.dT)(h11:bB κ s11 s.Log):VS prog κ 22 (QT s) [.g (gS s s1 s2 s3 s4 s5 s6 s7 s8 s9 s10 s11)] [] [] (fun r (y:AC)=>.h y r.length) (fun r y=>[ow y r]):=
 c9 tok call22 func22 results22 Q Q<|fun hF=>lt0 (α:=Int) aV Q Q Q Q fun s12=>wi hF<|c0 Q (fun h=>FE (h.a h1) (h.a h2) (h.a h3) (h.a h4) (h.a h5) (h.a h6) (h.a h7) (h.a h8) (h.a h9) (h.a h10) (h.a h11)) fun x1=>QF s12 [1,4] (fun(p:(List Int)×Int) (s14:AC)=>[(3,.h s14 p.1.length),(5,I p.2)]) [1,0] [0] (fun p s14=>[ow s14 (p.1:List Int)]) id [1,4] (fun(x6:(List Int)) (s15:AC)=>[(3,.h s15 x6.length)]) [0] (fun x6 s15=>[ow s15 (x6:List Int)]) Q Q (fun hF1 ⟨x4,x5⟩ s14 hr1=>cV 0 1 (AG s x4 x5) [1,3,4,5] 15 [0,1] Q (eA [12,13] Q Q (bR [0,1] Q Q)<|bR [0,1] Q Q) fun x20=>bU [15] Q Q (jC 2 1 (HO x5) [1,4,5] (fun(x21:(List Int)) (s23:AC)=>[(3,.h s23 x21.length)]) [1] (fun x21 s23=>[ow s23 (x21:List Int)]) Q (V5 Q h8 Q fun x22=>bU [23] Q Q (V5 Q h8 Q fun x23=>QG [0] Q Q Q Q (fun _=>HU) fun x24 s24=>pG s24 [4,1] Q Q)<|pG s14 [0,1] Q Q) fun x21 s23=>nxW s23 [0,1] Q)<|bkW s14 [0,1] Q) fun x6 s15=>QF s15 [1,4] (fun(p:(List Int)×Int) (s17:AC)=>[(3,.h s17 p.1.length),(6,I p.2)]) [0,1] [1] (fun p s17=>[ow s17 (p.1:List Int)]) id [] (fun(x11:(List Int)) (s18:AC)=>[(3,.h s18 x11.length)]) [] (fun x11 s18=>[ow s18 (x11:List Int)]) Q Q (fun hF2 ⟨x9,x10⟩ s17 hr2=>cV 0 1 (AE s x9 x10) [1,3,4,6] 35 [0,1] Q (eA [32,33] Q Q (bR [0,1] Q Q)<|bR [0,1] Q Q) fun x12=>bU [35] Q Q (jC 2 1 (AB x10) [1,4,6] (fun(x13:(List Int)) (s19:AC)=>[(3,.h s19 x13.length)]) [1] (fun x13 s19=>[ow s19 (x13:List Int)]) Q (DG aIW Q h9 Q fun x14 _ _=>bU [46] Q Q (pG s17 [0,1] Q Q)<|jC 1 3 (HN x10 x14) [1,4,6,7] (fun(x15:(List Int)) (s20:AC)=>[(3,.h s20 x15.length)]) [1,3] (fun x15 s20=>[ow s20 (x15:List Int)]) Q (cV 0 3 (AD x9 x10 x14) [1,3,4,6,7] 59 [0,1,3] Q (eA [49,50] Q Q (bR [0,1,3] Q Q)<|eA [53,54,55] Q Q (bR [0,1,3] Q Q)<|bR [0,1,3] Q Q) fun x18=>bU [59] Q Q (QG [0] Q Q Q Q (fun _=>HU) fun x19 s22=>pG s22 [3,1,2] Q Q)<|pG s17 [0,1,2] Q Q) fun x15 s20=>cV 0 3 (HM x10 x14 x15) [1,3,4,6,7] 71 [0,1,2] Q (eA [66,67] Q Q (bR [0,1,2] Q Q)<|bR [0,1,2] Q Q) fun x16=>bU [71] Q Q (QG [0] Q Q Q Q (fun _=>HU) fun x17 s21=>pG s21 [3,1] Q Q)<|pG s20 [0,1] Q Q) fun x13 s19=>nxW s19 [0,1] Q)<|bkW s17 [0] Q) fun x11 s18=>oL s18 [0] Q Q
theorem aGW{s:aG}{s1 s2 s3 s4 s5 s6 s7 s8 s9 s10 s11:AC}(h1:bB κ s1 s.aA.Mem.aC.Bytes)(h2:bB κ s2 s.aA.Mem.aC.Class)(h3:bB κ s3 s.aA.Mem.aB.Global)(h4:bB κ s4 s.aA.Mem.aB.Own)(h5:bB κ s5 s.aA.aD.b9)(h6:bB κ s6 s.aA.aO)(h7:bB κ s7 s.aA.l7)(h8:bB κ s8 s.Cells)(h9:bB κ s9 s.aX)(h10:bB κ s10 s.dT)(h11:bB κ s11 s.Log):VS prog κ 23 (KE s) [.g (gS s s1 s2 s3 s4 s5 s6 s7 s8 s9 s10 s11)] [] [] (fun r (y:AC)=>.h y r.length) (fun r y=>[ow y r]):=
 c9 tok call23 func23 results23 Q Q<|fun hF=>lt0 (α:=Int) aV Q Q Q Q fun s12=>wi hF<|c0 Q (fun h=>FA (h.a h1) (h.a h2) (h.a h3) (h.a h4) (h.a h5) (h.a h6) (h.a h7) (h.a h8) (h.a h9) (h.a h10) (h.a h11)) fun x1=>bU [10] Q Q (oL s12 [1] Q Q)<|QF s12 [1,13,14] (fun(p:(List Int)×Int) (s14:AC)=>[(3,.h s14 p.1.length),(15,I p.2)]) [1,0] [0] (fun p s14=>[ow s14 (p.1:List Int)]) id [] (fun(x6:(List Int)) (s15:AC)=>[(3,.h s15 x6.length)]) [] (fun x6 s15=>[ow s15 (x6:List Int)]) Q Q (fun hF1 ⟨x4,x5⟩ s14 hr1=>bU [16] Q Q (jC 2 1 (BR x5) [1,13,14,15] (fun(x8:(List Int)) (s17:AC)=>[(3,.h s17 x8.length)]) [1] (fun x8 s17=>[ow s17 (x8:List Int)]) Q (DG aIW Q h9 Q fun x9 _ _=>DG aN2 Q h5 Q fun x10 _ _=>c0 Q (fun _=>IL) fun x11=>cV 1 4 (oC x4 x5 x9) [1,3,5,13,14,15] 28 [0,1,3] Q (cV 0 4 (tT x4 x5 x9 x11) [1,3,5,6,13,14,15] 28 [0,1,3] Q (eA [32,33] Q Q (c0 Q (fun _=>cA) fun x16=>eA [36,37,38] Q Q (bR [0,1,3] Q Q)<|bR [0,1,3] Q Q)<|bR [0,1,3] Q Q) fun x13=>bU [28] Q Q (bR [0,1,2] Q Q)<|cV 0 4 (tS x4 x5 x9) [1,3,5,13,14,15] 28 [0,1,2] Q (eA [44,45] Q Q (c0 Q (fun _=>cA) fun x15=>eA [48,49,50] Q Q (bR [0,1,2] Q Q)<|bR [0,1,2] Q Q)<|bR [0,1,2] Q Q) fun x14=>bU [28] Q Q (bR [0,1,2] Q Q)<|eA [56,57] Q Q (bR [0,1,2] Q Q)<|bR [0,1,2] Q Q) fun x12=>bU [28] Q Q (fun hG1=>lt1 Q aV Q Q Q Q fun s18=>ap 0 aV Q Q Q Q Q Q Q (fun h=>(h.o 3 Q)) Q Q hG1 fun hG1 s19=>wi hG1<|pG s19 [0,1] Q Q)<|pG s14 [0,1] Q Q) fun x8 s17=>nxW s17 [0,1] Q)<|bkW s14 [0] Q) fun x6 s15=>c1 Q (fun h=>PR (h.o 0 Q)) fun x7 s16=>oL s16 [1] Q Q
theorem aBC{s:aG}{w_:Int}{s1 s2 s3 s4 s5 s6 s7 s8 s9 s10 s11:AC}(h1:bB κ s1 s.aA.Mem.aC.Bytes)(h2:bB κ s2 s.aA.Mem.aC.Class)(h3:bB κ s3 s.aA.Mem.aB.Global)(h4:bB κ s4 s.aA.Mem.aB.Own)(h5:bB κ s5 s.aA.aD.b9)(h6:bB κ s6 s.aA.aO)(h7:bB κ s7 s.aA.l7)(h8:bB κ s8 s.Cells)(h9:bB κ s9 s.aX)(h10:bB κ s10 s.dT)(h11:bB κ s11 s.Log):V0 prog κ 67 (EO s w_) [.g (gS s s1 s2 s3 s4 s5 s6 s7 s8 s9 s10 s11),I w_] .b:=
 c9 tok call67 func67 results67 Q Q<|DG aIW Q h9 Q fun x1 _ _=>DG aN2 Q h5 Q fun x2 _ _=>cV 0 5 (vC x1) [5] 7 [2] Q (eA [21,22] Q Q (bR [2] Q Q)<|bR [2] Q Q) fun x3=>cV 0 5 (vB x1 x3) [5,7] 27 [0] Q (eA [30,31] Q Q (bR [0] Q Q)<|bR [0] Q Q) fun x4=>bU [27] Q Q (cM Q Q)<|bU [36,40] Q Q (cV 0 5 o8 [] 4 [] Q (eA [7,41,42] Q Q (eA [45,46] Q Q (bR [] Q Q)<|bR [] Q Q)<|bR [] Q Q) fun x5=>cM Q Q)<|bU [52,56] Q Q (cV 0 5 o9 [] 4 [] Q (eA [7,57,58] Q Q (eA [61,62] Q Q (bR [] Q Q)<|bR [] Q Q)<|bR [] Q Q) fun x6=>cM Q Q)<|bU [68,72] Q Q (cM Q Q)<|cM Q Q
theorem aGX{s:aG}{s1 s2 s3 s4 s5 s6 s7 s8 s9 s10 s11:AC}(h1:bB κ s1 s.aA.Mem.aC.Bytes)(h2:bB κ s2 s.aA.Mem.aC.Class)(h3:bB κ s3 s.aA.Mem.aB.Global)(h4:bB κ s4 s.aA.Mem.aB.Own)(h5:bB κ s5 s.aA.aD.b9)(h6:bB κ s6 s.aA.aO)(h7:bB κ s7 s.aA.l7)(h8:bB κ s8 s.Cells)(h9:bB κ s9 s.aX)(h10:bB κ s10 s.dT)(h11:bB κ s11 s.Log):VS prog κ 24 (KF s) [.g (gS s s1 s2 s3 s4 s5 s6 s7 s8 s9 s10 s11)] [] [] (fun r (y:AC)=>.h y r.length) (fun r y=>[ow y r]):=
 c9 tok call24 func24 results24 Q Q<|fun hF=>lt0 (α:=Int) aV Q Q Q Q fun s12=>wi hF<|c0 Q (fun h=>FE (h.a h1) (h.a h2) (h.a h3) (h.a h4) (h.a h5) (h.a h6) (h.a h7) (h.a h8) (h.a h9) (h.a h10) (h.a h11)) fun x1=>QF s12 [1,4] (fun(p:(List Int)×Int) (s14:AC)=>[(3,.h s14 p.1.length),(5,I p.2)]) [1,0] [0] (fun p s14=>[ow s14 (p.1:List Int)]) id [] (fun(x6:(List Int)) (s15:AC)=>[(3,.h s15 x6.length)]) [] (fun x6 s15=>[ow s15 (x6:List Int)]) Q Q (fun hF1 ⟨x4,x5⟩ s14 hr1=>cV 0 1 (tV s x4 x5) [1,3,4,5] 13 [0,1] Q (eA [10,11] Q Q (bR [0,1] Q Q)<|bR [0,1] Q Q) fun x7=>bU [13] Q Q (jC 2 1 (BS x5) [1,4,5] (fun(x8:(List Int)) (s16:AC)=>[(3,.h s16 x8.length)]) [1] (fun x8 s16=>[ow s16 (x8:List Int)]) Q (c0 Q (fun h=>aBC (h.a h1) (h.a h2) (h.a h3) (h.a h4) (h.a h5) (h.a h6) (h.a h7) (h.a h8) (h.a h9) (h.a h10) (h.a h11)) fun x9=>bU [18] Q Q (DG aIW Q h9 Q fun x10 _ _=>QG [0] Q Q Q Q (fun _=>HU) fun x11 s17=>pG s17 [3,1] Q Q)<|pG s14 [0,1] Q Q) fun x8 s16=>nxW s16 [0,1] Q)<|bkW s14 [0] Q) fun x6 s15=>oL s15 [0] Q Q
theorem UO{x:m7}{n:Int}{s1 s2:AC}(h1:bB κ s1 x.dT)(h2:bB κ s2 x.eO):V0 prog κ 25 (aTC x n) [.g [.h s1 x.dT.length,.h s2 x.eO.length],I n] (fun r=>.g [.h s1 r.dT.length,.h (AC.sub s2 1 0) r.eO.length]):=
 c9 tok call25 func25 results25 Q Q<|pP aP [0] Q<|fun hF=>a50 Q Q Q Q<|aPW (a01 h2) Q Q Q Q Q Q hF fun hF h3=>wi hF<|cM Q Q
theorem aTJ{code:List UInt8}{i:Int}{s1:AC}(h1:bB κ s1 code):V0 prog κ 68 (aEI code i) [.h s1 code.length,I i] I:=
 c9 tok call68 func68 results68 Q Q<|bU [8] Q Q (DG cU Q h1 Q fun x1 _ _=>cM Q Q)<|cM Q Q
theorem ZT{code:List UInt8}{i n:Int}{s1:AC}(h1:bB κ s1 code):V0 prog κ 26 (QU code i n) [.h s1 code.length,I i,I n] I:=
 c9 tok call26 func26 results26 Q Q<|c0 Q (fun h=>aTJ (h.a h1)) fun x1=>cM Q Q
theorem UP{s:aG}{s1 s2 s3 s4 s5 s6 s7 s8 s9 s10 s11:AC}(h1:bB κ s1 s.aA.Mem.aC.Bytes)(h2:bB κ s2 s.aA.Mem.aC.Class)(h3:bB κ s3 s.aA.Mem.aB.Global)(h4:bB κ s4 s.aA.Mem.aB.Own)(h5:bB κ s5 s.aA.aD.b9)(h6:bB κ s6 s.aA.aO)(h7:bB κ s7 s.aA.l7)(h8:bB κ s8 s.Cells)(h9:bB κ s9 s.aX)(h10:bB κ s10 s.dT)(h11:bB κ s11 s.Log):V0 prog κ 27 (EP s) [.g (gS s s1 s2 s3 s4 s5 s6 s7 s8 s9 s10 s11)] .b:=
 c9 tok call27 func27 results27 Q Q<|c1 Q (fun h=>aGX (h.a h1) (h.a h2) (h.a h3) (h.a h4) (h.a h5) (h.a h6) (h.a h7) (h.a h8) (h.a h9) (h.a h10) (h.a h11)) fun x1 s12=>OO 4 [1,3] [1,0] Out.brk [1] [0] Q Q (fun hF1 x3 hr1=>bU [10] Q Q (pP aP [1] Q<|uF oI 0 Q Q Q fun x5 h12 _ h13=>fun hG1=>m6 1 h13 h12 Q Q Q Q Q<|wi hG1<|c0 Q (fun h=>LO (h.a h1) (h.a h2) (h.a h3) (h.a h4)) fun x6=>bU [21] Q Q (fun hG1=>sR Q<|pS oI 2 [] h12 () Q Q Q Q Q Q Q<|rW (hT:=tok) () [] (re hG1 Q hr1 hF1) Q results27 Q Q Q Q)<|fun hG1=>sF Q<|pS oI 2 [] h12 () Q Q Q Q Q Q Q<|nxR () [5,1] hG1 Q)<|FV [1] Q)<|c0 Q (fun h=>FE (h.a h1) (h.a h2) (h.a h3) (h.a h4) (h.a h5) (h.a h6) (h.a h7) (h.a h8) (h.a h9) (h.a h10) (h.a h11)) fun x4=>cM Q Q
theorem aDQ{b:aA}{slot:Int}{s1 s2 s3 s4 s5 s6 s7:AC}(h1:bB κ s1 b.Mem.aC.Bytes)(h2:bB κ s2 b.Mem.aC.Class)(h3:bB κ s3 b.Mem.aB.Global)(h4:bB κ s4 b.Mem.aB.Own)(h5:bB κ s5 b.aD.b9)(h6:bB κ s6 b.aO)(h7:bB κ s7 b.l7):V0 prog κ 132 (HP b slot) [.g (gB b s1 s2 s3 s4 s5 s6 s7),I slot] I:=
 c9 tok call132 func132 results132 Q Q<|c0 Q (fun h=>UM (h.a h1) (h.a h2) (h.a h3) (h.a h4)) fun x1=>cV 0 1 (rB x1) [5] 18 [] Q (eA [11,12] Q Q (c0 Q (fun h=>UN (h.a h6)) fun x3=>bR [] Q Q)<|bR [] Q Q) fun x2=>bU [18] Q Q (cM Q Q)<|cM Q Q
theorem aLP{b:aA}{s1 s2 s3 s4 s5 s6 s7:AC}(h1:bB κ s1 b.Mem.aC.Bytes)(h2:bB κ s2 b.Mem.aC.Class)(h3:bB κ s3 b.Mem.aB.Global)(h4:bB κ s4 b.Mem.aB.Own)(h5:bB κ s5 b.aD.b9)(h6:bB κ s6 b.aO)(h7:bB κ s7 b.l7):VS prog κ 69 (QV b) [.g (gB b s1 s2 s3 s4 s5 s6 s7)] [] [] (fun r (y:AC)=>.h y r.length) (fun r y=>[ow y r]):=
 c9 tok call69 func69 results69 Q Q<|fun hF=>FR (0:Int) aV (fun w=>mV Q w) Q Q Q Q Q Q Q hF fun hF s8=>wi hF<|c0 Q (fun h=>W4 (h.a h1) (h.a h2) (h.a h3) (h.a h4) (h.a h5) (h.a h6) (h.a h7)) fun x1=>QF () [1,4] (fun(p:(List Int)×Int) (_:Unit)=>[(3,.h s8 p.1.length),(5,I p.2)]) [1,0] [0] (fun p _=>[ow s8 (p.1:List Int)]) id [] (fun(x6:(List Int)) (_:Unit)=>[(3,.h s8 x6.length)]) [] (fun x6 _=>[ow s8 (x6:List Int)]) Q Q (fun hF1 ⟨x4,x5⟩ _ hr1=>cV 0 1 (AI b x4 x5) [1,3,4,5] 14 [0,1] Q (eA [11,12] Q Q (bR [0,1] Q Q)<|bR [0,1] Q Q) fun x7=>bU [14] Q Q (c0 Q (fun h=>aDQ (h.a h1) (h.a h2) (h.a h3) (h.a h4) (h.a h5) (h.a h6) (h.a h7)) fun x8=>uF oI 0 Q Q Q fun x9 h8 _ h9=>fun hG1=>m6 1 h9 h8 Q Q Q Q Q<|m6 1 h9 h8 Q Q Q Q Q<|sF Q<|rX oI 2 [] [3,20,22] (aY (x9+1)) () Q Q Q Q Q Q Q Q<|nxR () [5,1] hG1 Q)<|FV [0] Q) fun x6 _=>oL s8 [0] Q Q
theorem PT{s:aG}{s1 s2 s3 s4 s5 s6 s7 s8 s9 s10 s11:AC}(h1:bB κ s1 s.aA.Mem.aC.Bytes)(h2:bB κ s2 s.aA.Mem.aC.Class)(h3:bB κ s3 s.aA.Mem.aB.Global)(h4:bB κ s4 s.aA.Mem.aB.Own)(h5:bB κ s5 s.aA.aD.b9)(h6:bB κ s6 s.aA.aO)(h7:bB κ s7 s.aA.l7)(h8:bB κ s8 s.Cells)(h9:bB κ s9 s.aX)(h10:bB κ s10 s.dT)(h11:bB κ s11 s.Log):V0 prog κ 28 (wL s) [.g (gS s s1 s2 s3 s4 s5 s6 s7 s8 s9 s10 s11)] .b:=
 c9 tok call28 func28 results28 Q Q<|c1 Q (fun h=>aLO (h.a h1) (h.a h2) (h.a h3) (h.a h4) (h.a h5) (h.a h6) (h.a h7) (h.a h8) (h.a h9) (h.a h10) (h.a h11)) fun x1 s12=>OO 4 [1,3] [1,0] Out.brk [1,3] [1,0] Q Q (fun hF1 x3 hr1=>bU [10] Q Q (cV 0 1 (vF x3) [1,3,4] 32 [0,1] Q (pP aP [1] Q<|uF oI 0 Q Q Q fun x9 h14 _ h15=>fun hG1=>m6 1 h15 h14 Q Q Q Q Q<|wi hG1<|c0 Q (fun h=>LO (h.a h1) (h.a h2) (h.a h3) (h.a h4)) fun x10=>eA [21,22] Q Q (fun hG1=>sF Q<|pS oI 2 [] h14 () Q Q Q Q Q Q Q<|uE () [5,1] hG1 Q)<|fun hG1=>m6 1 h15 h14 Q Q Q Q Q<|wi hG1<|c0 Q (fun _=>pD) fun x11=>c0 Q (fun h=>UN (h.a h6)) fun x12=>fun hG1=>sF Q<|pS oI 2 [] h14 () Q Q Q Q Q Q Q<|uE () [5,1] hG1 Q) fun x8=>bU [32] Q Q (MC hr1 hF1<|cM Q Q)<|JG [0,1] Q)<|FV [0,1] Q)<|cV 0 1 vD [] 2 [] Q (c0 Q (fun h=>FE (h.a h1) (h.a h2) (h.a h3) (h.a h4) (h.a h5) (h.a h6) (h.a h7) (h.a h8) (h.a h9) (h.a h10) (h.a h11)) fun x5=>eA [34,35] Q Q (c1 Q (fun h=>aLP (h.a h1) (h.a h2) (h.a h3) (h.a h4) (h.a h5) (h.a h6) (h.a h7)) fun x6 s13=>uF oI 2 Q Q Q fun x7 h12 _ h13=>fun hF=>m6 1 h13 h12 Q Q Q Q Q<|sF Q<|pS oI 3 [] h12 () Q Q Q Q Q Q Q<|uE () [] hF Q)<|bR [] Q Q) fun x4=>cM Q Q
theorem aBD{h:Int}{k0:aG}{s1 s2 s3 s4 s5 s6 s7 s8 s9 s10 s11:AC}{b0:Nat×Nat}(h1:bB κ s1 k0.aA.Mem.aC.Bytes)(h2:bB κ s2 k0.aA.Mem.aC.Class)(h3:bB κ s3 k0.aA.Mem.aB.Global)(h4:bB κ s4 k0.aA.Mem.aB.Own)(h5:bB κ s5 k0.aA.aD.b9)(h6:bB κ s6 k0.aA.aO)(h7:bB κ s7 k0.aA.l7)(h8:bB κ s8 k0.Cells)(h9:bB κ s9 k0.aX)(h10:bB κ s10 k0.dT)(h11:bB κ s11 k0.Log):VS prog κ 71 (ER h k0) [I h,.p 0 0] [b0] [.ro 0 (gS k0 s1 s2 s3 s4 s5 s6 s7 s8 s9 s10 s11)] (fun r (_:Unit)=>.b r) (fun _ _=>[]):=
 c9 tok call71 func71 results71 Q Q<|c0 Q (fun h=>AU (h.a h1) (h.a h2) (h.a h3) (h.a h4)) fun x1=>cM Q Q
theorem aGY{s:aG}{s1 s2 s3 s4 s5 s6 s7 s8 s9 s10 s11:AC}(h1:bB κ s1 s.aA.Mem.aC.Bytes)(h2:bB κ s2 s.aA.Mem.aC.Class)(h3:bB κ s3 s.aA.Mem.aB.Global)(h4:bB κ s4 s.aA.Mem.aB.Own)(h5:bB κ s5 s.aA.aD.b9)(h6:bB κ s6 s.aA.aO)(h7:bB κ s7 s.aA.l7)(h8:bB κ s8 s.Cells)(h9:bB κ s9 s.aX)(h10:bB κ s10 s.dT)(h11:bB κ s11 s.Log):V0 prog κ 29 (KG s) [.g (gS s s1 s2 s3 s4 s5 s6 s7 s8 s9 s10 s11)] .b:=
 c9 tok call29 func29 results29 Q Q<|cV 0 1 BT [] 2 [] Q (c0 Q (fun h=>FA (h.a h1) (h.a h2) (h.a h3) (h.a h4) (h.a h5) (h.a h6) (h.a h7) (h.a h8) (h.a h9) (h.a h10) (h.a h11)) fun x2=>eA [4,5] Q Q (c1 Q (fun h=>aGW (h.a h1) (h.a h2) (h.a h3) (h.a h4) (h.a h5) (h.a h6) (h.a h7) (h.a h8) (h.a h9) (h.a h10) (h.a h11)) fun x3 s12=>fun hF=>mf [0] Q Q Q<|wi hF<|aLB [0] Q Q Q Q (fun h=>fun hB=>fD (h.o 1 Q) (aLA (cs:=[(0,(gS s s1 s2 s3 s4 s5 s6 s7 s8 s9 s10 s11))]) call71 hB Q fun hk _=>aBD (rk hk (h.a h1)) (rk hk (h.a h2)) (rk hk (h.a h3)) (rk hk (h.a h4)) (rk hk (h.a h5)) (rk hk (h.a h6)) (rk hk (h.a h7)) (rk hk (h.a h8)) (rk hk (h.a h9)) (rk hk (h.a h10)) (rk hk (h.a h11)))) fun x4=>bR [] Q Q)<|bR [] Q Q) fun x1=>cM Q Q
theorem ZU{b:aA}{slot:Int}{s1 s2 s3 s4 s5 s6 s7:AC}(h1:bB κ s1 b.Mem.aC.Bytes)(h2:bB κ s2 b.Mem.aC.Class)(h3:bB κ s3 b.Mem.aB.Global)(h4:bB κ s4 b.Mem.aB.Own)(h5:bB κ s5 b.aD.b9)(h6:bB κ s6 b.aO)(h7:bB κ s7 b.l7):V0 prog κ 140 (LB b slot) [.g (gB b s1 s2 s3 s4 s5 s6 s7),I slot] I:=
 c9 tok call140 func140 results140 Q Q<|c0 Q (fun h=>UF (h.a h1) (h.a h2) (h.a h3) (h.a h4)) fun x1=>bU [10,12] Q Q (cM Q Q)<|c0 Q (fun h=>LL (h.a h6)) fun x2=>bU [14,18] Q Q (cM Q Q)<|cM Q Q
theorem aLQ{b:aA}{s1 s2 s3 s4 s5 s6 s7:AC}(h1:bB κ s1 b.Mem.aC.Bytes)(h2:bB κ s2 b.Mem.aC.Class)(h3:bB κ s3 b.Mem.aB.Global)(h4:bB κ s4 b.Mem.aB.Own)(h5:bB κ s5 b.aD.b9)(h6:bB κ s6 b.aO)(h7:bB κ s7 b.l7):VS prog κ 137 (QW b) [.g (gB b s1 s2 s3 s4 s5 s6 s7)] [] [] (fun r (y:AC)=>.h y r.length) (fun r y=>[ow y r]):=
 c9 tok call137 func137 results137 Q Q<|fun hF=>FR (0:Int) aV (fun w=>mV Q w) Q Q Q Q Q Q Q hF fun hF s8=>wi hF<|c0 Q (fun h=>OC (h.a h1) (h.a h2) (h.a h3) (h.a h4) (h.a h5) (h.a h6) (h.a h7)) fun x1=>bU [8] Q Q (oL s8 [1] Q Q)<|QF () [1] (fun(p:(List Int)×Int) (_:Unit)=>[(3,.h s8 p.1.length),(10,I p.2)]) [1,0] [0] (fun p _=>[ow s8 (p.1:List Int)]) id [] (fun(x6:(List Int)) (_:Unit)=>[(3,.h s8 x6.length)]) [] (fun x6 _=>[ow s8 (x6:List Int)]) Q Q (fun hF1 ⟨x4,x5⟩ _ hr1=>bU [11] Q Q (c0 Q (fun h=>ZU (h.a h1) (h.a h2) (h.a h3) (h.a h4) (h.a h5) (h.a h6) (h.a h7)) fun x7=>uF oI 0 Q Q Q fun x8 h8 _ h9=>fun hG1=>m6 1 h9 h8 Q Q Q Q Q<|m6 1 h9 h8 Q Q Q Q Q<|sF Q<|rX oI 2 [] [3,13] (aY (x8+1)) () Q Q Q Q Q Q Q Q<|nxR () [5,1] hG1 Q)<|FV [0] Q) fun x6 _=>oL s8 [0] Q Q
theorem aGZ{h:Int}{k0:aA}{s1 s2 s3 s4 s5 s6 s7:AC}{b0:Nat×Nat}(h1:bB κ s1 k0.Mem.aC.Bytes)(h2:bB κ s2 k0.Mem.aC.Class)(h3:bB κ s3 k0.Mem.aB.Global)(h4:bB κ s4 k0.Mem.aB.Own)(h5:bB κ s5 k0.aD.b9)(h6:bB κ s6 k0.aO)(h7:bB κ s7 k0.l7):VS prog κ 138 (xV h k0) [I h,.p 0 0] [b0] [.ro 0 (gB k0 s1 s2 s3 s4 s5 s6 s7)] (fun r (_:Unit)=>.b r) (fun _ _=>[]):=
 c9 tok call138 func138 results138 Q Q<|cV 0 1 I3 [] 3 [] Q (c0 Q (fun h=>AU (h.a h1) (h.a h2) (h.a h3) (h.a h4)) fun x2=>eA [8,9] Q Q (bR [] Q Q)<|c0 Q (fun h=>LL (h.a h6)) fun x3=>bR [] Q Q) fun x1=>cM Q Q
theorem aLR{b:aA}{list:List Int}{s1 s2 s3 s4 s5 s6 s7:AC}{s8:AC}(h1:bB κ s1 b.Mem.aC.Bytes)(h2:bB κ s2 b.Mem.aC.Class)(h3:bB κ s3 b.Mem.aB.Global)(h4:bB κ s4 b.Mem.aB.Own)(h5:bB κ s5 b.aD.b9)(h6:bB κ s6 b.aO)(h7:bB κ s7 b.l7)(h8:bB κ s8 list):V0 prog κ 73 (QX b list) [.g (gB b s1 s2 s3 s4 s5 s6 s7),.h s8 list.length] .b:=
 c9 tok call73 func73 results73 Q Q<|cV 0 1 N3 [] 4 [] Q (c1 Q (fun h=>aLQ (h.a h1) (h.a h2) (h.a h3) (h.a h4) (h.a h5) (h.a h6) (h.a h7)) fun x2 s9=>uF oI 1 Q Q Q fun x3 h9 _ h10=>fun hF=>m6 1 h10 h9 Q Q Q Q Q<|wi hF<|eA [11,12] Q Q (fun hF=>mf [0] Q Q Q<|wi hF<|aLB [0] Q Q Q Q (fun h=>fun hB=>fD (h.a h8) (aLA (cs:=[(0,(gB b s1 s2 s3 s4 s5 s6 s7))]) call138 hB Q fun hk _=>aGZ (rk hk (h.a h1)) (rk hk (h.a h2)) (rk hk (h.a h3)) (rk hk (h.a h4)) (rk hk (h.a h5)) (rk hk (h.a h6)) (rk hk (h.a h7)))) fun x4=>fun hF=>sF Q<|pS oI 2 [] h9 () Q Q Q Q Q Q Q<|uE () [] hF Q)<|fun hF=>sF Q<|pS oI 2 [] h9 () Q Q Q Q Q Q Q<|uE () [] hF Q) fun x1=>cM Q Q
theorem aBE{s:aG}{s1 s2 s3 s4 s5 s6 s7 s8 s9 s10 s11:AC}(h1:bB κ s1 s.aA.Mem.aC.Bytes)(h2:bB κ s2 s.aA.Mem.aC.Class)(h3:bB κ s3 s.aA.Mem.aB.Global)(h4:bB κ s4 s.aA.Mem.aB.Own)(h5:bB κ s5 s.aA.aD.b9)(h6:bB κ s6 s.aA.aO)(h7:bB κ s7 s.aA.l7)(h8:bB κ s8 s.Cells)(h9:bB κ s9 s.aX)(h10:bB κ s10 s.dT)(h11:bB κ s11 s.Log):V0 prog κ 30 (ET s) [.g (gS s s1 s2 s3 s4 s5 s6 s7 s8 s9 s10 s11)] .b:=
 c9 tok call30 func30 results30 Q Q<|cV 0 1 ES [] 2 [] Q (pP aP [0] Q<|c0 Q (fun h=>FA (h.a h1) (h.a h2) (h.a h3) (h.a h4) (h.a h5) (h.a h6) (h.a h7) (h.a h8) (h.a h9) (h.a h10) (h.a h11)) fun x2=>eA [4,5] Q Q (c1 Q (fun h=>aLK (h.a h1) (h.a h2) (h.a h3) (h.a h4) (h.a h5) (h.a h6) (h.a h7) (h.a h8) (h.a h9) (h.a h10) (h.a h11)) fun x3 s12=>c0 Q (fun h=>aLR (h.a h1) (h.a h2) (h.a h3) (h.a h4) (h.a h5) (h.a h6) (h.a h7) (h.o 1 Q)) fun x4=>bR [] Q Q)<|bR [] Q Q) fun x1=>cM Q Q
theorem aG0{l:List Ev}{s1:AC}(h1:bB κ s1 l):V0 prog κ 31 (KH l) [.h s1 l.length] .b:=
 c9 tok call31 func31 results31 Q Q<|OO 10 [0,8,9] [] Out.brk [] [] Q Q (fun hF1 x2 hr1=>bU [11] Q Q (jC 2 0 (fun(_:Unit)=>oD x2) [0,8,9,10] (fun(_:Unit) (_:Unit)=>[]) [] (fun _ _=>[]) Q (DG cEv Q h1 Q fun x3 _ _=>bU [17] Q Q (bR (p:=()) [] Q Q)<|QF () [0,4,8,9,10] (fun(x5:Int) (_:Unit)=>[(5,I x5)]) [1] [1] (fun x5 _=>[]) id [0,4,8,9,10] (fun(x6:Int) (_:Unit)=>[(5,I x6)]) [1] (fun x6 _=>[]) Q Q (fun hF3 x5 _ hr3=>cV 0 2 (kD x5) [0,4,5,8,9,10] 39 [0] Q (pP aP [0] Q<|eA [21,22] Q Q (DG cEv Q h1 Q fun x11 _ _=>eA [28,29] Q Q (bR [0] Q Q)<|DG cEv Q h1 Q fun x12 _ _=>bR [0] Q Q)<|bR [0] Q Q) fun x10=>bU [39] Q Q (JG [0] Q)<|FV [0] Q) fun x6 _=>bU [43] Q Q (bR (p:=()) [] Q Q)<|DG cEv Q h1 Q fun x7 _ _=>c0 Q (fun h=>aI8 (h.a h1)) fun x8=>cV 0 5 (fI x2) [0,8,9,10] 89 [] Q (eA [55,56] Q Q (eA [59,60] Q Q (bR [] Q Q)<|eA [65,66,67] Q Q (bR [] Q Q)<|eA [72,73,74,75] Q Q (bR [] Q Q)<|eA [78,79] Q Q (eA [82,83] Q Q (bR [] Q Q)<|bR [] Q Q)<|bR [] Q Q)<|eA [78,79] Q Q (eA [82,83] Q Q (bR [] Q Q)<|bR [] Q Q)<|bR [] Q Q) fun x9=>bU [89] Q Q (MC hr1 hF1<|cM Q Q)<|bR (p:=()) [] Q Q) fun _ _=>JG [] Q)<|FV [] Q)<|cM Q Q
theorem aLS{a_ b:Span}:V0 prog κ 74 (QY a_ b) [.g [I a_.GK,I a_.To],.g [I b.GK,I b.To]] .b:=
 c9 tok call74 func74 results74 Q Q<|cV 0 2 uL [] 4 [] Q (eA [9,10] Q Q (bR [] Q Q)<|eA [15,16,17] Q Q (bR [] Q Q)<|eA [22,23,24] Q Q (bR [] Q Q)<|bR [] Q Q) fun x1=>cM Q Q
theorem aDR{l:List Span}{s1:AC}(h1:bB κ s1 l):V0 prog κ 32 (AL l) [.h s1 l.length] .b:=
 c9 tok call32 func32 results32 Q Q<|OO 3 [0] [] Out.brk [] [] Q Q (fun hF1 x2 hr1=>bU [8] Q Q (cV 0 0 (xW l x2) [0,3] 24 [] Q (DG aN4 Q h1 Q fun x9 _ _=>eA [16,17] Q Q (bR [] Q Q)<|DG aN4 Q h1 Q fun x10 _ _=>bR [] Q Q) fun x3=>bU [24] Q Q (MC hr1 hF1<|cM Q Q)<|OO 4 [0,3] [] Out.brk [0,3] [] Q Q (fun hF3 x5 hr3=>bU [27] Q Q (pP aP [] Q<|DG aN4 Q h1 Q fun x6 _ _=>DG aN4 Q h1 Q fun x7 _ _=>c0 Q (fun _=>aLS) fun x8=>bU [39] Q Q (MC hr3 hF3<|MC hr1 hF1<|cM Q Q)<|JG [] Q)<|FV [] Q)<|JG [] Q)<|FV [] Q)<|cM Q Q
theorem aLT{b:aA}{slot:Int}{s1 s2 s3 s4 s5 s6 s7:AC}(h1:bB κ s1 b.Mem.aC.Bytes)(h2:bB κ s2 b.Mem.aC.Class)(h3:bB κ s3 b.Mem.aB.Global)(h4:bB κ s4 b.Mem.aB.Own)(h5:bB κ s5 b.aD.b9)(h6:bB κ s6 b.aO)(h7:bB κ s7 b.l7):V0 prog κ 75 (QZ b slot) [.g (gB b s1 s2 s3 s4 s5 s6 s7),I slot] I:=
 c9 tok call75 func75 results75 Q Q<|c0 Q (fun h=>OC (h.a h1) (h.a h2) (h.a h3) (h.a h4) (h.a h5) (h.a h6) (h.a h7)) fun x1=>bU [7] Q Q (cM Q Q)<|c0 Q (fun h=>ZU (h.a h1) (h.a h2) (h.a h3) (h.a h4) (h.a h5) (h.a h6) (h.a h7)) fun x2=>cM Q Q
theorem aJF{b:aA}{s1 s2 s3 s4 s5 s6 s7:AC}(h1:bB κ s1 b.Mem.aC.Bytes)(h2:bB κ s2 b.Mem.aC.Class)(h3:bB κ s3 b.Mem.aB.Global)(h4:bB κ s4 b.Mem.aB.Own)(h5:bB κ s5 b.aD.b9)(h6:bB κ s6 b.aO)(h7:bB κ s7 b.l7):VS prog κ 33 (NC b) [.g (gB b s1 s2 s3 s4 s5 s6 s7)] [] [] (fun r (y:AC)=>.h y r.length) (fun r y=>[ow y r]):=
 c9 tok call33 func33 results33 Q Q<|fun hF=>lt0 (α:=Span) UB Q Q Q Q fun s8=>wi hF<|QF s8 [1] (fun(p:(List Span)×Int) (s10:AC)=>[(3,.h s10 p.1.length),(6,I p.2)]) [1,0] [0] (fun p s10=>[ow s10 (p.1:List Span)]) id [] (fun(x5:(List Span)) (s11:AC)=>[(3,.h s11 x5.length)]) [] (fun x5 s11=>[ow s11 (x5:List Span)]) Q Q (fun hF1 ⟨x3,x4⟩ s10 hr1=>bU [7] Q Q (jC 2 1 (EU x4) [1,6] (fun(x6:(List Span)) (s12:AC)=>[(3,.h s12 x6.length)]) [1] (fun x6 s12=>[ow s12 (x6:List Span)]) Q (c0 Q (fun h=>aLT (h.a h1) (h.a h2) (h.a h3) (h.a h4) (h.a h5) (h.a h6) (h.a h7)) fun x7=>bU [12] Q Q (c0 Q (fun h=>rH (h.a h1) (h.a h2)) fun x8=>c0 Q (fun _=>UI) fun x9=>fun hG1=>ltN a6H [] (x9) () UB Q Q Q Q Q Q Q Q Q Q Q Q Q fun s13=>ap 0 UB Q Q Q Q Q Q Q (fun h=>(h.o 2 Q)) Q Q hG1 fun hG1 s14=>wi hG1<|pG s14 [0,1] Q Q)<|pG s10 [0,1] Q Q) fun x6 s12=>nxW s12 [0,1] Q)<|bkW s10 [0] Q) fun x5 s11=>oL s11 [0] Q Q
theorem aLU{code:List UInt8}{s1:AC}(h1:bB κ s1 code):V0 prog κ 5 (XU code) [.h s1 code.length] .b:=
 c9 tok call5 func5 results5 Q Q<|c0 Q (fun h=>aP3 (h.a h1)) fun x1=>bU [7] Q Q (cM Q Q)<|c1 Q (fun h=>UC (h.a h1)) fun x2 s2=>c0 Q (fun h=>aLE (h.o 0 Q) (h.o 1 Q)) fun x3=>bU [12] Q Q (c1 Q (fun h=>m5 (h.o 0 Q) (h.o 1 Q)) fun x4 s3=>a6B underlying46 Q Q Q Q Q Q Q<|cM Q Q)<|jC 0 2 (N4 x2) [3] (fun(x5:aG) (u:a1C)=>[(4,.p 1 0)]) [0,1,2] (fun x5 u=>(zS x5 u [.box 1 (yS x5 u)])) Q (pP aP [2] Q<|fun hF=>bd hF fun x18 hA1 hF=>nd hF fun hA2 hF=>bd hF fun x19 hA3 hF=>j8 Q Q (have hq1:=rb hA1;wi hq1<|c0 Q (fun h=>ZT (h.a h1)) fun u1=>fun hq1=>match u1,hq1 with | _,rfl=>j8 Q Q (have hq2:=rn hA2;wi hq2<|paW Q (fun h=>UO (x:=x2) (n:=x18) (h.o 0 Q) (h.o 1 Q)) fun h3=>fun hq2=>j8 Q Q (have hq3:=rb hA3;wi hq3<|c1 Q (fun h=>m5 (x:=(⟨x2.dT,(x2.eO.take ((if x18 < (x2.eO.length:Int) then x18 else (x2.eO.length:Int)).toNat)).drop 0⟩:m7)) (h.o 0 Q) ((h.o 1 Q).sub (JF (aB9 h3).1 (aB9 h3).2) (aB9 h3))) fun u2 s18=>fun hq3=>match u2,hq3 with | _,rfl=>wi hF<|pG (p:=(x19)) s18 [3,4,5,6,7,8,9,10,11,12,13,14,0,1,2] Q Q) (have hq4:=rb hA3;wi hq4<|c1 Q (fun h=>m5 (x:=(⟨x2.dT,(x2.eO.take ((if x18 < (x2.eO.length:Int) then x18 else (x2.eO.length:Int)).toNat)).drop 0⟩:m7)) (h.o 0 Q) ((h.o 1 Q).sub (JF (aB9 h3).1 (aB9 h3).2) (aB9 h3))) fun u3 s19=>fun hq4=>match u3,hq4 with | _,rfl=>wi hF<|pG (p:=(x19)) s19 [4,5,6,7,8,9,10,11,12,13,14,3,0,1,2] Q Q)) (have hq5:=rn hA2;wi hq5<|paW Q (fun h=>UO (x:=x2) (n:=x18) (h.o 0 Q) (h.o 1 Q)) fun h4=>fun hq5=>have hq6:=rb hA3;wi hq6<|c1 Q (fun h=>m5 (x:=(⟨x2.dT,(x2.eO.take ((if x18 < (x2.eO.length:Int) then x18 else (x2.eO.length:Int)).toNat)).drop 0⟩:m7)) (h.o 0 Q) ((h.o 1 Q).sub (JF (aB9 h4).1 (aB9 h4).2) (aB9 h4))) fun u4 s20=>fun hq6=>match u4,hq6 with | _,rfl=>wi hF<|pG (p:=(x19)) s20 [4,5,6,7,8,9,10,11,12,13,14,3,0,1,2] Q Q)) (have hq7:=rb hA1;wi hq7<|c0 Q (fun h=>ZT (h.a h1)) fun u5=>fun hq7=>match u5,hq7 with | _,rfl=>have hq8:=rn hA2;wi hq8<|paW Q (fun h=>UO (x:=x2) (n:=x18) (h.o 0 Q) (h.o 1 Q)) fun h5=>fun hq8=>have hq9:=rb hA3;wi hq9<|c1 Q (fun h=>m5 (x:=(⟨x2.dT,(x2.eO.take ((if x18 < (x2.eO.length:Int) then x18 else (x2.eO.length:Int)).toNat)).drop 0⟩:m7)) (h.o 0 Q) ((h.o 1 Q).sub (JF (aB9 h5).1 (aB9 h5).2) (aB9 h5))) fun u6 s21=>fun hq9=>match u6,hq9 with | _,rfl=>wi hF<|pG (p:=(x19)) s21 [4,5,6,7,8,9,10,11,12,13,14,3,0,1,2] Q Q)) fun x5 ⟨s4,s5,s6,s7,s8,s9,s10,s11,s12,s13,s14⟩=>c1 Q (fun h=>m5 (h.o 12 Q) (h.o 13 Q)) fun x6 s15=>cV 0 3 jO [] 2 [] Q (c0 Q (fun h=>UP (h.o 0 Q) (h.o 1 Q) (h.o 2 Q) (h.o 3 Q) (h.o 4 Q) (h.o 5 Q) (h.o 6 Q) (h.o 7 Q) (h.o 8 Q) (h.o 9 Q) (h.o 10 Q)) fun x8=>eA [29,30] Q Q (c0 Q (fun h=>PT (h.o 0 Q) (h.o 1 Q) (h.o 2 Q) (h.o 3 Q) (h.o 4 Q) (h.o 5 Q) (h.o 6 Q) (h.o 7 Q) (h.o 8 Q) (h.o 9 Q) (h.o 10 Q)) fun x9=>eA [32,33,34] Q Q (c0 Q (fun h=>UP (h.o 15 Q) (h.o 16 Q) (h.o 17 Q) (h.o 18 Q) (h.o 19 Q) (h.o 20 Q) (h.o 21 Q) (h.o 22 Q) (h.o 23 Q) (h.o 24 Q) (h.o 25 Q)) fun x10=>eA [36,37,38] Q Q (c0 Q (fun h=>PT (h.o 15 Q) (h.o 16 Q) (h.o 17 Q) (h.o 18 Q) (h.o 19 Q) (h.o 20 Q) (h.o 21 Q) (h.o 22 Q) (h.o 23 Q) (h.o 24 Q) (h.o 25 Q)) fun x11=>eA [40,41,42] Q Q (c0 Q (fun h=>aGQ (h.o 25 Q)) fun x12=>eA [45,46,47] Q Q (c0 Q (fun h=>aGY (h.o 15 Q) (h.o 16 Q) (h.o 17 Q) (h.o 18 Q) (h.o 19 Q) (h.o 20 Q) (h.o 21 Q) (h.o 22 Q) (h.o 23 Q) (h.o 24 Q) (h.o 25 Q)) fun x13=>eA [49,50,51] Q Q (c0 Q (fun h=>aBE (h.o 15 Q) (h.o 16 Q) (h.o 17 Q) (h.o 18 Q) (h.o 19 Q) (h.o 20 Q) (h.o 21 Q) (h.o 22 Q) (h.o 23 Q) (h.o 24 Q) (h.o 25 Q)) fun x14=>eA [53,54,55] Q Q (c0 Q (fun h=>aG0 (h.o 25 Q)) fun x15=>eA [58,59,60] Q Q (c1 Q (fun h=>aJF (h.o 15 Q) (h.o 16 Q) (h.o 17 Q) (h.o 18 Q) (h.o 19 Q) (h.o 20 Q) (h.o 21 Q)) fun x16 s16=>c0 Q (fun h=>aDR (h.o 27 Q)) fun x17=>bR [] Q Q)<|bR [] Q Q)<|bR [] Q Q)<|bR [] Q Q)<|bR [] Q Q)<|bR [] Q Q)<|bR [] Q Q)<|bR [] Q Q)<|bR [] Q Q) fun x7=>cM Q Q
end
end Go.Proofs.YtabnjpbikjfhoaaGreat
end
noncomputable section
namespace Go.Gv
theorem fV{σ ρ:Type}{f:σ->Option (Step σ ρ)}(n:Nat)(S:Nat->σ)(r:ρ)(hs:∀k,k < n->f (S k)=some (.next (S (k+1))))(he:f (S n)=some (.stop r)):loop f (S 0)=some r:=by
  have key:∀d k,k+d=n->loop f (S k)=some r:=by
    intro d
    induction d with
    | zero => intro k hk; obtain rfl : k = n := by omega
              exact bL he
    | succ d ih=>intro k hk;rw [bP (hs k (by omega))];exact ih (k+1) (by omega)
  exact key n 0 (by omega)
theorem aTK{σ ρ:Type}{f:σ->Option (Step σ ρ)}(n:Nat)(S:Nat->σ)(g:Nat->ρ)
  (h:∀k,k<=n->f (S k)=some (.stop (g k))\/(k < n/\f (S k)=some (.next (S (k+1)))/\g k=g (k+1))):∀k,k<=n->loop f (S k)=some (g k):=by
 have key:∀d k,k+d=n->loop f (S k)=some (g k):=by
  intro d
  induction d with
  | zero =>
   intro k hk
   rcases h k (by omega) with h1 | ⟨h1,_⟩
   ·exact bL h1
   ·omega
  | succ d ih =>
   intro k hk
   rcases h k (by omega) with h1 | ⟨_,h2,h3⟩
   ·exact bL h1
   ·rw [bP h2,h3];exact ih (k+1) (by omega)
 intro k hk
 exact key (n - k) k (by omega)
theorem wV{σ ρ:Type}{f:σ->Option (Step σ ρ)}(n:Nat)(S:Nat->σ)(p:Nat->Prop)[DecidablePred p](yes no:ρ)
  (h1:∀k,k < n->p k->f (S k)=some (.next (S (k+1)))) (h2:∀k,k < n->¬p k->f (S k)=some (.stop no)) (h3:f (S n)=some (.stop yes)) :
  loop f (S 0)=some (if ∀k,k < n->p k then yes else no):=by
 classical
 have key:∀d k,k+d=n->loop f (S k)=some (if ∀j,k<=j->j < n->p j then yes else no):=by
  intro d
  induction d with
  | zero =>
   intro k hk;obtain rfl:k=n:=by omega
   rw [bL h3,if_pos (fun j a b=>by omega)]
  | succ d ih =>
   intro k hk
   by_cases hp:p k
   ·rw [bP (h1 k (by omega) hp),ih (k+1) (by omega)]
    by_cases h:∀j,k+1<=j->j < n->p j
    ·rw [if_pos h,if_pos]
     intro j a b
     by_cases e:j=k
     ·subst e;exact hp
     ·exact h j (by omega) b
    ·rw [if_neg h,if_neg]
     exact fun q=>h fun j a b=>q j (by omega) b
   ·rw [bL (h2 k (by omega) hp),if_neg]
    exact fun q=>hp (q k (iE _) (by omega))
 have:=key n 0 (by omega)
 rw [this]
 by_cases h:∀k,k < n->p k
 ·rw [if_pos h,if_pos (fun j _ b=>h j b)]
 ·rw [if_neg h,if_neg (fun q=>h fun k a=>q k (sW _) a)]
theorem kT{α σ ρ:Type}{f:σ->Option (Step σ ρ)}(l:List α)(S:Nat->σ)(p:α->Prop)[DecidablePred p](yes no:ρ)
  (h1:∀k (h:k < l.length),p l[k]->f (S k)=some (.next (S (k+1)))) (h2:∀k (h:k < l.length),¬p l[k]->f (S k)=some (.stop no)) (h3:f (S l.length)=some (.stop yes)) :
  loop f (S 0)=some (if ∀x∈l,p x then yes else no):=by
 classical
 have:=wV (f:=f) l.length S (fun k=>∀h:k < l.length,p l[k]) yes no (fun k h hp=>h1 k h (hp h)) (fun k h hp=>h2 k h (fun q=>hp fun _=>q)) h3
 rw [this]
 by_cases h:∀x∈l,p x
 ·rw [if_pos h,if_pos (fun k hk _=>h _ (eN hk))]
 ·rw [if_neg h,if_neg]
  intro q
  refine h fun x hx=>?_
  obtain⟨k,hk,rfl⟩:=RP.1 hx
  exact q k hk hk
theorem aM{x:Int}(h1:-9223372036854775808<=x)(h2:x<=9223372036854775807):aY x=x:=K2 ⟨h1,h2⟩
theorem fU{α:Type}{l:List α}{i:Int}(h0:0<=i)(h1:i < l.length):idx l i=some (l[i.toNat]'(by omega)):=idx_eq h0 h1
theorem wrap_i64{x:Int}(h1:-9223372036854775808<=x)(h2:x<=9223372036854775807):IntKind.i64.wrap x=x:=K2 ⟨h1,h2⟩
theorem FF{x y:Int}(h1:0<=x):x.tdiv y=x / y:=Int.tdiv_eq_ediv_of_nonneg h1
theorem wW{x y:Int}(h1:0<=x):x.tmod y=x % y:=Int.tmod_eq_emod_of_nonneg h1
theorem a1D{x:Int}{k:Nat}(h1:0<=x)(hk:k<=63):oK .i64 x k=x / 2 ^ k:=by
 unfold oK
 have:min ((k:Int).toNat) IntKind.i64.bits=k:=by simp [IntKind.bits];omega
 rw [this,Int.fdiv_eq_ediv_of_nonneg _ (by exact Int.le_of_lt (Int.pow_pos (by omega)))]
end Go.Gv
end
noncomputable section
namespace Go.Gv
theorem dX(n a b:Int):cC n a b=some (decide (a<=n/\n<=b)):=by
 unfold cC qM
 by_cases h:a<=n <;> simp [h]
theorem b7(n a b:Int):bW n a b=some (decide (a<=n/\n<=b)):=by
 unfold bW JL
 by_cases h:a<=n <;> simp [h]
theorem map_take{α β:Type}(f:α->β){l:List α}{k:Nat}(h:k < l.length):(l.take (k+1)).map f=(l.take k).map f ++ [f l[k]]:=by
 rw [RQ h,y7];rfl
end Go.Gv
end
noncomputable section
namespace Go.Gv
def fB(c:Int):Int:=if c=0 then 8 else if c=1 then 16 else if c=2 then 40 else 0
def aS(c:Int):Int:=if c=0 then 12 else if c=1 then 20 else if c=2 then 44 else 0
def bS(c:Int):Int:=if c=0 then 4 else if c=1 then 2 else if c=2 then 1 else 0
theorem eX{c:Int}(h:0<=c/\c<=2):c=0\/c=1\/c=2:=by omega
theorem aXX{c:Int}(h:¬(0<=c/\c<=2)):fB c=0:=by unfold fB;rw [if_neg (by omega),if_neg (by omega),if_neg (by omega)]
theorem aG1{c:Int}(h:¬(0<=c/\c<=2)):aS c=0:=by unfold aS;rw [if_neg (by omega),if_neg (by omega),if_neg (by omega)]
theorem aLV{c:Int}(h:¬(0<=c/\c<=2)):bS c=0:=by unfold bS;rw [if_neg (by omega),if_neg (by omega),if_neg (by omega)]
theorem mP(c:Int):0<=bS c/\bS c<=4:=by unfold bS;split <;> (try split) <;> (try split) <;> omega
theorem X4(c:Int):0<=aS c/\aS c<=44:=by unfold aS;split <;> (try split) <;> (try split) <;> omega
theorem gK{c:Int}:0 < bS c↔0<=c/\c<=2:=by
 unfold bS;constructor
 ·intro h;split at h <;> (try split at h) <;> (try split at h) <;> omega
 ·intro h;rcases eX h with rfl | rfl | rfl <;> decide
theorem rI(c:Int):oX c=some (fB c):=by
 unfold oX fB
 by_cases h0:c=0 <;> by_cases h1:c=1 <;> by_cases h2:c=2 <;> simp [h0,h1,h2]
theorem kE(c:Int):kX c=some (decide (0<=c/\c<=2)):=by simp [kX,dX]
theorem LP(c:Int):CZ c=some (fB c):=by
 unfold CZ
 rw [kE]
 by_cases h:0<=c/\c<=2
 ·rcases eX h with rfl | rfl | rfl <;> rfl
 ·simp [h,aXX h]
theorem aBF(c:Int):zV c=some (aS c):=by
 unfold zV
 rw [b7]
 by_cases h:0<=c/\c<=2
 ·rcases eX h with rfl | rfl | rfl <;> rfl
 ·simp [h,aG1 h]
theorem PU(c:Int):uH c=some (aS c):=by
 unfold uH
 rw [kE]
 by_cases h:0<=c/\c<=2
 ·rcases eX h with rfl | rfl | rfl <;> rfl
 ·simp [h,aG1 h]
theorem iL(c:Int):mN c=some (bS c):=by
 unfold mN
 rw [b7]
 by_cases h:0<=c/\c<=2
 ·rcases eX h with rfl | rfl | rfl <;> rfl
 ·simp [h,aLV h]
theorem BX(c:Int):oN c=some (bS c):=by
 unfold oN
 rw [kE]
 by_cases h:0<=c/\c<=2
 ·rcases eX h with rfl | rfl | rfl <;> rfl
 ·simp [h,aLV h]
theorem UQ(s:Int):C3 s=some (if 0<=s/\s<=23 then s / 4 else -1):=by
 unfold C3
 rw [b7]
 by_cases h:0<=s/\s<=23
 ·simp [h,FF h.1];rw [aM (by omega) (by omega)]
 ·simp [h]
theorem SP(s:Int):xR s=some (if 0<=s/\s<=23 then s % 4 else -1):=by
 unfold xR
 rw [b7]
 by_cases h:0<=s/\s<=23
 ·simp [h,wW h.1]
 ·simp [h]
def eF(s c:Int):Int:=if (0<=s/\s<=23)/\s % 4 < bS c then s / 4 * 64+8+s % 4 * aS c else -1
theorem LQ{i c:Int}(h0:0<=i)(h1:i < bS c):0<=i * aS c/\i * aS c+aS c<=56:=by
 unfold bS at h1;unfold aS
 split at h1
 ·rw [if_pos ‹_›];omega
 ·split at h1
  ·rw [if_neg ‹_›,if_pos ‹_›];omega
  ·split at h1
   ·rw [if_neg ‹_›,if_neg ‹_›,if_pos ‹_›];omega
   ·omega
theorem uN(s c:Int):wC s c=some (eF s c):=by
 unfold wC HJ eF
 rw [UQ,SP,iL,aBF]
 by_cases h:0<=s/\s<=23
 ·have hp:=mP c
  have h1:¬s / 4 < 0:=by omega
  have h2:aY (bS c - 1)=bS c - 1:=aM (by omega) (by omega)
  by_cases h3:s % 4 < bS c
  ·have hm:=LQ (by omega) h3
   have hs:=X4 c
   have h4:0<=s % 4/\s % 4<=bS c - 1:=by omega
   have h5:¬bS c - 1 < s % 4:=by omega
   have e1:aY (s / 4 * 64)=s / 4 * 64:=aM (by omega) (by omega)
   have e2:aY (s / 4 * 64+8)=s / 4 * 64+8:=aM (by omega) (by omega)
   have e3:aY (s % 4 * aS c)=s % 4 * aS c:=aM (by omega) (by omega)
   have e4:aY (s / 4 * 64+8+s % 4 * aS c)=s / 4 * 64+8+s % 4 * aS c:=aM (by omega) (by omega)
   simp [h,h1,h2,h3,h4,h5,b7,e1,e2,e3,e4]
  ·have h4:¬s % 4<=bS c - 1:=by omega
   simp [h,h1,h2,h3,h4,b7]
 ·simp [h]
theorem wX(s:Int):mS s=some (decide (0<=s/\s<=23)):=by simp [mS,dX]
theorem AW(s c:Int):vP s c=some (eF s c):=by
 unfold vP zF eF
 rw [wX,kE,BX,PU]
 by_cases h:0<=s/\s<=23
 ·have hp:=mP c
  rw [wW h.1,FF h.1]
  by_cases h3:s % 4 < bS c
  ·have hm:=LQ (by omega) h3
   have hs:=X4 c
   have hc:0<=c/\c<=2:=gK.1 (by omega)
   have e0:aY (s / 4)=s / 4:=aM (by omega) (by omega)
   have e1:aY (s / 4 * 64)=s / 4 * 64:=aM (by omega) (by omega)
   have e2:aY (s / 4 * 64+8)=s / 4 * 64+8:=aM (by omega) (by omega)
   have e3:aY (s % 4 * aS c)=s % 4 * aS c:=aM (by omega) (by omega)
   have e4:aY (s / 4 * 64+8+s % 4 * aS c)=s / 4 * 64+8+s % 4 * aS c:=aM (by omega) (by omega)
   have h5:¬bS c<=s % 4:=by omega
   simp [h,hc,h3,h5,e0,e1,e2,e3,e4]
  ·have h5:bS c<=s % 4:=by omega
   by_cases hc:0<=c/\c<=2 <;> simp [h,hc,h3,h5]
 ·simp [h]
end Go.Gv
end
noncomputable section
namespace Go.Gv
def ldF(l:List Int):Int:=l.foldl (fun n x=>n * 256+x) 0
def vJ(l:List Int):Prop:=∀x∈l,0<=x/\x<=255
instance (l:List Int):Decidable (vJ l):=by unfold vJ;infer_instance
theorem aG2{l:List Int}{k:Nat}(h:k < l.length):ldF (l.take (k+1))=ldF (l.take k) * 256+l[k]:=by
 unfold ldF
 rw [RQ h,List.foldl_append];rfl
theorem aJ1{l:List Int}(h:vJ l):∀k,k<=l.length->0<=ldF (l.take k)/\ldF (l.take k) < 256 ^ k:=by
 intro k
 induction k with
 | zero=>intro _;simp [ldF]
 | succ k ih =>
  intro hk
  have h1:=ih (by omega)
  have h2:=h _ (eN (show k < l.length by omega))
  rw [aG2 (by omega),Int.pow_succ]
  omega
theorem a4H{k:Nat}(h:k<=6):(256:Int) ^ k<=281474976710656:=by
 have h1:(256:Nat) ^ k<=256 ^ 6:=Nat.pow_le_pow_right (by omega) h
 have h2:(256:Nat) ^ 6=281474976710656:=by decide
 rw [h2] at h1
 have h3:((256 ^ k:Nat):Int)<=281474976710656:=by omega
 rw [Int.natCast_pow] at h3
 exact h3
def ld(b:List Int)(at_ w:Nat):Int:=ldF ((b.drop at_).take w)
theorem aSH{n x:Int}{k:Nat}(hk:k<=6)(h:0<=n/\n < 256 ^ k)(hx:0<=x/\x<=255):aY (aY (n * 256)+x)=n * 256+x/\aY (aY (256 * n)+x)=n * 256+x:=by
 have:=a4H hk
 rw [Int.mul_comm 256 n,aM (x:=n * 256) (by omega) (by omega),aM (by omega) (by omega)]
 exact⟨rfl,rfl⟩
theorem aP4{b:List Int}{a w:Nat}(h:a+w<=b.length):((b.drop a).take w).length=w:=by simp;omega
theorem aG3{b:List Int}{a w k:Nat}(h:k < ((b.drop a).take w).length)(h':a+k < b.length):((b.drop a).take w)[k]=b[a+k]:=by simp
theorem aLW{b:List Int}(hb:vJ b)(a w:Nat):vJ ((b.drop a).take w):=fun x hx=>hb x (List.mem_of_mem_drop (aQ2 hx))
theorem FG{b:List Int}(hb:vJ b){a w:Nat}(hw:w<=7)(h:a+w<=b.length)(hl:b.length<=100000):wB b (a:Int) (w:Int)=some (ld b a w):=by
 unfold wB
 have hlen:=aP4 h
 have hbb:=aLW hb a w
 have key:loop (wA b (a:Int) (w:Int)) (0,0)=some (ld b a w):=by
  refine fV (f:=wA b (a:Int) (w:Int)) w (fun k=>(ldF (((b.drop a).take w).take k),(k:Int))) _ (fun k hk=>?_) ?_
  ·have hb1:=aJ1 hbb k (by omega)
   have hk':k < ((b.drop a).take w).length:=by omega
   have hx:=hbb _ (eN hk')
   have hs:=aSH (by omega) hb1 hx
   rw [aG3 hk' (by omega)] at hs
   have e1:aY ((a:Int)+k)=((a+k:Nat):Int):=by rw [aM (by omega) (by omega)];omega
   simp only [wA]
   rw [if_pos (by simp;omega),e1,aU (by omega)]
   simp only [aE,hs.1,aG2 hk',aG3 hk' (show a+k < b.length by omega)]
   rw [aM (x:=(k:Int)+1) (by omega) (by omega)];rfl
  ·have:((b.drop a).take w).take w=(b.drop a).take w:=by rw [List.take_take];simp
   simp [wA,this,ld]
 rw [key];rfl
theorem BY{b:List Int}(hb:vJ b){a w:Nat}(hw:w<=7)(h:a+w<=b.length)(hl:b.length<=100000):mF b (a:Int) (w:Int)=some (ld b a w):=by
 unfold mF
 have hlen:=aP4 h
 have hbb:=aLW hb a w
 have e0:aY ((a:Int)+w)=((a+w:Nat):Int):=by rw [aM (by omega) (by omega)];omega
 have e2:(b.take (a+w)).drop a=(b.drop a).take w:=by rw [List.drop_take];congr 1;omega
 rw [aN (by rw [e0];omega)]
 have key:loop (tA b (a:Int) (w:Int)) (0,0)=some (ld b a w):=by
  refine fV (f:=tA b (a:Int) (w:Int)) w (fun k=>(ldF (((b.drop a).take w).take k),(k:Int))) _ (fun k hk=>?_) ?_
  ·have hb1:=aJ1 hbb k (by omega)
   have hk':k < ((b.drop a).take w).length:=by omega
   have hx:=hbb _ (eN hk')
   have hs:=aSH (by omega) hb1 hx
   simp only [tA,e0,P7,e2]
   rw [if_pos (by simp;omega),aU hk']
   simp only [aE,hs.2,aG2 hk']
   rw [aM (x:=(k:Int)+1) (by omega) (by omega)];rfl
  ·have:((b.drop a).take w).take w=(b.drop a).take w:=by rw [List.take_take];simp
   simp only [tA,e0,P7,e2,this,ld]
   rw [if_neg (by rw [hlen];simp)]
 rw [key];rfl
theorem sT{l:List Int}(hl:l.length<=maxLen)(f:Int->Bool):b8 l (fun x=>some (f x))=some (l.any f):=by
 unfold b8 fL
 have key:∀k:Nat,k<=l.length->loop (cW l (fun x=>some (f x))) (k:Int)=some (if (l.drop k).any f then Out.ret ((k+(l.drop k).findIdx f:Nat):Int) else Out.brk ()):=by
  refine aKP l.length _ fun k hk=>?_
  by_cases h3:k < l.length
  ·have hd:l.drop k=l[k] :: l.drop (k+1):=y6 h3
   simp only [cW]
   rw [if_pos (by simp;omega),aU h3,jS (qJ h3 hl),hd]
   simp only [aE,List.any_cons,List.findIdx_cons]
   by_cases h4:f l[k]=true
   ·left;simp [h4]
   ·right
    have h4:f l[k]=false:=by simpa using h4
    refine⟨h3,by simp [h4],?_⟩
    simp only [h4,Bool.false_or,cond_false]
    congr 2;omega
  ·left
   obtain rfl:k=l.length:=by omega
   simp [cW]
 have t0:loop (cW l (fun x=>some (f x))) 0=_:=key 0 (by omega)
 rw [t0]
 simp only [FW]
 by_cases h:l.any f=true
 ·simp [h,qN]
 ·have h:l.any f=false:=by simpa using h
  simp [h,qN,CY]
def BOk(b:List Int):Prop:=b.length<=1000/\vJ b
instance (b:List Int):Decidable (BOk b):=by unfold BOk;infer_instance
theorem aDS{b:List Int}(hl:b.length<=maxLen):KA b=some (decide (BOk b)):=by
 unfold KA
 have key:loop (nT b) 0=some (if ∀x∈b,0<=x/\x<=255 then Out.brk () else Out.ret false):=by
  refine kT (f:=nT b) b (fun k=>(k:Int)) (fun x=>0<=x/\x<=255) _ _ (fun k h hp=>?_) (fun k h hp=>?_) ?_
  ·simp only [nT]
   rw [if_pos (by simp;omega),aU h,jS (qJ h hl)]
   simp [b7,hp]
  ·simp only [nT]
   rw [if_pos (by simp;omega),aU h]
   simp only [aE,b7,hp,decide_false,iU,if_true]
  ·simp [nT]
 rw [key]
 by_cases h:∀x∈b,0<=x/\x<=255
 ·rw [if_pos h]
  have:BOk b↔b.length<=1000:=⟨fun q=>q.1,fun q=>⟨q,h⟩⟩
  simp only [aE,I0,R6,this]
  congr 1;rw [OR];simp;omega
 ·rw [if_neg h]
  have:¬BOk b:=fun q=>h q.2
  simp [I0,this]
theorem HV{α:Type}{p:α->Prop}[DecidablePred p](l:List α):(l.any fun x=>!decide (p x))=!decide (∀x∈l,p x):=by
 rw [OR];simp
theorem aDT{b:List Int}(hl:b.length<=maxLen):JT b=some (decide (BOk b)):=by
 unfold JT A4
 have e:(fun y0=>DT y0)=fun y:Int=>some (!decide (0<=y/\y<=255)):=by
  funext y;simp [DT,TQ,dX]
 rw [e,sT hl,HV]
 by_cases h:b.length<=1000
 ·have:BOk b↔∀x∈b,0<=x/\x<=255:=⟨fun q=>q.2,fun q=>⟨h,q⟩⟩
  have h':(b.length:Int)<=1000:=by omega
  simp [h',this]
 ·have:¬BOk b:=fun q=>h q.1
  have h':¬(b.length:Int)<=1000:=by omega
  simp [h',this]
def fW(h:aC):Prop:=h.Bytes.length=384/\h.Class.length=6/\vJ h.Bytes/\∀c∈h.Class,-1<=c/\c<=2
instance (h:aC):Decidable (fW h):=by unfold fW;infer_instance
theorem aDU{h:aC}(hl:h.Bytes.length<=maxLen):KB h=some (decide (fW h)):=by
 unfold KB tK
 by_cases h1:h.Bytes.length=384
 ·by_cases h2:h.Class.length=6
  ·rw [aDS hl]
   have n1:((h.Bytes.length:Int) != 384)=false:=by simp;omega
   have n2:((h.Class.length:Int) != 6)=false:=by simp;omega
   simp only [n1,n2,aQ,if_false,aE]
   by_cases h3:vJ h.Bytes
   ·have b1:BOk h.Bytes:=⟨by omega,h3⟩
    have key:loop (nU h) 0=some (if ∀x∈h.Class,-1<=x/\x<=2 then Out.brk () else Out.ret false):=by
     refine kT (f:=nU h) h.Class (fun k=>(k:Int)) (fun x=>-1<=x/\x<=2) _ _ (fun k h hp=>?_) (fun k h hp=>?_) ?_
     ·simp only [nU]
      rw [if_pos (by simp;omega),aU h,aM (by omega) (by omega)]
      simp [b7,hp]
     ·simp only [nU]
      rw [if_pos (by simp;omega),aU h]
      simp only [aE,b7]
      rw [bM hp];rfl
     ·simp [nU,h2]
    rw [key]
    have:fW h↔∀x∈h.Class,-1<=x/\x<=2:=⟨fun q=>q.2.2.2,fun q=>⟨h1,h2,h3,q⟩⟩
    simp only [b1,decide_true,dE,aQ,if_false,this]
    by_cases h4:∀x∈h.Class,-1<=x/\x<=2
    ·rw [if_pos h4,aZ h4];rfl
    ·rw [if_neg h4,bM h4];rfl
   ·have b1:¬BOk h.Bytes:=fun q=>h3 q.2
    have:¬fW h:=fun q=>h3 q.2.2.1
    simp [b1,this]
  ·have n1:((h.Bytes.length:Int) != 384)=false:=by simp;omega
   have n2:((h.Class.length:Int) != 6)=true:=by simp;omega
   have:¬fW h:=fun q=>h2 q.2.1
   simp [n1,n2,this]
 ·have n1:((h.Bytes.length:Int) != 384)=true:=by simp;omega
  have:¬fW h:=fun q=>h1 q.1
  simp [n1,this]
theorem FH{h:aC}(hl:h.Bytes.length<=maxLen):H5 h=some (decide (fW h)):=by
 unfold H5 qO
 by_cases h1:h.Bytes.length=384
 ·have n1:((h.Bytes.length:Int) == 384)=true:=by simp;omega
  rw [aDT hl]
  by_cases h3:vJ h.Bytes
  ·have b1:BOk h.Bytes:=⟨by omega,h3⟩
   by_cases h2:h.Class.length=6
   ·have n2:((h.Class.length:Int) == 6)=true:=by simp;omega
    have e:(fun y0=>G4 y0)=fun y:Int=>some (!decide (-1<=y/\y<=2)):=by
     funext y;simp [G4,dX]
    rw [e,sT (by rw [h2];simp [maxLen]),HV]
    have:fW h↔∀x∈h.Class,-1<=x/\x<=2:=⟨fun q=>q.2.2.2,fun q=>⟨h1,h2,h3,q⟩⟩
    simp [n1,n2,b1,this]
   ·have n2:((h.Class.length:Int) == 6)=false:=by simp;omega
    have:¬fW h:=fun q=>h2 q.2.1
    simp [n1,n2,b1,this]
  ·have b1:¬BOk h.Bytes:=fun q=>h3 q.2
   have:¬fW h:=fun q=>h3 q.2.2.1
   simp [n1,b1,this]
 ·have n1:((h.Bytes.length:Int) == 384)=false:=by simp;omega
  have:¬fW h:=fun q=>h1 q.1
  simp [n1,this]
end Go.Gv
end
noncomputable section
namespace Go.Gv
def eG(h:aC)(p:Nat):List Int:=(h.Bytes.drop (p * 64)).take 64
def bQ(h:aC)(p:Nat):Int:=h.Class.getD p 0
def nE(h:aC)(p:Nat):Prop:=
 if bQ h p < 0 then ∀x∈eG h p,x=0
 else ((eG h p).getD 0 0=171/\(eG h p).getD 1 0=bQ h p/\(eG h p).getD 2 0=bS (bQ h p))/\(∀x∈((eG h p).drop 3).take 5,x=0)/\∀i,i < (bS (bQ h p)).toNat->1<=ld h.Bytes (p * 64+8+i * (aS (bQ h p)).toNat) 4/\ld h.Bytes (p * 64+8+i * (aS (bQ h p)).toNat) 4<=7
instance (h:aC) (p:Nat):Decidable (nE h p):=by unfold nE;infer_instance
noncomputable section
variable {h:aC} (hs:fW h) {p:Nat} (hp:p < 6)
include hs hp
theorem LR:(eG h p).length=64:=aP4 (by have:=hs.1;omega)
theorem UR{k:Nat}(hk:k < 64):h.Bytes[p * 64+k]'(by have:=hs.1;omega)=(eG h p)[k]'(by rw [LR hs hp];exact hk):=(aG3 (show k < ((h.Bytes.drop (p * 64)).take 64).length by have:=LR hs hp;unfold eG at this;omega) _).symm
theorem aJ2{k:Nat}(hk:k < 64):h.Bytes[p * 64+k]'(by have:=hs.1;omega)=(eG h p).getD k 0:=by
 rw [UR hs hp hk,gR,eM (by rw [LR hs hp];exact hk)];rfl
theorem VW:h.Class[p]'(by have:=hs.2.1;omega)=bQ h p:=by
 unfold bQ
 rw [gR,eM (by have:=hs.2.1;omega)];rfl
theorem aEJ:idx h.Class (p:Int)=some (bQ h p):=by rw [aU (by have:=hs.2.1;omega),VW hs hp]
theorem aG4{k:Nat}(hk:k < 64):idx h.Bytes (((p * 64+k:Nat)):Int)=some ((eG h p).getD k 0):=by
 rw [aU (by have:=hs.1;omega),aJ2 hs hp hk]
theorem aTL:vJ (eG h p):=aLW hs.2.2.1 _ _
theorem uO{c:Int}(hc:bQ h p=c){i:Nat}(hi:i < (bS c).toNat):(8+i * (aS c).toNat)+4<=64/\0<=(i:Int) * aS c/\((8+i * (aS c).toNat:Nat):Int)=8+(i:Int) * aS c:=by
 have h1:(i:Int) < bS c:=by omega
 have hc2:0<=c/\c<=2:=gK.1 (by omega)
 rcases eX hc2 with rfl | rfl | rfl
 ·have e:aS 0=12:=rfl
  have g:(12:Int).toNat=12:=rfl
  have f:(bS 0).toNat=4:=rfl
  rw [e,g];rw [f] at hi;omega
 ·have e:aS 1=20:=rfl
  have g:(20:Int).toNat=20:=rfl
  have f:(bS 1).toNat=2:=rfl
  rw [e,g];rw [f] at hi;omega
 ·have e:aS 2=44:=rfl
  have g:(44:Int).toNat=44:=rfl
  have f:(bS 2).toNat=1:=rfl
  rw [e,g];rw [f] at hi;omega
theorem aXY{i:Nat}(hi:i < (bS (bQ h p)).toNat):eF ((p:Int) * 4+i) (bQ h p)=((p * 64+(8+i * (aS (bQ h p)).toNat):Nat):Int):=by
 have hz:=uO hs hp rfl hi
 have hle:=mP (bQ h p)
 unfold eF
 rw [if_pos (by omega)]
 have e1:((p:Int) * 4+i) / 4=p:=by omega
 have e2:((p:Int) * 4+i) % 4=i:=by omega
 rw [e1,e2]
 omega
theorem US:M7 h (p:Int)=some (decide (nE h p)):=by
 have hb:=hs.1
 have hl:=LR hs hp
 have e0:aY ((p:Int) * 64)=((p * 64+0:Nat):Int):=by rw [aM (by omega) (by omega)];omega
 have e1:aY (((p * 64+0:Nat):Int)+1)=((p * 64+1:Nat):Int):=by rw [aM (by omega) (by omega)];omega
 have e2:aY (((p * 64+0:Nat):Int)+2)=((p * 64+2:Nat):Int):=by rw [aM (by omega) (by omega)];omega
 have e3:aY (((p * 64+0:Nat):Int)+3)=((p * 64+3:Nat):Int):=by rw [aM (by omega) (by omega)];omega
 have e8:aY (((p * 64+0:Nat):Int)+8)=((p * 64+8:Nat):Int):=by rw [aM (by omega) (by omega)];omega
 have e64:aY (((p * 64+0:Nat):Int)+64)=((p * 64+64:Nat):Int):=by rw [aM (by omega) (by omega)];omega
 unfold M7
 rw [aEJ hs hp]
 simp only [aE]
 by_cases hc:bQ h p < 0
 ·simp only [hc,decide_true,if_true,e0]
  have key:loop (qV h (p:Int)) (((p * 64+0:Nat)):Int)=some (if ∀x∈eG h p,x=0 then Out.brk () else Out.ret false):=by
   refine kT (f:=qV h (p:Int)) (eG h p) (fun k=>((p * 64+k:Nat):Int)) (fun x=>x=0) _ _ (fun k hk hx=>?_) (fun k hk hx=>?_) ?_
   ·simp only [qV,e0,e64]
    rw [if_pos (by simp;omega),aU (by omega),UR hs hp (by omega),aM (by omega) (by omega)]
    simp only [aE,hx];simp;omega
   ·simp only [qV,e0,e64]
    rw [if_pos (by simp;omega),aU (by omega),UR hs hp (by omega)]
    have hx':((eG h p)[k] != 0)=true:=by simpa using hx
    simp only [aE,hx',if_true]
   ·simp only [qV,e0,e64,hl]
    rw [if_neg (by simp)]
  rw [key]
  have hP:nE h p↔∀x∈eG h p,x=0:=by unfold nE;rw [if_pos hc]
  by_cases h4:∀x∈eG h p,x=0
  ·rw [if_pos h4,aZ (hP.2 h4)];rfl
  ·rw [if_neg h4,bM (fun q=>h4 (hP.1 q))];rfl
 ·have hP:nE h p↔((eG h p).getD 0 0=171/\(eG h p).getD 1 0=bQ h p/\(eG h p).getD 2 0=bS (bQ h p))/\(∀x∈((eG h p).drop 3).take 5,x=0)/\∀i,i < (bS (bQ h p)).toNat->1<=ld h.Bytes (p * 64+8+i * (aS (bQ h p)).toNat) 4/\ld h.Bytes (p * 64+8+i * (aS (bQ h p)).toNat) 4<=7:=by unfold nE;rw [if_neg hc]
  simp only [hc,decide_false,aQ,if_false,e0,e1,e2,aG4 hs hp (show 0 < 64 by omega),aG4 hs hp (show 1 < 64 by omega),aG4 hs hp (show 2 < 64 by omega),aE,iL]
  by_cases a0:(eG h p).getD 0 0=171
  ·by_cases a1:(eG h p).getD 1 0=bQ h p
   ·by_cases a2:(eG h p).getD 2 0=bS (bQ h p)
    ·have n0:((eG h p).getD 0 0 != 171)=false:=by simp only [bne_eq_false_iff_eq];exact a0
     have n1:((eG h p).getD 1 0 != bQ h p)=false:=by simp only [bne_eq_false_iff_eq];exact a1
     have n2:((eG h p).getD 2 0 != bS (bQ h p))=false:=by simp only [bne_eq_false_iff_eq];exact a2
     simp only [n0,n1,n2,aQ,if_false,lE,e0,e3]
     have hl5:(((eG h p).drop 3).take 5).length=5:=by simp [hl]
     have key:loop (qX h (p:Int)) (((p * 64+3:Nat)):Int)=some (if ∀x∈((eG h p).drop 3).take 5,x=0 then Out.brk () else Out.ret false):=by
      refine kT (f:=qX h (p:Int)) (((eG h p).drop 3).take 5) (fun k=>((p * 64+(3+k):Nat):Int)) (fun x=>x=0) _ _ (fun k hk hx=>?_) (fun k hk hx=>?_) ?_
      ·simp only [qX,e0,e8]
       rw [if_pos (by simp;omega),aU (by omega),UR hs hp (by omega),aM (by omega) (by omega),<-aG3 hk (by omega),hx]
       simp;omega
      ·simp only [qX,e0,e8]
       rw [if_pos (by simp;omega),aU (by omega),UR hs hp (by omega),<-aG3 hk (by omega)]
       have hx':((((eG h p).drop 3).take 5)[k] != 0)=true:=by simp only [bne_iff_ne];exact hx
       simp only [aE,hx',if_true]
      ·simp only [qX,e0,e8,hl5]
       rw [if_neg (by simp)]
     rw [key]
     by_cases h4:∀x∈((eG h p).drop 3).take 5,x=0
     ·rw [if_pos h4]
      simp only [aE,T3,T2]
      have key2:loop (qW h (p:Int) (bQ h p)) 0=some (if ∀i,i < (bS (bQ h p)).toNat->1<=ld h.Bytes (p * 64+8+i * (aS (bQ h p)).toNat) 4/\ld h.Bytes (p * 64+8+i * (aS (bQ h p)).toNat) 4<=7 then Out.brk () else Out.ret false):=by
       have hle:=mP (bQ h p)
       have hst:∀k:Nat,k < (bS (bQ h p)).toNat->qW h (p:Int) (bQ h p) (k:Int)=if 1<=ld h.Bytes (p * 64+8+k * (aS (bQ h p)).toNat) 4/\ld h.Bytes (p * 64+8+k * (aS (bQ h p)).toNat) 4<=7 then some (.next ((k+1:Nat):Int)) else some (.stop (Out.ret false)):=by
        intro k hk
        have hz:=uO hs hp rfl hk
        have s1:rT (p:Int) (k:Int)=some ((p:Int) * 4+k):=by
         unfold rT wD
         rw [b7,b7]
         have g1:(0:Int)<=p/\(p:Int)<=5:=by omega
         have g2:(0:Int)<=k/\(k:Int)<=3:=by omega
         simp only [aE,g1,g2,and_self,decide_true,dE,aQ,if_false]
         rw [aM (x:=(p:Int) * 4) (by omega) (by omega),aM (by omega) (by omega)]
        have l1:=FG hs.2.2.1 (a:=p * 64+(8+k * (aS (bQ h p)).toNat)) (w:=4) (by omega) (by omega) (by omega)
        simp only [qW,iL,aE]
        rw [if_pos (by simp;omega),s1]
        simp only [aE,uN,aXY hs hp hk]
        rw [show((4:Nat):Int)=4 from rfl] at l1
        rw [l1,YN,aM (x:=(k:Int)+1) (by omega) (by omega)]
        simp only [aE,b7]
        by_cases q:1<=ld h.Bytes (p * 64+(8+k * (aS (bQ h p)).toNat)) 4/\ld h.Bytes (p * 64+(8+k * (aS (bQ h p)).toNat)) 4<=7
        ·rw [if_pos q,aZ q];rfl
        ·rw [if_neg q,bM q];rfl
       refine wV (f:=qW h (p:Int) (bQ h p)) (bS (bQ h p)).toNat (fun k=>(k:Int)) (fun i=>1<=ld h.Bytes (p * 64+8+i * (aS (bQ h p)).toNat) 4/\ld h.Bytes (p * 64+8+i * (aS (bQ h p)).toNat) 4<=7) _ _ (fun k hk hx=>?_) (fun k hk hx=>?_) ?_
       ·rw [hst k hk,if_pos hx]
       ·rw [hst k hk,if_neg hx]
       ·simp only [qW,iL,aE]
        rw [if_neg (by simp;omega)]
      rw [key2]
      by_cases h5:∀i,i < (bS (bQ h p)).toNat->1<=ld h.Bytes (p * 64+8+i * (aS (bQ h p)).toNat) 4/\ld h.Bytes (p * 64+8+i * (aS (bQ h p)).toNat) 4<=7
      ·rw [if_pos h5,aZ (hP.2 ⟨⟨a0,a1,a2⟩,h4,h5⟩)];rfl
      ·rw [if_neg h5,bM (fun q=>h5 (hP.1 q).2.2)];rfl
     ·rw [if_neg h4,bM (fun q=>h4 (hP.1 q).2.1)];rfl
    ·have n0:((eG h p).getD 0 0 != 171)=false:=by simp only [bne_eq_false_iff_eq];exact a0
     have n1:((eG h p).getD 1 0 != bQ h p)=false:=by simp only [bne_eq_false_iff_eq];exact a1
     have n2:((eG h p).getD 2 0 != bS (bQ h p))=true:=by simp only [bne_iff_ne];exact a2
     simp only [n0,n1,n2,aQ,if_false,lE,if_true]
     rw [bM (fun q=>a2 (hP.1 q).1.2.2)]
   ·have n0:((eG h p).getD 0 0 != 171)=false:=by simp only [bne_eq_false_iff_eq];exact a0
    have n1:((eG h p).getD 1 0 != bQ h p)=true:=by simp only [bne_iff_ne];exact a1
    simp only [n0,n1,aQ,if_false,lE,if_true]
    rw [bM (fun q=>a1 (hP.1 q).1.2.1)]
  ·have n0:((eG h p).getD 0 0 != 171)=true:=by simp only [bne_iff_ne];exact a0
   simp only [n0,aQ,if_false,lE,if_true]
   rw [bM (fun q=>a0 (hP.1 q).1.1)]
end
end Go.Gv
end
noncomputable section
namespace Go.Gv
theorem UT{l:List Int}(hl:l.length<=maxLen):H6 l=some (decide (∀x∈l,x=0)):=by
 unfold H6
 have e:(fun y0=>G5 y0)=fun y:Int=>some (!decide (y=0)):=by
  funext y;simp [G5,bne];rfl
 rw [e,sT hl,HV]
 simp
noncomputable section
variable {h:aC} (hs:fW h) {p:Nat} (hp:p < 6)
include hs hp
theorem a2O:(h.Bytes.take ((p+1) * 64)).drop (p * 64)=eG h p:=by
 unfold eG
 rw [List.drop_take];congr 1;omega
theorem a1E{a:Nat}(ha:a+4<=64):ld (eG h p) a 4=ld h.Bytes (p * 64+a) 4:=by
 unfold ld eG
 rw [List.drop_take,List.take_take,List.drop_drop]
 congr 2;omega
theorem aP5{k:Nat}(hk:k < 64):idx (eG h p) (k:Int)=some ((eG h p).getD k 0):=by
 have:=LR hs hp
 rw [aU (by omega),gR,eM (by omega)];rfl
theorem UU:M1 h (p:Int)=some (decide (nE h p)):=by
 have hb:=hs.1
 have hl:=LR hs hp
 have hm:(eG h p).length<=maxLen:=by rw [hl];simp [maxLen]
 have e0:aY ((p:Int) * 64)=((p * 64:Nat):Int):=by rw [aM (by omega) (by omega)];omega
 have e1:aY (aY ((p:Int)+1) * 64)=(((p+1) * 64:Nat):Int):=by rw [aM (x:=(p:Int)+1) (by omega) (by omega),aM (by omega) (by omega)];omega
 have i0:=aP5 hs hp (show 0 < 64 by omega)
 have i1:=aP5 hs hp (show 1 < 64 by omega)
 have i2:=aP5 hs hp (show 2 < 64 by omega)
 rw [show((0:Nat):Int)=0 from rfl] at i0
 rw [show((1:Nat):Int)=1 from rfl] at i1
 rw [show((2:Nat):Int)=2 from rfl] at i2
 unfold M1
 rw [aEJ hs hp]
 simp only [aE,e0,e1,P7,a2O hs hp]
 rw [aN (by omega)]
 by_cases hc:bQ h p < 0
 ·have hP:nE h p↔∀x∈eG h p,x=0:=by unfold nE;rw [if_pos hc]
  simp only [hc,decide_true,if_true,UT hm,aE,hP]
 ·have hP:nE h p↔((eG h p).getD 0 0=171/\(eG h p).getD 1 0=bQ h p/\(eG h p).getD 2 0=bS (bQ h p))/\(∀x∈((eG h p).drop 3).take 5,x=0)/\∀i,i < (bS (bQ h p)).toNat->1<=ld h.Bytes (p * 64+8+i * (aS (bQ h p)).toNat) 4/\ld h.Bytes (p * 64+8+i * (aS (bQ h p)).toNat) 4<=7:=by unfold nE;rw [if_neg hc]
  simp only [hc,decide_false,aQ,if_false,i0,i1,i2,aE,BX]
  by_cases a0:(eG h p).getD 0 0=171
  ·by_cases a1:(eG h p).getD 1 0=bQ h p
   ·by_cases a2:(eG h p).getD 2 0=bS (bQ h p)
    ·have n0:((eG h p).getD 0 0 != 171)=false:=by simp only [bne_eq_false_iff_eq];exact a0
     have n1:((eG h p).getD 1 0 != bQ h p)=false:=by simp only [bne_eq_false_iff_eq];exact a1
     have n2:((eG h p).getD 2 0 != bS (bQ h p))=false:=by simp only [bne_eq_false_iff_eq];exact a2
     have t8:((eG h p).take (8:Int).toNat).drop (3:Int).toNat=((eG h p).drop 3).take 5:=by
      rw [show(8:Int).toNat=8 from rfl,show(3:Int).toNat=3 from rfl,List.drop_take]
     simp only [n0,n1,n2,aQ,if_false,jT,t8]
     rw [aN (by omega),UT (by simp [maxLen];omega)]
     by_cases h4:∀x∈((eG h p).drop 3).take 5,x=0
     ·simp only [aZ h4,aE,dE,aQ,if_false,BX]
      have key2:loop (qP h (p:Int) (bQ h p) (bS (bQ h p))) 0=some (if ∀i,i < (bS (bQ h p)).toNat->1<=ld h.Bytes (p * 64+8+i * (aS (bQ h p)).toNat) 4/\ld h.Bytes (p * 64+8+i * (aS (bQ h p)).toNat) 4<=7 then Out.brk () else Out.ret false):=by
       have hle:=mP (bQ h p)
       have hst:∀k:Nat,k < (bS (bQ h p)).toNat->qP h (p:Int) (bQ h p) (bS (bQ h p)) (k:Int)=if 1<=ld h.Bytes (p * 64+8+k * (aS (bQ h p)).toNat) 4/\ld h.Bytes (p * 64+8+k * (aS (bQ h p)).toNat) 4<=7 then some (.next ((k+1:Nat):Int)) else some (.stop (Out.ret false)):=by
        intro k hk
        have hz:=uO hs hp rfl hk
        have e5:aY (8+aY ((k:Int) * aS (bQ h p)))=((8+k * (aS (bQ h p)).toNat:Nat):Int):=by
         rw [aM (x:=(k:Int) * aS (bQ h p)) (by omega) (by omega),aM (by omega) (by omega)];omega
        have l1:=BY (aTL hs hp) (a:=8+k * (aS (bQ h p)).toNat) (w:=4) (by omega) (by omega) (by omega)
        rw [show((4:Nat):Int)=4 from rfl,a1E hs hp (by omega)] at l1
        simp only [qP,PU,aE,e0,e1,P7,a2O hs hp,e5]
        rw [if_pos (by simp;omega),l1,YN,aM (x:=(k:Int)+1) (by omega) (by omega)]
        simp only [aE,dX]
        by_cases q:1<=ld h.Bytes (p * 64+(8+k * (aS (bQ h p)).toNat)) 4/\ld h.Bytes (p * 64+(8+k * (aS (bQ h p)).toNat)) 4<=7
        ·rw [if_pos q,aZ q];rfl
        ·rw [if_neg q,bM q];rfl
       refine wV (f:=qP h (p:Int) (bQ h p) (bS (bQ h p))) (bS (bQ h p)).toNat (fun k=>(k:Int)) (fun i=>1<=ld h.Bytes (p * 64+8+i * (aS (bQ h p)).toNat) 4/\ld h.Bytes (p * 64+8+i * (aS (bQ h p)).toNat) 4<=7) _ _ (fun k hk hx=>?_) (fun k hk hx=>?_) ?_
       ·rw [hst k hk,if_pos hx]
       ·rw [hst k hk,if_neg hx]
       ·simp only [qP]
        rw [if_neg (by simp;omega)]
      rw [key2]
      by_cases h5:∀i,i < (bS (bQ h p)).toNat->1<=ld h.Bytes (p * 64+8+i * (aS (bQ h p)).toNat) 4/\ld h.Bytes (p * 64+8+i * (aS (bQ h p)).toNat) 4<=7
      ·rw [if_pos h5,aZ (hP.2 ⟨⟨a0,a1,a2⟩,h4,h5⟩)];rfl
      ·rw [if_neg h5,bM (fun q=>h5 (hP.1 q).2.2)];rfl
     ·simp only [bM h4,aE,iU,if_true]
      rw [bM (fun q=>h4 (hP.1 q).2.1)]
    ·have n0:((eG h p).getD 0 0 != 171)=false:=by simp only [bne_eq_false_iff_eq];exact a0
     have n1:((eG h p).getD 1 0 != bQ h p)=false:=by simp only [bne_eq_false_iff_eq];exact a1
     have n2:((eG h p).getD 2 0 != bS (bQ h p))=true:=by simp only [bne_iff_ne];exact a2
     simp only [n0,n1,n2,aQ,if_false,jT,if_true]
     rw [bM (fun q=>a2 (hP.1 q).1.2.2)]
   ·have n0:((eG h p).getD 0 0 != 171)=false:=by simp only [bne_eq_false_iff_eq];exact a0
    have n1:((eG h p).getD 1 0 != bQ h p)=true:=by simp only [bne_iff_ne];exact a1
    simp only [n0,n1,aQ,if_false,jT,if_true]
    rw [bM (fun q=>a1 (hP.1 q).1.2.1)]
  ·have n0:((eG h p).getD 0 0 != 171)=true:=by simp only [bne_iff_ne];exact a0
   simp only [n0,aQ,if_false,jT,if_true]
   rw [bM (fun q=>a0 (hP.1 q).1.1)]
end
instance (h:aC):Decidable (∀p,p < 6->nE h p):=Nat.decidableBallLT 6 fun p _=>nE h p
def W5(h:aC):Prop:=fW h/\∀p,p < 6->nE h p
instance (h:aC):Decidable (W5 h):=by unfold W5;infer_instance
theorem aG5{h:aC}(hl:h.Bytes.length<=maxLen):M8 h=some (decide (W5 h)):=by
 unfold M8
 rw [aDU hl]
 by_cases hs:fW h
 ·have key:loop (wE h) 0=some (if ∀p,p < 6->nE h p then Out.brk () else Out.ret false):=by
   refine wV (f:=wE h) 6 (fun k=>(k:Int)) (fun p=>nE h p) _ _ (fun k hk hx=>?_) (fun k hk hx=>?_) ?_
   ·simp only [wE]
    rw [if_pos (by simp;omega),US hs hk,aM (by omega) (by omega),aZ hx];rfl
   ·simp only [wE]
    rw [if_pos (by simp;omega),US hs hk,bM hx];rfl
   ·rfl
  simp only [aE,aZ hs,dE,aQ,if_false]
  rw [key]
  by_cases h4:∀p,p < 6->nE h p
  ·rw [if_pos h4,aZ (show W5 h from ⟨hs,h4⟩)];rfl
  ·rw [if_neg h4,bM (fun q:W5 h=>h4 q.2)];rfl
 ·rw [bM (fun q:W5 h=>hs q.1),bM hs];rfl
theorem LS{h:aC}(hl:h.Bytes.length<=maxLen):H7 h=some (decide (W5 h)):=by
 unfold H7
 rw [FH hl]
 by_cases hs:fW h
 ·have key:loop (vO h) 0=some (if ∀p,p < 6->nE h p then Out.brk () else Out.ret false):=by
   refine wV (f:=vO h) 6 (fun k=>(k:Int)) (fun p=>nE h p) _ _ (fun k hk hx=>?_) (fun k hk hx=>?_) ?_
   ·simp only [vO]
    rw [if_pos (by simp;omega),UU hs hk,aM (by omega) (by omega),aZ hx];rfl
   ·simp only [vO]
    rw [if_pos (by simp;omega),UU hs hk,bM hx];rfl
   ·rfl
  simp only [aE,aZ hs,dE,aQ,if_false]
  rw [key]
  by_cases h4:∀p,p < 6->nE h p
  ·rw [if_pos h4,aZ (show W5 h from ⟨hs,h4⟩)];rfl
  ·rw [if_neg h4,bM (fun q:W5 h=>h4 q.2)];rfl
 ·rw [bM (fun q:W5 h=>hs q.1),bM hs];rfl
def aW(h:aC)(s:Int):Int:=if (0<=s/\s<=23)/\s % 4 < bS (bQ h (s / 4).toNat) then bQ h (s / 4).toNat else -1
theorem qH{h:aC}{s:Int}(hc:0<=aW h s):(0<=s/\s<=23)/\s % 4 < bS (bQ h (s / 4).toNat)/\aW h s=bQ h (s / 4).toNat:=by
 unfold aW at hc ⊢
 split at hc
 ·rename_i h1;exact⟨h1.1,h1.2,by rw [if_pos h1]⟩
 ·omega
theorem i7{h:aC}(hs:fW h)(s:Int):mO h s=some (aW h s):=by
 unfold mO tL aW
 rw [UQ,SP]
 by_cases h1:0<=s/\s<=23
 ·obtain⟨k,rfl⟩:=aU1 h1.1
  have hk:k / 4 < 6:=by omega
  have e1:((k:Int) / 4)=((k / 4:Nat):Int):=by omega
  have hi:=aEJ hs hk
  have n1:¬((k / 4:Nat):Int) < 0:=by omega
  simp only [h1,and_self,if_true,aE,e1,n1,decide_false,aQ,if_false,hi,P7,true_and]
  by_cases h2:bQ h (k / 4) < 0
  ·have h3:bS (bQ h (k / 4))=0:=aLV (by omega)
   have h4:¬(k:Int) % 4 < 0:=by omega
   simp [h2,h3,h4]
  ·by_cases h3:(k:Int) % 4 < bS (bQ h (k / 4))
   ·have h4:¬bS (bQ h (k / 4))<=(k:Int) % 4:=by omega
    simp [h2,h3,h4,iL]
   ·have h4:bS (bQ h (k / 4))<=(k:Int) % 4:=by omega
    simp [h2,h3,h4,iL]
 ·simp [h1]
theorem kG{h:aC}(hs:fW h)(s:Int):mH h s=some (aW h s):=by
 unfold mH A6 aW
 rw [wX]
 by_cases h1:0<=s/\s<=23
 ·obtain⟨k,rfl⟩:=aU1 h1.1
  have hk:k / 4 < 6:=by omega
  have e1:((k:Int) / 4)=((k / 4:Nat):Int):=by omega
  have hi:=aEJ hs hk
  have e2:aY (Int.tdiv (k:Int) 4)=((k / 4:Nat):Int):=by rw [FF (by omega),aM (by omega) (by omega)];omega
  simp only [h1,and_self,decide_true,dE,aQ,if_true,aE,e1,e2,if_false,hi,P7,true_and,AW]
  by_cases h3:(k:Int) % 4 < bS (bQ h (k / 4))
  ·have hm:=LQ (c:=bQ h (k / 4)) (by omega) h3
   have hg:¬eF (k:Int) (bQ h (k / 4)) < 0:=by
    unfold eF;rw [if_pos ⟨h1,h3⟩];omega
   simp [h3,hg]
  ·have hg:eF (k:Int) (bQ h (k / 4)) < 0:=by
    unfold eF;rw [if_neg (fun q=>h3 q.2)];omega
   simp [h3,hg]
 ·simp [h1]
def iP(h:aC)(s:Int):Int:=ld h.Bytes (eF s (aW h s)).toNat 4
theorem HW{h:aC}{s:Int}(hc:0<=aW h s):0<=eF s (aW h s)/\eF s (aW h s)+4<=384:=by
 obtain⟨h1,h2,h3⟩:=qH hc
 rw [h3]
 have hm:=LQ (c:=bQ h (s / 4).toNat) (by omega) h2
 have hst:0 < aS (bQ h (s / 4).toNat):=by
  have:0<=bQ h (s / 4).toNat/\bQ h (s / 4).toNat<=2:=gK.1 (by omega)
  rcases eX this with e | e | e <;> rw [e] <;> decide
 have:4<=aS (bQ h (s / 4).toNat):=by
  have:0<=bQ h (s / 4).toNat/\bQ h (s / 4).toNat<=2:=gK.1 (by omega)
  rcases eX this with e | e | e <;> rw [e] <;> decide
 unfold eF;rw [if_pos ⟨h1,h2⟩];omega
theorem pL{h:aC}(hs:fW h){s:Int}(hc:0<=aW h s):wF h s=some (iP h s):=by
 have hg:=HW hc
 unfold wF
 rw [i7 hs]
 simp only [aE,uN]
 have l1:=FG hs.2.2.1 (a:=(eF s (aW h s)).toNat) (w:=4) (by omega) (by have:=hs.1;omega) (by have:=hs.1;omega)
 rw [show((4:Nat):Int)=4 from rfl,aSW hg.1] at l1
 rw [l1];rfl
theorem HX{h:aC}(hs:fW h){s:Int}(hc:0<=aW h s):CB h s=some (iP h s):=by
 have hg:=HW hc
 have hm:h.Bytes.length<=maxLen:=by rw [hs.1];simp [maxLen]
 unfold CB r9
 rw [FH hm,kG hs]
 have l1:=BY hs.2.2.1 (a:=(eF s (aW h s)).toNat) (w:=4) (by omega) (by have:=hs.1;omega) (by have:=hs.1;omega)
 rw [show((4:Nat):Int)=4 from rfl,aSW hg.1] at l1
 have n1:¬aW h s < 0:=by omega
 simp [hs,n1,AW,l1,iP]
end Go.Gv
end
noncomputable section
namespace Go.Gv
def cN(l:List aR):List Int:=l.flatMap aR.aT
def dJ(l:aB):List Int:=cN l.Global++cN l.Own
def LOk(l:aB):Prop:=l.Global.length=3/\l.Own.length=9/\(∀s∈l.Own,s.aT.length<=2)/\(∀x∈dJ l,0<=x/\x<=23)/\(dJ l).Nodup
instance (l:aB):Decidable (LOk l):=by unfold LOk;infer_instance
theorem PW{l:List aR}{k:Nat}(h:k < l.length):cN (l.take (k+1))=cN (l.take k)++l[k].aT:=by
 unfold cN
 rw [RQ h,List.flatMap_append];simp
theorem aLX(l:List aR)(k:Nat):(cN (l.take k)).length<=(cN l).length:=by
 have:cN l=cN (l.take k)++cN (l.drop k):=by
  unfold cN;rw [<-List.flatMap_append,TA]
 rw [this];simp
theorem UW(l:List aR){k:Nat}(h:k < l.length):l[k].aT.length<=(cN l).length:=by
 have h1:=aLX l (k+1)
 rw [PW h] at h1
 simp at h1;omega
theorem W6{l:aB}(h:(dJ l).length<=1073741824)(hg:l.Global.length<=maxLen)(ho:l.Own.length<=maxLen):K8 l=some (dJ l):=by
 have hsum:(cN l.Global).length+(cN l.Own).length<=1073741824:=by simpa [dJ] using h
 unfold K8
 have k1:loop (zX l) ([],0)=some (cN l.Global):=by
  refine fV (f:=zX l) l.Global.length (fun k=>(cN (l.Global.take k),(k:Int))) _ (fun k hk=>?_) ?_
  ·have h1:=aLX l.Global (k+1)
   rw [PW hk] at h1
   simp only [zX]
   rw [if_pos (by simp;omega),aU hk]
   simp only [aE]
   rw [aN (by simp at h1;omega),PW hk,jS (qJ hk hg)]
  ·simp [zX]
 rw [k1]
 simp only [aE,WK,WJ]
 have k2:loop (zW l) (cN l.Global,0)=some (dJ l):=by
  have:=fV (f:=zW l) l.Own.length (fun k=>(cN l.Global++cN (l.Own.take k),(k:Int))) (dJ l) (fun k hk=>?_) ?_
  ·simpa [cN] using this
  ·have h1:=aLX l.Own (k+1)
   rw [PW hk] at h1
   simp only [zW]
   rw [if_pos (by simp;omega),aU hk]
   simp only [aE]
   rw [aN (by simp at h1 ⊢;omega),PW hk,jS (qJ hk ho),jM]
  ·simp [zW,dJ]
 rw [k2];rfl
theorem OH{l:List Int}(hl:l.length<=maxLen)(x:Int):GH l x=some (decide (x∈l)):=by
 unfold GH
 have key:loop (uK l x) 0=some (if ∀y∈l,y≠x then Out.brk () else Out.ret true):=by
  refine kT (f:=uK l x) l (fun k=>(k:Int)) (fun y=>y≠x) _ _ (fun k h hp=>?_) (fun k h hp=>?_) ?_
  ·simp only [uK]
   rw [if_pos (by simp;omega),aU h,jS (qJ h hl)]
   have:(l[k] == x)=false:=by simpa using hp
   simp only [aE,this,aQ,if_false]
  ·simp only [uK]
   rw [if_pos (by simp;omega),aU h]
   have:(l[k] == x)=true:=by simpa using hp
   simp only [aE,this,if_true]
  ·simp [uK]
 rw [key]
 by_cases h:x∈l
 ·rw [if_neg (fun q=>q x h rfl),aZ h];rfl
 ·rw [if_pos (fun y hy (e:y=x)=>h (e ▸ hy)),bM h];rfl
theorem RE(l:List Int):l.Nodup↔∀k (h:k < l.length),l[k]∉l.take k:=by
 unfold List.Nodup
 rw [List.pairwise_iff_getElem]
 constructor
 ·intro h k hk hm
  obtain⟨i,hi,he⟩:=List.mem_take_iff_getElem.1 hm
  exact h i k (by omega) hk (by omega) he
 ·intro h i j hi hj hij he
  exact h j hj (List.mem_take_iff_getElem.2 ⟨i,by omega,he⟩)
theorem aDV{l:aB}(h:(dJ l).length<=1073741824):KC l=some (decide (LOk l)):=by
 unfold KC BO
 by_cases hg:l.Global.length=3
 ·by_cases ho:l.Own.length=9
  ·have n1:((l.Global.length:Int) != 3)=false:=by simp;omega
   have n2:((l.Own.length:Int) != 9)=false:=by simp;omega
   simp only [n1,n2,aQ,if_false]
   have k1:loop (nW l) 0=some (if ∀s∈l.Own,s.aT.length<=2 then Out.brk () else Out.ret false):=by
    refine kT (f:=nW l) l.Own (fun k=>(k:Int)) (fun s=>s.aT.length<=2) _ _ (fun k hk hp=>?_) (fun k hk hp=>?_) ?_
    ·simp only [nW]
     rw [if_pos (by simp;omega),aU hk,aM (by omega) (by omega)]
     simp only [aE]
     rw [if_neg (by simp;omega)];rfl
    ·simp only [nW]
     rw [if_pos (by simp;omega),aU hk]
     simp only [aE]
     rw [if_pos (by simp;omega)]
    ·simp [nW]
   rw [k1]
   by_cases h2:∀s∈l.Own,s.aT.length<=2
   ·rw [if_pos h2]
    simp only [aE,R8,R7]
    rw [W6 h (by rw [hg];simp [maxLen]) (by rw [ho];simp [maxLen])]
    simp only [aE]
    have k2:loop (nV (dJ l)) 0=some (if ∀k,k < (dJ l).length->(0<=(dJ l).getD k 0/\(dJ l).getD k 0<=23)/\(dJ l).getD k 0∉(dJ l).take k then Out.brk () else Out.ret false):=by
     have hst:∀k,k < (dJ l).length->nV (dJ l) (k:Int)=if (0<=(dJ l).getD k 0/\(dJ l).getD k 0<=23)/\(dJ l).getD k 0∉(dJ l).take k then some (.next ((k+1:Nat):Int)) else some (.stop (Out.ret false)):=by
      intro k hk
      have e:(dJ l).getD k 0=(dJ l)[k]:=by rw [gR,eM hk];rfl
      rw [e]
      simp only [nV]
      rw [if_pos (by simp;omega),aU hk]
      simp only [aE,b7,BN]
      by_cases q:0<=(dJ l)[k]/\(dJ l)[k]<=23
      ·rw [aZ q]
       simp only [dE,aQ,if_false,P7,FW]
       rw [aN (by omega),OH (by simp [maxLen];omega),aM (by omega) (by omega)]
       by_cases q2:(dJ l)[k]∈(dJ l).take k
       ·rw [if_neg (fun x=>x.2 q2),aZ q2];rfl
       ·rw [if_pos ⟨q,q2⟩,bM q2];rfl
      ·rw [bM q];simp only [iU,if_true];rw [if_neg (fun x=>q x.1)]
     refine wV (f:=nV (dJ l)) (dJ l).length (fun k=>(k:Int)) (fun k=>(0<=(dJ l).getD k 0/\(dJ l).getD k 0<=23)/\(dJ l).getD k 0∉(dJ l).take k) _ _ (fun k hk hx=>?_) (fun k hk hx=>?_) ?_
     ·rw [hst k hk,if_pos hx]
     ·rw [hst k hk,if_neg hx]
     ·simp [nV]
    rw [k2]
    have hiff:LOk l↔∀k,k < (dJ l).length->(0<=(dJ l).getD k 0/\(dJ l).getD k 0<=23)/\(dJ l).getD k 0∉(dJ l).take k:=by
     have e:∀k (hk:k < (dJ l).length),(dJ l).getD k 0=(dJ l)[k]:=fun k hk=>by rw [gR,eM hk];rfl
     constructor
     ·rintro⟨_,_,_,q1,q2⟩ k hk
      rw [e k hk]
      exact⟨q1 _ (eN hk),(RE _).1 q2 k hk⟩
     ·intro q
      refine⟨hg,ho,h2,fun x hx=>?_,(RE _).2 fun k hk=>?_⟩
      ·obtain⟨k,hk,rfl⟩:=RP.1 hx
       have:=(q k hk).1;rw [e k hk] at this;exact this
      ·have:=(q k hk).2;rw [e k hk] at this;exact this
    by_cases q:LOk l
    ·rw [if_pos (hiff.1 q),aZ q];rfl
    ·rw [if_neg (fun x=>q (hiff.2 x)),bM q];rfl
   ·rw [if_neg h2,bM (fun q:LOk l=>h2 q.2.2.1)];rfl
  ·have n1:((l.Global.length:Int) != 3)=false:=by simp;omega
   have n2:((l.Own.length:Int) != 9)=true:=by simp;omega
   simp only [n1,n2,aQ,if_false,if_true]
   rw [bM (fun q:LOk l=>ho q.2.1)]
 ·have n1:((l.Global.length:Int) != 3)=true:=by simp;omega
  simp only [n1,if_true]
  rw [bM (fun q:LOk l=>hg q.1)]
def AX:List Bool->List Int->Option (List Bool)
 | met,[]=>some met
 | met,x :: r=>if (0<=x/\x<=23)/\met.getD x.toNat true=false then AX (met.set x.toNat true) r else none
theorem aJ3:∀{xs:List Int} {met m:List Bool},AX met xs=some m->m.length=met.length
 | [],met,m,h=>by simp [AX] at h;rw [h]
 | x :: r, met, m, h => by
  simp only [AX] at h
  split at h
  ·have:=aJ3 h;simpa using this
  ·cases h
theorem ZV:∀(a b:List Int) (met:List Bool),AX met (a++b)=(AX met a).bind fun m=>AX m b
 | [],b,met=>rfl
 | x :: r, b, met => by
  simp only [OS,AX]
  split
  ·exact ZV r b _
  ·rfl
theorem X5:∀(xs:List Int) (met:List Bool),met.length=24->((AX met xs).isSome=true↔(∀x∈xs,0<=x/\x<=23)/\xs.Nodup/\∀x∈xs,met.getD x.toNat true=false)
 | [],met,hm=>by simp [AX]
 | x :: r, met, hm => by
  simp only [AX]
  by_cases h:(0<=x/\x<=23)/\met.getD x.toNat true=false
  ·rw [if_pos h,X5 r _ (by simpa using hm)]
   have hset:∀y,0<=y/\y<=23->(((met.set x.toNat true).getD y.toNat true=false)↔(y≠x/\met.getD y.toNat true=false)):=by
    intro y hy
    rw [gR,gR]
    by_cases e:y=x
    ·subst e;rw [YI (by omega)];simp
    ·rw [YH (by omega)];simp [e]
   constructor
   ·rintro⟨q1,q2,q3⟩
    refine⟨fun y hy=>?_,WA.2 ⟨fun hx=>?_,q2⟩,fun y hy=>?_⟩
    ·rcases fA.1 hy with rfl | hy
     ·exact h.1
     ·exact q1 y hy
    ·exact((hset x h.1).1 (q3 x hx)).1 rfl
    ·rcases fA.1 hy with rfl | hy
     ·exact h.2
     ·exact((hset y (q1 y hy)).1 (q3 y hy)).2
   ·rintro⟨q1,q2,q3⟩
    have q2:=WA.1 q2
    refine⟨fun y hy=>q1 y (j9 _ hy),q2.2,fun y hy=>(hset y (q1 y (j9 _ hy))).2 ⟨fun e=>q2.1 (e ▸ hy),q3 y (j9 _ hy)⟩⟩
  ·rw [if_neg h]
   constructor
   ·intro q;cases q
   ·rintro⟨q1,q2,q3⟩
    exact(h ⟨q1 x MM,q3 x MM⟩).elim
def aLY:Option (List Bool)->Out (List Bool) Bool
 | some m=>.brk m
 | none=>.ret false
theorem a6J{s:aR}(hl:s.aT.length<=maxLen):∀d k (met:List Bool),k+d=s.aT.length->met.length=24->loop (lU s) ((k:Int),met)=some (aLY (AX met (s.aT.drop k))):=by
 intro d
 induction d with
 | zero =>
  intro k met hk hm
  rw [bL (r:=Out.brk met) (by simp [lU];omega),List.drop_eq_nil_of_le (by omega)];rfl
 | succ d ih =>
  intro k met hk hm
  have hk':k < s.aT.length:=by omega
  have hd:s.aT.drop k=s.aT[k] :: s.aT.drop (k+1):=y6 hk'
  have hst:lU s ((k:Int),met)=if (0<=s.aT[k]/\s.aT[k]<=23)/\met.getD s.aT[k].toNat true=false then some (.next (((k+1:Nat):Int),met.set s.aT[k].toNat true)) else some (.stop (Out.ret false)):=by
   simp only [lU]
   rw [if_pos (by simp;omega),aU hk']
   simp only [aE,wX]
   generalize s.aT[k]=x
   by_cases q:0<=x/\x<=23
   ·obtain⟨j,rfl⟩:=aU1 q.1
    have hj:j < met.length:=by omega
    have e:met.getD j true=met[j]:=by rw [gR,eM hj];rfl
    simp only [q,and_self,decide_true,dE,aQ,if_false,nR,P7,true_and,e]
    rw [aN (by omega),aU hj]
    simp only [aE]
    cases met[j]
    ·simp only [aQ,if_false,if_true]
     rw [aN (by omega),jS (qJ hk' hl)]
    ·simp
   ·rw [bM q];simp only [iU,if_true,nR];rw [if_neg (fun x=>q x.1)]
  rw [hd,AX]
  by_cases q:(0<=s.aT[k]/\s.aT[k]<=23)/\met.getD s.aT[k].toNat true=false
  ·rw [if_pos q] at hst ⊢
   rw [bP hst,ih (k+1) _ (by omega) (by simpa using hm)]
  ·rw [if_neg q] at hst ⊢
   rw [bL hst];rfl
def aBZ(l:List aR):Prop:=∀s∈l,s.aT.length<=2
instance (l:List aR):Decidable (aBZ l):=by unfold aBZ;infer_instance
theorem a6K{l:aB}(ho:l.Own.length=9)(hn:(l.Own++l.Global).length<=1000)(hs:∀s∈l.Own++l.Global,s.aT.length<=maxLen):∀d k (met:List Bool),k+d=(l.Own++l.Global).length->met.length=24 ->
  loop (lW l) ((k:Int),met)=some (if aBZ (((l.Own++l.Global).drop k).take (9 - k))/\(AX met (cN ((l.Own++l.Global).drop k))).isSome=true then Out.brk () else Out.ret false):=by
 intro d
 induction d with
 | zero =>
  intro k met hk hm
  rw [List.drop_eq_nil_of_le (by omega),if_pos ⟨by simp [aBZ],rfl⟩]
  refine bL ?_
  simp only [lW]
  rw [if_neg (by simp;simp at hk;omega)]
 | succ d ih =>
  intro k met hk hm
  have hk':k < (l.Own++l.Global).length:=by omega
  have hd:(l.Own++l.Global).drop k=(l.Own++l.Global)[k] :: (l.Own++l.Global).drop (k+1):=y6 hk'
  have hsk:=hs _ (eN hk')
  have hf:cN ((l.Own++l.Global).drop k)=(l.Own++l.Global)[k].aT++cN ((l.Own++l.Global).drop (k+1)):=by unfold cN;rw [hd,List.flatMap_cons]
  have hin:∀b:Bool,lV (k:Int) met (l.Own++l.Global)[k] b=if b then some (.stop (Out.ret false)) else (match AX met (l.Own++l.Global)[k].aT with | some m=>some (.next (((k+1:Nat):Int),m)) | none=>some (.stop (Out.ret false))):=by
   intro b
   have h4:=a6J hsk _ 0 met (FZ _) hm
   rw [show((0:Nat):Int)=0 from rfl,FW] at h4
   unfold lV
   rw [h4]
   cases b
   ·simp only [aQ,if_false,aE]
    cases AX met (l.Own++l.Global)[k].aT with
    | none=>rfl
    | some m=>simp only [aLY,RX,A5];rw [aM (by omega) (by omega)];rfl
   ·rfl
  have hst:lW l ((k:Int),met)=lV (k:Int) met (l.Own++l.Global)[k] (decide (k < 9/\2 < (l.Own++l.Global)[k].aT.length)):=by
   simp only [lW]
   rw [if_pos (by simp;simp at hk';omega),aU hk']
   simp only [aE]
   by_cases h9:k < 9
   ·rw [if_pos (by simp;omega)]
    congr 1
    rw [OR];simp only [decide_eq_true_eq];omega
   ·rw [if_neg (by simp;omega),bM (by omega)]
  rw [hin] at hst
  by_cases h2:k < 9/\2 < (l.Own++l.Global)[k].aT.length
  ·rw [aZ h2] at hst
   simp only [if_true] at hst
   rw [bL hst,if_neg]
   rintro⟨q,_⟩
   have e:9 - k=(9 - (k+1))+1:=by omega
   rw [hd,e,List.take_succ_cons] at q
   have:=q _ MM
   omega
  ·rw [bM h2] at hst
   simp only [aQ,if_false] at hst
   have hcond:aBZ (((l.Own++l.Global).drop k).take (9 - k))↔aBZ (((l.Own++l.Global).drop (k+1)).take (9 - (k+1))):=by
    unfold aBZ
    by_cases h9:k < 9
    ·have e:9 - k=(9 - (k+1))+1:=by omega
     rw [hd,e,List.take_succ_cons,List.forall_mem_cons]
     exact⟨fun q=>q.2,fun q=>⟨by omega,q⟩⟩
    ·have e:9 - k=0:=by omega
     have e':9 - (k+1)=0:=by omega
     rw [e,e'];simp
   rw [hf,ZV]
   cases hg:AX met (l.Own++l.Global)[k].aT with
   | none =>
    rw [hg] at hst
    rw [bL hst,if_neg (by simp)]
   | some m =>
    rw [hg] at hst
    rw [bP hst,ih (k+1) m (by omega) (by rw [aJ3 hg];exact hm)]
    simp only [aE,hcond]
theorem SQ{l:aB}(h:(dJ l).length<=1073741824):kY l=some (decide (LOk l)):=by
 unfold kY tB
 by_cases hg:l.Global.length=3
 ·by_cases ho:l.Own.length=9
  ·have n1:((l.Global.length:Int) != 3)=false:=by simp;omega
   have n2:((l.Own.length:Int) != 9)=false:=by simp;omega
   simp only [n1,n2,aQ,if_false]
   rw [aN (by omega)]
   have hsl:∀s∈l.Own++l.Global,s.aT.length<=maxLen:=by
    intro s hm
    have hsum:(cN l.Global).length+(cN l.Own).length<=1073741824:=by simpa [dJ] using h
    have hb:(1073741824:Nat)<=maxLen:=by simp [maxLen]
    rcases e9.1 hm with hm | hm
    ·obtain⟨k,hk,rfl⟩:=RP.1 hm
     have:=UW l.Own hk;omega
    ·obtain⟨k,hk,rfl⟩:=RP.1 hm
     have:=UW l.Global hk;omega
   have key:=a6K ho (by simp;omega) hsl (l.Own++l.Global).length 0 [false,false,false,false,false,false,false,false,false,false,false,false,false,false,false,false,false,false,false,false,false,false,false,false] (by omega) rfl
   rw [show((0:Nat):Int)=0 from rfl,FW,Nat.sub_zero] at key
   rw [key]
   have et:(l.Own++l.Global).take 9=l.Own:=by rw [<-ho];simp
   have ef:cN (l.Own++l.Global)=cN l.Own++cN l.Global:=by simp [cN]
   have hm0:∀j:Nat,j < 24->[false,false,false,false,false,false,false,false,false,false,false,false,false,false,false,false,false,false,false,false,false,false,false,false].getD j true=false:=by decide
   have hiff:LOk l↔aBZ ((l.Own++l.Global).take 9)/\(AX [false,false,false,false,false,false,false,false,false,false,false,false,false,false,false,false,false,false,false,false,false,false,false,false] (cN (l.Own++l.Global))).isSome=true:=by
    rw [X5 _ _ rfl,et,ef]
    have hp:(cN l.Own++cN l.Global).Perm (dJ l):=List.perm_append_comm
    constructor
    ·rintro⟨_,_,q1,q2,q3⟩
     exact⟨q1,fun x hx=>q2 x (hp.mem_iff.1 hx),hp.nodup_iff.2 q3,fun x hx=>hm0 _ (by have:=q2 x (hp.mem_iff.1 hx);omega)⟩
    ·rintro⟨q1,q2,q3,_⟩
     exact⟨hg,ho,q1,fun x hx=>q2 x (hp.mem_iff.2 hx),hp.nodup_iff.1 q3⟩
   by_cases q:LOk l
   ·rw [if_pos (hiff.1 q),aZ q];rfl
   ·rw [if_neg (fun x=>q (hiff.2 x)),bM q];rfl
  ·have n1:((l.Global.length:Int) != 3)=false:=by simp;omega
   have n2:((l.Own.length:Int) != 9)=true:=by simp;omega
   simp only [n1,n2,aQ,if_false,if_true]
   rw [bM (fun q:LOk l=>ho q.2.1)]
 ·have n1:((l.Global.length:Int) != 3)=true:=by simp;omega
  simp only [n1,if_true]
  rw [bM (fun q:LOk l=>hg q.1)]
end Go.Gv
end
noncomputable section
namespace Go.Gv
def FI(h:aC)(l:List Int)(c:Int):Prop:=∀x∈l,aW h x=c/\iP h x<=6
instance (h:aC) (l:List Int) (c:Int):Decidable (FI h l c):=by unfold FI;infer_instance
theorem PX{h:aC}(hs:fW h){l:List Int}(hl:l.length<=maxLen){c:Int}(hc:0<=c):zY h l c=some (decide (FI h l c)):=by
 unfold zY
 have key:loop (mZ h l c) 0=some (if ∀x∈l,aW h x=c/\iP h x<=6 then Out.brk () else Out.ret false):=by
  have hst:∀k (hk:k < l.length),mZ h l c (k:Int)=if aW h l[k]=c/\iP h l[k]<=6 then some (.next ((k+1:Nat):Int)) else some (.stop (Out.ret false)):=by
   intro k hk
   simp only [mZ]
   rw [if_pos (by simp;omega),aU hk]
   generalize l[k]=x
   simp only [aE,i7 hs,xS]
   by_cases q:aW h x=c
   ·have n1:(aW h x != c)=false:=by simp only [bne_eq_false_iff_eq];exact q
    simp only [n1,aQ,if_false,pL hs (show 0<=aW h x by omega),aE,jS (qJ hk hl)]
    by_cases q2:iP h x<=6
    ·rw [if_neg (by simp;omega),if_pos ⟨q,q2⟩]
    ·rw [if_pos (by simp;omega),if_neg (fun x=>q2 x.2)]
   ·have n1:(aW h x != c)=true:=by simp only [bne_iff_ne];exact q
    simp only [n1,if_true]
    rw [if_neg (fun x=>q x.1)]
  refine kT (f:=mZ h l c) l (fun k=>(k:Int)) (fun x=>aW h x=c/\iP h x<=6) _ _ (fun k hk hp=>?_) (fun k hk hp=>?_) ?_
  ·rw [hst k hk,if_pos hp]
  ·rw [hst k hk,if_neg hp]
  ·simp [mZ]
 rw [key]
 by_cases q:∀x∈l,aW h x=c/\iP h x<=6
 ·rw [if_pos q,aZ (show FI h l c from q)];rfl
 ·rw [if_neg q,bM (show ¬FI h l c from q)];rfl
theorem PY{h:aC}(hs:fW h){s:aR}(hl:s.aT.length<=maxLen){c:Int}(hc:0<=c):zG h s c=some (decide (FI h s.aT c)):=by
 unfold zG
 have key:loop (mW h s c) 0=some (if ∀x∈s.aT,aW h x=c/\iP h x<=6 then Out.brk () else Out.ret false):=by
  have hst:∀k (hk:k < s.aT.length),mW h s c (k:Int)=if aW h s.aT[k]=c/\iP h s.aT[k]<=6 then some (.next ((k+1:Nat):Int)) else some (.stop (Out.ret false)):=by
   intro k hk
   simp only [mW]
   rw [if_pos (by simp;omega),aU hk]
   generalize s.aT[k]=x
   simp only [aE,kG hs,xF]
   by_cases q:aW h x=c
   ·have n1:(aW h x != c)=false:=by simp only [bne_eq_false_iff_eq];exact q
    simp only [n1,aQ,if_false,HX hs (show 0<=aW h x by omega),aE,jS (qJ hk hl)]
    by_cases q2:iP h x<=6
    ·rw [if_neg (by simp;omega),if_pos ⟨q,q2⟩]
    ·rw [if_pos (by simp;omega),if_neg (fun x=>q2 x.2)]
   ·have n1:(aW h x != c)=true:=by simp only [bne_iff_ne];exact q
    simp only [n1,if_true]
    rw [if_neg (fun x=>q x.1)]
  refine kT (f:=mW h s c) s.aT (fun k=>(k:Int)) (fun x=>aW h x=c/\iP h x<=6) _ _ (fun k hk hp=>?_) (fun k hk hp=>?_) ?_
  ·rw [hst k hk,if_pos hp]
  ·rw [hst k hk,if_neg hp]
  ·simp [mW]
 rw [key]
 by_cases q:∀x∈s.aT,aW h x=c/\iP h x<=6
 ·rw [if_pos q,aZ (show FI h s.aT c from q)];rfl
 ·rw [if_neg q,bM (show ¬FI h s.aT c from q)];rfl
def dS(l:List aR)(k:Nat):List Int:=(l.getD k ⟨[]⟩).aT
theorem dK{l:List aR}{k:Nat}(h:k < l.length):l[k].aT=dS l k:=by
 unfold dS;rw [gR,eM h];rfl
def MG(m:Mem)(k:Nat):Prop:=FI m.aC (dS m.aB.Global k) (k:Int)
def FJ(m:Mem)(k:Nat):Prop:=FI m.aC (dS m.aB.Own k) ((k % 3:Nat):Int)
instance (m:Mem) (k:Nat):Decidable (MG m k):=by unfold MG;infer_instance
instance (m:Mem) (k:Nat):Decidable (FJ m k):=by unfold FJ;infer_instance
instance (m:Mem):Decidable (∀k,k < 3->MG m k):=Nat.decidableBallLT 3 fun k _=>MG m k
instance (m:Mem):Decidable (∀k,k < 9->FJ m k):=Nat.decidableBallLT 9 fun k _=>FJ m k
instance (m:Mem) (c:Nat):Decidable (∀w,w < 3->FJ m (w * 3+c)):=Nat.decidableBallLT 3 fun w _=>FJ m (w * 3+c)
instance (m:Mem):Decidable (∀k,k < 3->MG m k/\∀w,w < 3->FJ m (w * 3+k)):=Nat.decidableBallLT 3 fun k _=>MG m k/\∀w,w < 3->FJ m (w * 3+k)
def nF(m:Mem):Prop:=(W5 m.aC/\LOk m.aB)/\(∀k,k < 3->MG m k)/\∀k,k < 9->FJ m k
instance (m:Mem):Decidable (nF m):=by unfold nF;infer_instance
theorem LOk.aB0{l:aB}(h:LOk l)(hb:(dJ l).length<=1073741824):(∀s∈l.Global,s.aT.length<=1073741824)/\∀s∈l.Own,s.aT.length<=1073741824:=by
 have hsum:(cN l.Global).length+(cN l.Own).length<=1073741824:=by simpa [dJ] using hb
 constructor
 ·intro s hm
  obtain⟨k,hk,rfl⟩:=RP.1 hm
  have:=UW l.Global hk;omega
 ·intro s hm
  obtain⟨k,hk,rfl⟩:=RP.1 hm
  have:=UW l.Own hk;omega
theorem aSI{m:Mem}:(∀k,k < 3->MG m k/\∀w,w < 3->FJ m (w * 3+k))↔(∀k,k < 3->MG m k)/\∀k,k < 9->FJ m k:=by
 constructor
 ·intro h
  refine⟨fun k hk=>(h k hk).1,fun k hk=>?_⟩
  have:=(h (k % 3) (by omega)).2 (k / 3) (by omega)
  have e:k / 3 * 3+k % 3=k:=by omega
  rwa [e] at this
 ·rintro⟨h1,h2⟩ k hk
  exact⟨h1 k hk,fun w hw=>h2 _ (by omega)⟩
theorem OI{m:Mem}(hb:m.aC.Bytes.length<=maxLen)(hl:(dJ m.aB).length<=1073741824):K9 m=some (decide (nF m)):=by
 unfold K9 HK
 rw [aG5 hb,aDV hl]
 by_cases h1:W5 m.aC
 ·by_cases h2:LOk m.aB
  ·have hmx:(1073741824:Nat)<=maxLen:=by simp [maxLen]
   have hsl:=LOk.aB0 h2 hl
   simp only [aZ h1,aZ h2,aE,dE,aQ,if_false]
   have k3:∀c:Nat,c < 3->loop (z6 m (c:Int)) 0=some (if ∀w,w < 3->FJ m (w * 3+c) then Out.brk () else Out.ret false):=by
    intro c hc
    have hst:∀w:Nat,w < 3->z6 m (c:Int) (w:Int)=if FJ m (w * 3+c) then some (.next ((w+1:Nat):Int)) else some (.stop (Out.ret false)):=by
     intro w hw
     have hk:w * 3+c < m.aB.Own.length:=by rw [h2.2.1];omega
     have e:wG (w:Int) (c:Int)=some ((w * 3+c:Nat):Int):=by
      unfold wG zZ
      rw [b7,b7,aZ (by omega),aZ (by omega)]
      simp only [aE,dE,aQ,if_false]
      rw [aM (x:=(w:Int) * 3) (by omega) (by omega),aM (by omega) (by omega)];rfl
     have hlen:=hsl.2 _ (eN hk)
     simp only [z6]
     rw [if_pos (by simp;omega),e]
     simp only [aE,aU hk]
     rw [PX h1.1 (by omega) (by omega),dK hk]
     have em:(w * 3+c) % 3=c:=by omega
     have ho:FJ m (w * 3+c)↔FI m.aC (dS m.aB.Own (w * 3+c)) (c:Int):=by unfold FJ;rw [em]
     rw [aM (by omega) (by omega)]
     by_cases q:FJ m (w * 3+c)
     ·rw [if_pos q,aZ (ho.1 q)];rfl
     ·rw [if_neg q,bM (fun x=>q (ho.2 x))];rfl
    refine wV (f:=z6 m (c:Int)) 3 (fun k=>(k:Int)) (fun w=>FJ m (w * 3+c)) _ _ (fun k hk hx=>?_) (fun k hk hx=>?_) ?_
    ·rw [hst k hk,if_pos hx]
    ·rw [hst k hk,if_neg hx]
    ·rfl
   have k2:loop (z7 m) 0=some (if ∀k,k < 3->MG m k/\∀w,w < 3->FJ m (w * 3+k) then Out.brk () else Out.ret false):=by
    have hst:∀c:Nat,c < 3->z7 m (c:Int)=if MG m c/\∀w,w < 3->FJ m (w * 3+c) then some (.next ((c+1:Nat):Int)) else some (.stop (Out.ret false)):=by
     intro c hc
     have hk:c < m.aB.Global.length:=by rw [h2.1];omega
     have hlen:=hsl.1 _ (eN hk)
     simp only [z7]
     rw [if_pos (by simp;omega)]
     simp only [aE,aU hk]
     rw [PX h1.1 (by omega) (by omega),dK hk,k3 c hc]
     by_cases q:MG m c
     ·have q':FI m.aC (dS m.aB.Global c) (c:Int):=q
      rw [aZ q']
      simp only [aE,dE,aQ,if_false]
      by_cases q2:∀w,w < 3->FJ m (w * 3+c)
      ·rw [if_pos q2,if_pos ⟨q,q2⟩]
       simp only [WM,WL]
       rw [aM (by omega) (by omega)];rfl
      ·rw [if_neg q2,if_neg (fun x=>q2 x.2)];rfl
     ·have q':¬FI m.aC (dS m.aB.Global c) (c:Int):=q
      rw [bM q',if_neg (fun x:MG m c/\_=>q x.1)];rfl
    refine wV (f:=z7 m) 3 (fun k=>(k:Int)) (fun k=>MG m k/\∀w,w < 3->FJ m (w * 3+k)) _ _ (fun k hk hx=>?_) (fun k hk hx=>?_) ?_
    ·rw [hst k hk,if_pos hx]
    ·rw [hst k hk,if_neg hx]
    ·rfl
   rw [k2]
   by_cases q:∀k,k < 3->MG m k/\∀w,w < 3->FJ m (w * 3+k)
   ·rw [if_pos q,aZ (show nF m from ⟨⟨h1,h2⟩,aSI.1 q⟩)];rfl
   ·rw [if_neg q,bM (fun x:nF m=>q (aSI.2 x.2))];rfl
  ·rw [bM (fun q:nF m=>h2 q.1.2),aZ h1,bM h2];rfl
 ·rw [bM (fun q:nF m=>h1 q.1.1),bM h1];rfl
theorem W7{m:Mem}(hb:m.aC.Bytes.length<=maxLen)(hl:(dJ m.aB).length<=1073741824):K4 m=some (decide (nF m)):=by
 unfold K4 G6
 rw [LS hb,SQ hl]
 by_cases h1:W5 m.aC
 ·by_cases h2:LOk m.aB
  ·have hmx:(1073741824:Nat)<=maxLen:=by simp [maxLen]
   have hsl:=LOk.aB0 h2 hl
   simp only [aZ h1,aZ h2,aE,dE,aQ,if_false]
   have k3:loop (uI m) 0=some (if ∀k,k < 9->FJ m k then Out.brk () else Out.ret false):=by
    have hst:∀w:Nat,w < 9->uI m (w:Int)=if FJ m w then some (.next ((w+1:Nat):Int)) else some (.stop (Out.ret false)):=by
     intro w hw
     have hk:w < m.aB.Own.length:=by rw [h2.2.1];omega
     have hlen:=hsl.2 _ (eN hk)
     have em:Int.tmod (w:Int) 3=((w % 3:Nat):Int):=by rw [wW (by omega)];omega
     simp only [uI]
     rw [if_pos (by simp;omega)]
     simp only [aE,aU hk,em]
     rw [PY h1.1 (by omega) (by omega),dK hk,aM (by omega) (by omega)]
     by_cases q:FJ m w
     ·rw [if_pos q,aZ (show FI m.aC (dS m.aB.Own w) ((w % 3:Nat):Int) from q)];rfl
     ·rw [if_neg q,bM (show ¬FI m.aC (dS m.aB.Own w) ((w % 3:Nat):Int) from q)];rfl
    refine wV (f:=uI m) 9 (fun k=>(k:Int)) (fun w=>FJ m w) _ _ (fun k hk hx=>?_) (fun k hk hx=>?_) ?_
    ·rw [hst k hk,if_pos hx]
    ·rw [hst k hk,if_neg hx]
    ·simp [uI,h2.2.1]
   have k2:loop (uJ m) 0=some (if ∀k,k < 3->MG m k then Out.brk () else Out.ret false):=by
    have hst:∀w:Nat,w < 3->uJ m (w:Int)=if MG m w then some (.next ((w+1:Nat):Int)) else some (.stop (Out.ret false)):=by
     intro w hw
     have hk:w < m.aB.Global.length:=by rw [h2.1];omega
     have hlen:=hsl.1 _ (eN hk)
     simp only [uJ]
     rw [if_pos (by simp;omega)]
     simp only [aE,aU hk]
     rw [PY h1.1 (by omega) (by omega),dK hk,aM (by omega) (by omega)]
     by_cases q:MG m w
     ·rw [if_pos q,aZ (show FI m.aC (dS m.aB.Global w) (w:Int) from q)];rfl
     ·rw [if_neg q,bM (show ¬FI m.aC (dS m.aB.Global w) (w:Int) from q)];rfl
    refine wV (f:=uJ m) 3 (fun k=>(k:Int)) (fun w=>MG m w) _ _ (fun k hk hx=>?_) (fun k hk hx=>?_) ?_
    ·rw [hst k hk,if_pos hx]
    ·rw [hst k hk,if_neg hx]
    ·simp [uJ,h2.1]
   rw [k2]
   by_cases q:∀k,k < 3->MG m k
   ·rw [if_pos q]
    simp only [aE,WG,WE]
    rw [k3]
    by_cases q2:∀k,k < 9->FJ m k
    ·rw [if_pos q2,aZ (show nF m from ⟨⟨h1,h2⟩,q,q2⟩)];rfl
    ·rw [if_neg q2,bM (fun x:nF m=>q2 x.2.2)];rfl
   ·rw [if_neg q,bM (fun x:nF m=>q x.2.1)];rfl
  ·rw [bM (fun q:nF m=>h2 q.1.2),aZ h1,bM h2];rfl
 ·rw [bM (fun q:nF m=>h1 q.1.1),bM h1];rfl
end Go.Gv
end
noncomputable section
namespace Go.Gv
theorem IM{l:List aR}{s:aR}(h:s∈l):s.aT.length<=(cN l).length:=by
 obtain⟨k,hk,rfl⟩:=RP.1 h
 exact UW l hk
theorem rJ(l:aB):(dJ l).length=(cN l.Global).length+(cN l.Own).length:=by simp [dJ]
def yZ(m:Mem):Prop:=m.aC.Bytes.length<=1048576/\m.aC.Class.length<=1048576/\m.aB.Global.length<=1048576/\m.aB.Own.length<=1048576/\(dJ m.aB).length<=1048576
theorem yZ.aB0{m:Mem}(h:yZ m):(∀s∈m.aB.Global,s.aT.length<=1048576)/\∀s∈m.aB.Own,s.aT.length<=1048576:=by
 have:=rJ m.aB
 have h5:=h.2.2.2.2
 exact⟨fun s hm=>by have:=IM hm;omega,fun s hm=>by have:=IM hm;omega⟩
end Go.Gv
end
noncomputable section
namespace Go.Gv
def POk(e:Int)(p:pQ):Prop:=(0<=p.aJ/\p.aJ<=e)/\(0<=p.Seen/\p.Seen<=2)/\(p.On=false->p=⟨false,0,false,0⟩)
instance (e:Int) (p:pQ):Decidable (POk e p):=by unfold POk;infer_instance
def LU(c:aD):Prop:=(0<=c.aJ/\c.aJ<=100000)/\c.b9.length=3/\∀p∈c.b9,POk c.aJ p
instance (c:aD):Decidable (LU c):=by unfold LU;infer_instance
theorem jA(c:aD):oZ c=some (decide (LU c)):=by
 unfold oZ
 rw [b7]
 by_cases h1:0<=c.aJ/\c.aJ<=100000
 ·by_cases h2:c.b9.length=3
  ·simp only [aE,h1,h2,nY]
   have key:∀k:Nat,k<=3->loop (tP c) (k:Int)=some (if ∀p∈c.b9.drop k,POk c.aJ p then Out.brk () else Out.ret false):=by
    refine aKP 3 _ fun k hk=>?_
    by_cases h3:k < 3
    ·have hd:c.b9.drop k=c.b9[k] :: c.b9.drop (k+1):=y6 (by omega)
     simp only [tP]
     rw [if_pos (by simp;omega),aU (by omega)]
     simp only [aE,b7,l5,hd]
     rw [jS (by simp [maxLen];omega)]
     generalize c.b9[k]=p
     have hp:POk c.aJ p↔decide (0<=p.aJ/\p.aJ<=c.aJ)=true/\decide (0<=p.Seen/\p.Seen<=2)=true/\(p.On=false->decide (p=⟨false,0,false,0⟩)=true):=by simp only [POk,decide_eq_true_eq]
     simp only [List.forall_mem_cons,hp]
     generalize decide (0<=p.aJ/\p.aJ<=c.aJ)=b1
     generalize decide (0<=p.Seen/\p.Seen<=2)=b2
     generalize decide (p=⟨false,0,false,0⟩)=b3
     generalize p.On=b4
     cases b1 <;> cases b2 <;> cases b3 <;> cases b4 <;> simp [h3]
    ·left
     obtain rfl:k=3:=by omega
     simp [tP,List.drop_eq_nil_of_le (show c.b9.length<=3 by omega)]
   have:=key 0 (by omega)
   simp only [Int.ofNat_zero,FW] at this
   have e:decide (LU c)=if ∀p∈c.b9,POk c.aJ p then true else false:=by
    have:LU c↔∀p∈c.b9,POk c.aJ p:=⟨fun h=>h.2.2,fun h=>⟨h1,h2,h⟩⟩
    simp [this]
   rw [e]
   simp only [Int.cast_ofNat_Int] at *
   have t0:loop (tP c) 0=_:=this
   by_cases h5:∀p∈c.b9,POk c.aJ p
   ·rw [if_pos h5] at t0 ⊢;rw [t0];simp [I1,R9]
   ·rw [if_neg h5] at t0 ⊢;rw [t0];simp [I1]
  ·simp [h1,h2,nY,LU]
   omega
 ·simp [h1,nY,LU]
theorem aN7(p:pQ)(c:aD):vR p c=some (!decide (POk c.aJ p)):=by
 unfold vR lL
 rw [dX,dX]
 have hp:decide (POk c.aJ p)=(decide (0<=p.aJ/\p.aJ<=c.aJ) && (decide (0<=p.Seen/\p.Seen<=2) && (p.On || decide (p=⟨false,0,false,0⟩)))):=by
  rw [OR];simp only [POk,decide_eq_true_eq,xB,Bool.or_eq_true]
  by_cases h:p.On=true
  ·simp [h]
  ·simp [(by simpa using h:p.On=false)]
 rw [hp]
 generalize decide (0<=p.aJ/\p.aJ<=c.aJ)=b1
 generalize decide (0<=p.Seen/\p.Seen<=2)=b2
 generalize decide (p=⟨false,0,false,0⟩)=b3
 generalize p.On=b4
 cases b1 <;> cases b2 <;> cases b3 <;> cases b4 <;> rfl
theorem aL0{l:List pQ}(hl:l.length<=maxLen)(f:pQ->Bool):lK l (fun x=>some (f x))=some (l.any f):=by
 unfold lK vQ
 have key:∀k:Nat,k<=l.length->loop (jG l (fun x=>some (f x))) (k:Int)=some (if (l.drop k).any f then Out.ret ((k+(l.drop k).findIdx f:Nat):Int) else Out.brk ()):=by
  refine aKP l.length _ fun k hk=>?_
  by_cases h3:k < l.length
  ·have hd:l.drop k=l[k] :: l.drop (k+1):=y6 h3
   simp only [jG]
   rw [if_pos (by simp;omega),aU h3,jS (qJ h3 hl),hd]
   simp only [aE,List.any_cons,List.findIdx_cons]
   by_cases h4:f l[k]=true
   ·left;simp [h4]
   ·right
    have h4:f l[k]=false:=by simpa using h4
    refine⟨h3,by simp [h4],?_⟩
    simp only [h4,Bool.false_or,cond_false]
    congr 2;omega
  ·left
   obtain rfl:k=l.length:=by omega
   simp [jG]
 have t0:loop (jG l (fun x=>some (f x))) 0=_:=key 0 (by omega)
 rw [t0]
 simp only [FW]
 by_cases h:l.any f=true
 ·simp [h,qQ]
 ·have h:l.any f=false:=by simpa using h
  simp [h,qQ,C0]
theorem uC{c:aD}(hc:c.b9.length<=maxLen):oO c=some (decide (LU c)):=by
 unfold oO tC
 rw [dX]
 have e:(fun y0=>vR y0 c)=fun y0=>some (!decide (POk c.aJ y0)):=funext fun y=>aN7 y c
 rw [e,aL0 hc]
 by_cases h1:0<=c.aJ/\c.aJ<=100000
 ·by_cases h2:c.b9.length=3
  ·have:LU c↔∀p∈c.b9,POk c.aJ p:=⟨fun h=>h.2.2,fun h=>⟨h1,h2,h⟩⟩
   have e2:(c.b9.any fun y0=>!decide (POk c.aJ y0))=!decide (∀p∈c.b9,POk c.aJ p):=by
    rw [OR];simp
   simp [h1,h2,this,e2]
  ·have:¬(c.b9.length:Int)=3:=by omega
   simp [h1,this,h2,LU]
 ·simp [h1,LU]
end Go.Gv
end
noncomputable section
namespace Go.Gv
def bH(l:List bC):List dA:=l.flatMap bC.Rows
theorem LV{l:List bC}{k:Nat}(h:k < l.length):bH (l.take (k+1))=bH (l.take k)++l[k].Rows:=by
 unfold bH
 rw [RQ h,List.flatMap_append];simp
theorem aG6(l:List bC)(k:Nat):(bH (l.take k)).length<=(bH l).length:=by
 have:bH l=bH (l.take k)++bH (l.drop k):=by
  unfold bH;rw [<-List.flatMap_append,TA]
 rw [this];simp
theorem aTM(l:List bC){k:Nat}(h:k < l.length):l[k].Rows.length<=(bH l).length:=by
 have h1:=aG6 l (k+1)
 rw [LV h] at h1
 simp at h1;omega
theorem PZ{l:List bC}{s:bC}(h:s∈l):s.Rows.length<=(bH l).length:=by
 obtain⟨k,hk,rfl⟩:=RP.1 h
 exact aTM l hk
theorem LW{l:List bC}(h:(bH l).length<=1073741824)(hl:l.length<=maxLen):C4 l=some (bH l):=by
 unfold C4
 have k1:loop (wH l) ([],0)=some (bH l):=by
  refine fV (f:=wH l) l.length (fun k=>(bH (l.take k),(k:Int))) _ (fun k hk=>?_) ?_
  ·have h1:=aG6 l (k+1)
   rw [LV hk] at h1
   simp only [wH]
   rw [if_pos (by simp;omega),aU hk]
   simp only [aE]
   rw [aN (by simp at h1;omega),LV hk,jS (qJ hk hl)]
  ·simp [wH]
 rw [k1];rfl
def jN(h:Int):Prop:=(32<=h/\h<=223)/\h % 32 < 24
instance (h:Int):Decidable (jN h):=by unfold jN;infer_instance
theorem eP(h:Int):iK h=some (decide (jN h)):=by
 unfold iK xT jN
 rw [b7]
 by_cases q:32<=h/\h<=223
 ·simp [q,wW (show 0<=h by omega)]
 ·simp [q]
theorem jK(h:Int):iJ h=some (decide (jN h)):=by
 unfold iJ mX jN
 rw [dX]
 by_cases q:32<=h/\h<=223
 ·simp [q,wW (show 0<=h by omega)]
 ·simp [q]
theorem jN.mod{h:Int}(q:jN h):Int.tmod h 32=h % 32/\0<=h % 32/\h % 32<=23:=by
 unfold jN at q
 exact⟨wW (by omega),by omega,by omega⟩
theorem cQ(h:Int):fG h=some (if jN h then h % 32 else -1):=by
 unfold fG
 rw [eP]
 by_cases q:jN h
 ·simp [q,q.mod.1]
 ·simp [q]
def AY(r:dA):Prop:=jN r.Handle/\0<=r.aJ/\r.aJ<=100000
instance (r:dA):Decidable (AY r):=by unfold AY;infer_instance
def lQ(r:dA):Int:=r.Handle % 32
def pR(l:List bC):Prop:=l.length=3/\(bH l).length<=24/\(∀r∈bH l,AY r)/\((bH l).map lQ).Nodup
instance (l:List bC):Decidable (pR l):=by unfold pR;infer_instance
def rowAt(l:List dA)(k:Nat):dA:=l.getD k ⟨0,0⟩
theorem VX{l:List dA}{k:Nat}(h:k < l.length):rowAt l k=l[k]:=by
 unfold rowAt;rw [gR,eM h];rfl
theorem aDW{l:List bC}(h:(bH l).length<=1073741824)(hl:l.length<=maxLen):KD l=some (decide (pR l)):=by
 unfold KD BP
 rw [LW h hl]
 simp only [aE]
 by_cases h3:l.length=3
 ·have n1:((l.length:Int) != 3)=false:=by simp;omega
  simp only [n1,aQ,if_false]
  by_cases h24:(bH l).length<=24
  ·rw [if_neg (by simp;omega)]
   have hst:∀k,k < (bH l).length->tR (bH l) (((bH l).take k).map lQ,(k:Int))=if AY (rowAt (bH l) k)/\lQ (rowAt (bH l) k)∉((bH l).take k).map lQ then some (.next (((bH l).take (k+1)).map lQ,((k+1:Nat):Int))) else some (.stop (Out.ret false)):=by
    intro k hk
    simp only [tR,tQ]
    rw [if_pos (by simp;omega),aU hk,VX hk]
    simp only [aE,cQ,b7]
    by_cases q:jN (bH l)[k].Handle
    ·have hm:=q.mod
     rw [if_pos q,if_neg (by simp;omega)]
     by_cases q2:0<=(bH l)[k].aJ/\(bH l)[k].aJ<=100000
     ·rw [aZ q2]
      simp only [dE,aQ,if_false]
      rw [OH (by simp [maxLen];omega)]
      simp only [aE]
      by_cases q3:(bH l)[k].Handle % 32∈((bH l).take k).map lQ
      ·rw [aZ q3];simp only [if_true];rw [if_neg (show ¬(AY (bH l)[k]/\lQ (bH l)[k]∉((bH l).take k).map lQ) from fun x=>x.2 q3)]
      ·rw [bM q3]
       simp only [aQ,if_false]
       rw [if_pos (show AY (bH l)[k]/\lQ (bH l)[k]∉((bH l).take k).map lQ from ⟨⟨q,q2⟩,q3⟩),aN (by simp;omega),aM (by omega) (by omega),map_take _ hk];rfl
     ·rw [bM q2]
      simp only [iU,if_true]
      rw [if_neg (fun x:AY _/\_=>q2 x.1.2)]
    ·rw [if_neg q,if_pos (by simp),if_neg (fun x:AY _/\_=>q x.1.1)];rfl
   have key:=wV (f:=tR (bH l)) (bH l).length (fun k=>(((bH l).take k).map lQ,(k:Int))) (fun k=>AY (rowAt (bH l) k)/\lQ (rowAt (bH l) k)∉((bH l).take k).map lQ) (Out.brk ()) (Out.ret false) (fun k hk hx=>by rw [hst k hk,if_pos hx]) (fun k hk hx=>by rw [hst k hk,if_neg hx]) (by simp [tR])
   rw [aBP,List.map_nil,show((0:Nat):Int)=0 from rfl] at key
   rw [key]
   have hiff:pR l↔∀k,k < (bH l).length->AY (rowAt (bH l) k)/\lQ (rowAt (bH l) k)∉((bH l).take k).map lQ:=by
    constructor
    ·rintro⟨_,_,q1,q2⟩ k hk
     rw [VX hk]
     refine⟨q1 _ (eN hk),?_⟩
     have:=(RE _).1 q2 k (by simpa using hk)
     rw [List.getElem_map,<-List.map_take] at this
     exact this
    ·intro q
     refine⟨h3,h24,fun x hx=>?_,(RE _).2 fun k hk=>?_⟩
     ·obtain⟨k,hk,rfl⟩:=RP.1 hx
      have:=(q k hk).1;rw [VX hk] at this;exact this
     ·have hk':k < (bH l).length:=by simpa using hk
      have:=(q k hk').2;rw [VX hk'] at this
      rw [List.getElem_map,<-List.map_take];exact this
   by_cases q:pR l
   ·rw [if_pos (hiff.1 q),aZ q];rfl
   ·rw [if_neg (fun x=>q (hiff.2 x)),bM q];rfl
  ·rw [if_pos (by simp;omega),bM (fun q:pR l=>h24 q.2.1)]
 ·have n1:((l.length:Int) != 3)=true:=by simp;omega
  simp only [n1,if_true]
  rw [bM (fun q:pR l=>h3 q.1)]
def goR:List Bool->List dA->Option (List Bool)
 | met,[]=>some met
 | met,r :: t=>if AY r/\met.getD (lQ r).toNat true=false then goR (met.set (lQ r).toNat true) t else none
theorem aSJ:∀{xs:List dA} {met m:List Bool},goR met xs=some m->m.length=met.length
 | [],met,m,h=>by simp [goR] at h;rw [h]
 | x :: r, met, m, h => by
  simp only [goR] at h
  split at h
  ·have:=aSJ h;simpa using this
  ·cases h
theorem aG7:∀(a b:List dA) (met:List Bool),goR met (a++b)=(goR met a).bind fun m=>goR m b
 | [],b,met=>rfl
 | x :: r, b, met => by
  simp only [OS,goR]
  split
  ·exact aG7 r b _
  ·rfl
theorem aN8:∀(xs:List dA) (met:List Bool),(goR met xs).isSome=true↔(∀r∈xs,AY r)/\(AX met (xs.map lQ)).isSome=true
 | [],met=>by simp [goR,AX]
 | x :: r, met => by
  simp only [goR,y8,AX]
  by_cases h:AY x
  ·have hm:=h.1.mod
   have hs:0<=lQ x/\lQ x<=23:=hm.2
   by_cases h2:met.getD (lQ x).toNat true=false
   ·rw [if_pos ⟨h,h2⟩,if_pos ⟨hs,h2⟩,aN8 r _]
    simp [h]
   ·rw [if_neg (fun q=>h2 q.2),if_neg (fun q=>h2 q.2)];simp
  ·rw [if_neg (fun q=>h q.1)]
   constructor
   ·intro q;cases q
   ·rintro⟨q,_⟩;exact(h (q x MM)).elim
theorem aTN{s:bC}(hl:s.Rows.length<=maxLen):∀d k (met:List Bool),k+d=s.Rows.length->met.length=24->loop (lX s) ((k:Int),met)=some (aLY (goR met (s.Rows.drop k))):=by
 intro d
 induction d with
 | zero =>
  intro k met hk hm
  rw [bL (r:=Out.brk met) (by simp [lX];omega),List.drop_eq_nil_of_le (by omega)];rfl
 | succ d ih =>
  intro k met hk hm
  have hk':k < s.Rows.length:=by omega
  have hd:s.Rows.drop k=s.Rows[k] :: s.Rows.drop (k+1):=y6 hk'
  have hst:lX s ((k:Int),met)=if AY s.Rows[k]/\met.getD (lQ s.Rows[k]).toNat true=false then some (.next (((k+1:Nat):Int),met.set (lQ s.Rows[k]).toNat true)) else some (.stop (Out.ret false)):=by
   simp only [lX]
   rw [if_pos (by simp;omega),aU hk']
   simp only [aE,jK,dX]
   generalize s.Rows[k]=x
   by_cases q:jN x.Handle
   ·by_cases q2:0<=x.aJ/\x.aJ<=100000
    ·have hm2:=q.mod
     obtain⟨j,hj0⟩:=aU1 hm2.2.1
     have hj:j < met.length:=by omega
     have e:met.getD j true=met[j]:=by rw [gR,eM hj];rfl
     have hr:AY x:=⟨q,q2⟩
     simp only [q,q2,and_self,decide_true,dE,aQ,if_false,kA,hm2.1,hj0,P7,hr,true_and,lQ,e]
     rw [aN (by omega),aU hj]
     simp only [aE]
     cases met[j]
     ·simp only [aQ,if_false,if_true]
      rw [aN (by omega),jS (qJ hk' hl)]
     ·simp
    ·rw [aZ q,bM q2];simp only [dE,iU,aQ,if_false,if_true,kA];rw [if_neg (fun y:AY x/\_=>q2 y.1.2)]
   ·rw [bM q];simp only [iU,if_true,kA];rw [if_neg (fun y:AY x/\_=>q y.1.1)]
  rw [hd,goR]
  by_cases q:AY s.Rows[k]/\met.getD (lQ s.Rows[k]).toNat true=false
  ·rw [if_pos q] at hst ⊢
   rw [bP hst,ih (k+1) _ (by omega) (by simpa using hm)]
  ·rw [if_neg q] at hst ⊢
   rw [bL hst];rfl
theorem aTO{l:List bC}(hn:l.length<=1000)(hs:∀s∈l,s.Rows.length<=maxLen):∀d k (met:List Bool),k+d=l.length->met.length=24 ->
  loop (lY l) ((k:Int),met)=some (if (goR met (bH (l.drop k))).isSome=true then Out.brk () else Out.ret false):=by
 intro d
 induction d with
 | zero =>
  intro k met hk hm
  rw [List.drop_eq_nil_of_le (by omega),if_pos (show(goR met (bH [])).isSome=true from rfl)]
  refine bL ?_
  simp only [lY]
  rw [if_neg (by simp;omega)]
 | succ d ih =>
  intro k met hk hm
  have hk':k < l.length:=by omega
  have hd:l.drop k=l[k] :: l.drop (k+1):=y6 hk'
  have hsk:=hs _ (eN hk')
  have hf:bH (l.drop k)=l[k].Rows++bH (l.drop (k+1)):=by unfold bH;rw [hd,List.flatMap_cons]
  have h4:=aTN hsk _ 0 met (FZ _) hm
  rw [show((0:Nat):Int)=0 from rfl,FW] at h4
  have hst:lY l ((k:Int),met)=(match goR met l[k].Rows with | some m=>some (.next (((k+1:Nat):Int),m)) | none=>some (.stop (Out.ret false))):=by
   simp only [lY]
   rw [if_pos (by simp;omega),aU hk']
   simp only [aE]
   rw [h4]
   cases goR met l[k].Rows with
   | none=>rfl
   | some m=>simp only [aE,aLY,RY,A8];rw [aM (by omega) (by omega)];rfl
  rw [hf,aG7]
  cases hg:goR met l[k].Rows with
  | none =>
   rw [hg] at hst
   rw [bL hst,if_neg (by simp)]
  | some m =>
   rw [hg] at hst
   rw [bP hst,ih (k+1) m (by omega) (by rw [aSJ hg];exact hm)]
   simp only [aE]
theorem ZW{l:List bC}(hn:l.length<=1000)(h:(bH l).length<=1073741824):vS l=some ((bH l).length:Int):=by
 unfold vS
 have key:loop (jU l) (0,0)=some ((bH l).length:Int):=by
  refine fV (f:=jU l) l.length (fun k=>(((bH (l.take k)).length:Int),(k:Int))) _ (fun k hk=>?_) ?_
  ·have h1:=aG6 l (k+1)
   rw [LV hk,FX] at h1
   simp only [jU]
   rw [if_pos (by simp;omega),aU hk]
   simp only [aE]
   rw [aM (by omega) (by omega),aM (by omega) (by omega),LV hk,FX]
   simp
  ·simp [jU]
 rw [key];rfl
theorem BZ{l:List bC}(h:(bH l).length<=1073741824):mI l=some (decide (pR l)):=by
 unfold mI
 by_cases h3:l.length=3
 ·have n1:((l.length:Int) != 3)=false:=by simp;omega
  have hb:(1073741824:Nat)<=maxLen:=by simp [maxLen]
  simp only [n1,aQ,if_false]
  have key:=aTO (l:=l) (by omega) (fun s hs=>by have:=PZ hs;omega) l.length 0 [false,false,false,false,false,false,false,false,false,false,false,false,false,false,false,false,false,false,false,false,false,false,false,false] (by omega) rfl
  rw [show((0:Nat):Int)=0 from rfl,FW] at key
  rw [key]
  have hm0:∀j:Nat,j < 24->[false,false,false,false,false,false,false,false,false,false,false,false,false,false,false,false,false,false,false,false,false,false,false,false].getD j true=false:=by decide
  have hiff:pR l↔(bH l).length<=24/\(goR [false,false,false,false,false,false,false,false,false,false,false,false,false,false,false,false,false,false,false,false,false,false,false,false] (bH l)).isSome=true:=by
   rw [aN8,X5 _ _ rfl]
   have hr:(∀r∈bH l,AY r)->∀x∈(bH l).map lQ,0<=x/\x<=23:=by
    intro q x hx
    obtain⟨r,hr,rfl⟩:=DD.1 hx
    exact(q r hr).1.mod.2
   constructor
   ·rintro⟨_,q1,q2,q3⟩
    exact⟨q1,q2,hr q2,q3,fun x hx=>hm0 _ (by have:=hr q2 x hx;omega)⟩
   ·rintro⟨q1,q2,_,q3,_⟩
    exact⟨h3,q1,q2,q3⟩
  by_cases q:(goR [false,false,false,false,false,false,false,false,false,false,false,false,false,false,false,false,false,false,false,false,false,false,false,false] (bH l)).isSome=true
  ·rw [if_pos q]
   simp only [aE,RZ,A7]
   rw [ZW (by omega) h]
   simp only [aE]
   congr 1
   rw [OR];simp only [decide_eq_true_eq]
   rw [hiff]
   exact⟨fun a=>⟨by omega,q⟩,fun a=>by omega⟩
  ·rw [if_neg q,bM (fun x=>q (hiff.1 x).2)];rfl
 ·have n1:((l.length:Int) != 3)=true:=by simp;omega
  simp only [n1,if_true]
  rw [bM (fun q:pR l=>h3 q.1)]
def cX(h:Int):Prop:=h=0\/jN h
instance (h:Int):Decidable (cX h):=by unfold cX;infer_instance
def KN(z:List Int):Prop:=z.length=3/\∀h∈z,cX h
instance (z:List Int):Decidable (KN z):=by unfold KN;infer_instance
theorem AZ{z:List Int}(hl:z.length<=maxLen):GI z=some (decide (KN z)):=by
 unfold GI
 have hst:∀k (hk:k < z.length),AA z (k:Int)=if cX z[k] then some (.next ((k+1:Nat):Int)) else some (.stop (Out.ret false)):=by
  intro k hk
  simp only [AA,HL]
  rw [if_pos (by simp;omega),aU hk,jS (qJ hk hl)]
  simp only [aE,eP]
  generalize z[k]=x
  by_cases q:x=0
  ·have n:(x != 0)=false:=by simp only [bne_eq_false_iff_eq];exact q
   rw [n,if_pos (show cX x from .inl q)];rfl
  ·have n:(x != 0)=true:=by simp only [bne_iff_ne];exact q
   by_cases q2:jN x
   ·rw [n,aZ q2,if_pos (show cX x from .inr q2)];rfl
   ·rw [n,bM q2,if_neg (fun a:cX x=>a.elim q q2)];rfl
 have key:=kT (f:=AA z) z (fun k=>(k:Int)) cX (Out.brk ()) (Out.ret false) (fun k hk hx=>by rw [hst k hk,if_pos hx]) (fun k hk hx=>by rw [hst k hk,if_neg hx]) (by simp [AA])
 rw [show((0:Nat):Int)=0 from rfl] at key
 rw [key]
 by_cases q:∀x∈z,cX x
 ·rw [if_pos q]
  have:KN z↔z.length=3:=⟨fun a=>a.1,fun a=>⟨a,q⟩⟩
  simp only [aE,WO,WN,this]
  congr 1;rw [OR];simp only [beq_iff_eq,decide_eq_true_eq];omega
 ·rw [if_neg q,bM (fun a:KN z=>q a.2)];rfl
theorem OJ{z:List Int}(hl:z.length<=maxLen):GD z=some (decide (KN z)):=by
 unfold GD G7
 have e:(fun y0=>JU y0)=fun y:Int=>some (!decide (cX y)):=by
  funext y
  unfold JU rR vT
  rw [jK]
  by_cases q:y=0
  ·have n:(y == 0)=true:=by simp only [beq_iff_eq];exact q
   rw [n,aZ (show cX y from .inl q)];rfl
  ·have n:(y == 0)=false:=by simp only [beq_eq_false_iff_ne];exact q
   by_cases q2:jN y
   ·rw [n,aZ q2,aZ (show cX y from .inr q2)];rfl
   ·rw [n,bM q2,bM (fun a:cX y=>a.elim q q2)];rfl
 rw [e,sT hl,HV]
 by_cases h3:z.length=3
 ·have n:((z.length:Int) == 3)=true:=by simp;omega
  have:KN z↔∀h∈z,cX h:=⟨fun a=>a.2,fun a=>⟨h3,a⟩⟩
  simp only [n,if_true,aE,Bool.not_not,this]
 ·have n:((z.length:Int) == 3)=false:=by simp;omega
  simp only [n,aQ,if_false]
  rw [bM (fun a:KN z=>h3 a.1)]
end Go.Gv
end
noncomputable section
namespace Go.Gv
theorem LX{α:Type}(l:List α)(f:α->Bool){body:Int->Option (Step Int (Out Unit Int))}(hb:∀k (hk:k < l.length),body (k:Int)=if f l[k] then some (.stop (.ret (k:Int))) else some (.next ((k+1:Nat):Int)))(he:body (l.length:Int)=some (.stop (.brk ()))) :
  ∃o,loop body 0=some o/\match o with | .brk _=>l.any f=false | .ret r=>0<=r/\l.any f=true:=by
 have key:=aTK (f:=body) l.length (fun k=>(k:Int)) (fun k=>if (l.drop k).any f then Out.ret ((k+(l.drop k).findIdx f:Nat):Int) else Out.brk ()) (fun k hk=>by
  by_cases h:k < l.length
  ·have hd:l.drop k=l[k] :: l.drop (k+1):=y6 h
   rw [hb k h,hd]
   simp only [List.any_cons,List.findIdx_cons]
   by_cases h4:f l[k]=true
   ·left;simp [h4]
   ·right
    have h4:f l[k]=false:=by simpa using h4
    refine⟨h,by simp [h4],?_⟩
    simp only [h4,Bool.false_or,cond_false]
    congr 2;omega
  ·left
   obtain rfl:k=l.length:=by omega
   rw [he];simp) 0 (sW _)
 rw [show((0:Nat):Int)=0 from rfl,FW] at key
 refine⟨_,key,?_⟩
 by_cases h:l.any f=true
 ·rw [if_pos h];exact⟨by omega,h⟩
 ·rw [if_neg h];simpa using h
theorem W8{l:List dA}(hl:l.length<=maxLen)(f:dA->Bool):iY l (fun x=>some (f x))=some (l.any f):=by
 obtain⟨o,e,h⟩:=LX l f (body:=kZ l (fun x=>some (f x))) (fun k hk=>by
  simp only [kZ]
  rw [if_pos (by simp;omega),aU hk,jS (qJ hk hl)];rfl) (by simp [kZ])
 unfold iY uT
 rw [e]
 cases o with
 | brk u=>simp only at h;simp [pJ,zH,h]
 | ret r=>simp only at h;simp [pJ,h]
theorem UX{l:List bC}(hl:l.length<=maxLen)(f:bC->Bool)(g:bC->Option Bool)(hg:∀x∈l,g x=some (f x)):iQ l g=some (l.any f):=by
 obtain⟨o,e,h⟩:=LX l f (body:=kJ l g) (fun k hk=>by
  simp only [kJ]
  rw [if_pos (by simp;omega),aU hk,jS (qJ hk hl)]
  simp only [aE,hg _ (eN hk)]) (by simp [kJ])
 unfold iQ sA
 rw [e]
 cases o with
 | brk u=>simp only at h;simp [nK,yP,h]
 | ret r=>simp only at h;simp [nK,h]
theorem UY{l:List aR}(hl:l.length<=maxLen)(f:aR->Bool)(g:aR->Option Bool)(hg:∀x∈l,g x=some (f x)):iS l g=some (l.any f):=by
 obtain⟨o,e,h⟩:=LX l f (body:=kK l g) (fun k hk=>by
  simp only [kK]
  rw [if_pos (by simp;omega),aU hk,jS (qJ hk hl)]
  simp only [aE,hg _ (eN hk)]) (by simp [kK])
 unfold iS sB
 rw [e]
 cases o with
 | brk u=>simp only at h;simp [nL,yQ,h]
 | ret r=>simp only at h;simp [nL,h]
theorem contains_eq{l:List Int}(hl:l.length<=maxLen)(v:Int):p5 l v=some (decide (v∈l)):=by
 obtain⟨o,e,h⟩:=LX l (fun x=>v == x) (body:=eZ l v) (fun k hk=>by
  simp only [eZ]
  rw [if_pos (by simp;omega),aU hk,jS (qJ hk hl)];rfl) (by simp [eZ])
 have ha:l.any (fun x=>v == x)=decide (v∈l):=by
  rw [OR];simp
 rw [ha] at h
 unfold p5 mY
 rw [e]
 cases o with
 | brk u=>simp only at h;simp [pZ,JH,h]
 | ret r=>simp only at h;simp [pZ,h]
theorem VY{l:List aR}{x:Int}:x∈cN l↔∃s∈l,x∈s.aT:=aBN
noncomputable section
variable {m:Mem} (hsh:fW m.aC) (hl:(dJ m.aB).length<=1073741824) (hg:m.aB.Global.length<=maxLen) (ho:m.aB.Own.length<=maxLen)
include hl hg ho
theorem aG8(s:Int):M9 m.aB s=some (decide (s∈dJ m.aB)):=by
 have hb:(1073741824:Nat)<=maxLen:=by simp [maxLen]
 unfold M9
 rw [W6 hl hg ho]
 simp only [aE]
 rw [OH (by omega)];rfl
theorem UZ(s:Int):H8 m.aB s=some (decide (s∈dJ m.aB)):=by
 have hb:(1073741824:Nat)<=maxLen:=by simp [maxLen]
 have hal:=rJ m.aB
 have e1:∀x∈m.aB.Global,pK x s=some (decide (s∈x.aT)):=fun x hx=>by
  have:=IM hx
  unfold pK;rw [contains_eq (by omega)];rfl
 have e2:∀x∈m.aB.Own,pK x s=some (decide (s∈x.aT)):=fun x hx=>by
  have:=IM hx
  unfold pK;rw [contains_eq (by omega)];rfl
 unfold H8 DW
 rw [UY hg (fun x=>decide (s∈x.aT)) _ e1,UY ho (fun x=>decide (s∈x.aT)) _ e2]
 have a1:(m.aB.Global.any fun x=>decide (s∈x.aT))=decide (s∈cN m.aB.Global):=by
  rw [OR];simp [VY]
 have a2:(m.aB.Own.any fun x=>decide (s∈x.aT))=decide (s∈cN m.aB.Own):=by
  rw [OR];simp [VY]
 rw [a1,a2]
 simp only [aE,dJ,e9]
 by_cases q:s∈cN m.aB.Global <;> simp [q]
def dU(m:Mem)(s:Int):Int:=if aW m.aC s < 0 then 0 else if s∈dJ m.aB then 1 else if 6 < iP m.aC s then 2 else 3
include hsh
theorem SR(s:Int):EL m s=some (dU m s):=by
 unfold EL dU
 rw [i7 hsh,aG8 hl hg ho]
 simp only [aE]
 by_cases q:aW m.aC s < 0
 ·simp [q]
 ·rw [pL hsh (by omega)]
  by_cases q2:s∈dJ m.aB
  ·simp [q,q2]
  ·by_cases q3:6 < iP m.aC s <;> simp [q,q2,q3]
theorem SS(s:Int):DX m s=some (dU m s):=by
 unfold DX dU
 rw [kG hsh,UZ hl hg ho]
 simp only [aE]
 by_cases q:aW m.aC s < 0
 ·simp [q]
 ·rw [HX hsh (by omega)]
  by_cases q2:s∈dJ m.aB
  ·simp [q,q2]
  ·by_cases q3:6 < iP m.aC s <;> simp [q,q2,q3]
def hC(m:Mem)(h:Int):Prop:=jN h/\dU m (h % 32)=3/\iP m.aC (h % 32)=h / 32
instance (m:Mem) (h:Int):Decidable (hC m h):=by unfold hC;infer_instance
omit hl hg ho hsh in
theorem hJ{m:Mem}{s:Int}(h:dU m s=3):0<=aW m.aC s:=by
 unfold dU at h
 split at h
 ·omega
 ·omega
theorem l8(h:Int):oY m h=some (decide (hC m h)):=by
 unfold oY tM
 rw [eP,cQ]
 by_cases q:jN h
 ·have hm:=q.mod
  rw [aZ q,if_pos q]
  simp only [aE,if_true,SR hsh hl hg ho]
  by_cases q2:dU m (h % 32)=3
  ·have n:(dU m (h % 32) == 3)=true:=by simpa using q2
   have eg:EM h=some (h / 32):=by
    unfold EM
    unfold jN at q
    rw [eP,aZ (show jN h from q),FF (by omega),aM (by omega) (by omega)];rfl
   rw [n,pL hsh (hJ q2),eg]
   simp only [if_true,aE]
   congr 1;rw [OR];simp only [beq_iff_eq,decide_eq_true_eq]
   exact⟨fun a=>⟨q,q2,a⟩,fun a=>a.2.2⟩
  ·have n:(dU m (h % 32) == 3)=false:=by simpa using q2
   rw [n,bM (fun a:hC m h=>q2 a.2.1)];rfl
 ·rw [bM q,bM (fun a:hC m h=>q a.1)];rfl
theorem wY(h:Int):rS m h=some (decide (hC m h)):=by
 unfold rS vU
 rw [jK]
 by_cases q:jN h
 ·have hm:=q.mod
  rw [aZ q,hm.1]
  simp only [aE,if_true,SS hsh hl hg ho]
  by_cases q2:dU m (h % 32)=3
  ·have n:(dU m (h % 32) == 3)=true:=by simpa using q2
   have eg:aY (Int.tdiv h 32)=h / 32:=by
    unfold jN at q
    rw [FF (by omega),aM (by omega) (by omega)]
   rw [n,HX hsh (hJ q2),eg]
   simp only [if_true,aE]
   congr 1;rw [OR];simp only [beq_iff_eq,decide_eq_true_eq]
   exact⟨fun a=>⟨q,q2,a⟩,fun a=>a.2.2⟩
  ·have n:(dU m (h % 32) == 3)=false:=by simpa using q2
   rw [n,bM (fun a:hC m h=>q2 a.2.1)];rfl
 ·rw [bM q,bM (fun a:hC m h=>q a.1)];rfl
end
def yI(b:aA)(r:dA):Prop:=hC b.Mem r.Handle/\r.aJ<=b.aD.aJ
instance (b:aA) (r:dA):Decidable (yI b r):=by unfold yI;infer_instance
def mC(b:aA):Prop:=(nF b.Mem/\LU b.aD/\pR b.aO/\KN b.l7)/\∀r∈bH b.aO,yI b r
instance (b:aA):Decidable (mC b):=by unfold mC;infer_instance
def U0(b:aA):Prop:=yZ b.Mem/\b.aD.b9.length<=1048576/\b.aO.length<=1048576/\(bH b.aO).length<=1048576/\b.l7.length<=1048576
theorem U0.rows{b:aA}(h:U0 b):∀s∈b.aO,s.Rows.length<=1048576:=fun s hs=>by
 have:=PZ hs;have:=h.2.2.2.1;omega
noncomputable section
variable {b:aA} (hf:b.Mem.aC.Bytes.length<=maxLen/\(dJ b.Mem.aB).length<=1073741824/\b.aD.b9.length<=maxLen/\b.aO.length<=maxLen/\(bH b.aO).length<=1073741824/\b.l7.length<=maxLen)
include hf
theorem U1:ID b=some (decide (mC b)):=by
 obtain⟨f1,f2,f3,f4,f5,f6⟩:=hf
 unfold ID qY
 rw [OI f1 f2,jA,aDW f5 f4,AZ f6]
 by_cases q1:nF b.Mem
 ·by_cases q2:LU b.aD
  ·by_cases q3:pR b.aO
   ·by_cases q4:KN b.l7
    ·have hg:b.Mem.aB.Global.length<=maxLen:=by rw [q1.1.2.1];simp [maxLen]
     have ho:b.Mem.aB.Own.length<=maxLen:=by rw [q1.1.2.2.1];simp [maxLen]
     have hmx:(1073741824:Nat)<=maxLen:=by simp [maxLen]
     simp only [aZ q1,aZ q2,aZ q3,aZ q4,aE,dE,aQ,if_false]
     rw [LW f5 f4]
     simp only [aE]
     have hst:∀k (hk:k < (bH b.aO).length),wI b (bH b.aO) (k:Int)=if yI b (bH b.aO)[k] then some (.next ((k+1:Nat):Int)) else some (.stop (Out.ret false)):=by
      intro k hk
      simp only [wI,EN]
      rw [if_pos (by simp;omega),aU hk,jS (show k < maxLen by omega)]
      generalize (bH b.aO)[k]=r
      simp only [aE,l8 q1.1.1.1 f2 hg ho]
      by_cases a1:hC b.Mem r.Handle
      ·rw [aZ a1]
       simp only [dE,aQ,if_false]
       by_cases a2:r.aJ<=b.aD.aJ
       ·rw [if_neg (by simp;omega),if_pos ⟨a1,a2⟩]
       ·rw [if_pos (by simp;omega),if_neg (fun x=>a2 x.2)]
      ·rw [bM a1]
       simp only [iU,if_true]
       rw [if_neg (fun x=>a1 x.1)]
     have key:=kT (f:=wI b (bH b.aO)) (bH b.aO) (fun k=>(k:Int)) (yI b) (Out.brk ()) (Out.ret false) (fun k hk hx=>by rw [hst k hk,if_pos hx]) (fun k hk hx=>by rw [hst k hk,if_neg hx]) (by simp [wI])
     rw [show((0:Nat):Int)=0 from rfl] at key
     rw [key]
     by_cases q:∀r∈bH b.aO,yI b r
     ·rw [if_pos q,aZ (show mC b from ⟨⟨q1,q2,q3,q4⟩,q⟩)];rfl
     ·rw [if_neg q,bM (fun x:mC b=>q x.2)];rfl
    ·rw [bM (fun x:mC b=>q4 x.1.2.2.2),aZ q1,aZ q2,aZ q3,bM q4];rfl
   ·rw [bM (fun x:mC b=>q3 x.1.2.2.1),aZ q1,aZ q2,bM q3];rfl
  ·rw [bM (fun x:mC b=>q2 x.1.2.1),aZ q1,bM q2];rfl
 ·rw [bM (fun x:mC b=>q1 x.1.1),bM q1];rfl
theorem LY:C1 b=some (decide (mC b)):=by
 obtain⟨f1,f2,f3,f4,f5,f6⟩:=hf
 unfold C1 qR
 rw [W7 f1 f2,uC f3,BZ f5,OJ f6]
 by_cases q1:nF b.Mem
 ·by_cases q2:LU b.aD
  ·by_cases q3:pR b.aO
   ·by_cases q4:KN b.l7
    ·have hg:b.Mem.aB.Global.length<=maxLen:=by rw [q1.1.2.1];simp [maxLen]
     have ho:b.Mem.aB.Own.length<=maxLen:=by rw [q1.1.2.2.1];simp [maxLen]
     have hmx:(1073741824:Nat)<=maxLen:=by simp [maxLen]
     simp only [aZ q1,aZ q2,aZ q3,aZ q4,aE,dE,aQ,if_false]
     have e1:(fun y0=>A9 y0 b)=fun r:dA=>some (!decide (yI b r)):=by
      funext r
      unfold A9 sC
      rw [wY q1.1.1.1 f2 hg ho]
      by_cases a1:hC b.Mem r.Handle
      ·by_cases a2:r.aJ<=b.aD.aJ
       ·rw [aZ a1,aZ (show yI b r from ⟨a1,a2⟩),bM (show ¬b.aD.aJ < r.aJ by omega)];rfl
       ·rw [aZ a1,bM (fun x:yI b r=>a2 x.2),aZ (show b.aD.aJ < r.aJ by omega)];rfl
      ·rw [bM a1,bM (fun x:yI b r=>a1 x.1)];rfl
     have e2:∀l∈b.aO,(fun y0=>G8 y0 b) l=some (!decide (∀r∈l.Rows,yI b r)):=fun l hl=>by
      have:=PZ hl
      simp only [G8]
      rw [e1,W8 (by omega),HV];rfl
     rw [UX f4 _ _ e2,HV]
     have hiff:mC b↔∀l∈b.aO,∀r∈l.Rows,yI b r:=by
      constructor
      ·intro x l hl r hr
       exact x.2 r (aBN.2 ⟨l,hl,hr⟩)
      ·intro x
       refine⟨⟨q1,q2,q3,q4⟩,fun r hr=>?_⟩
       obtain⟨l,hl,hr⟩:=aBN.1 hr
       exact x l hl r hr
     simp only [aE,Bool.not_not,hiff]
    ·rw [bM (fun x:mC b=>q4 x.1.2.2.2),aZ q1,aZ q2,aZ q3,bM q4];rfl
   ·rw [bM (fun x:mC b=>q3 x.1.2.2.1),aZ q1,aZ q2,bM q3];rfl
  ·rw [bM (fun x:mC b=>q2 x.1.2.1),aZ q1,bM q2];rfl
 ·rw [bM (fun x:mC b=>q1 x.1.1),bM q1];rfl
end
end Go.Gv
end
noncomputable section
namespace Go.Gv
theorem ZX{α:Type}{f:(List α×Int)->Option (Step (List α×Int) (List α))}(l:List α)
  (h:∀k (hk:k < l.length),f (l.take k,(k:Int))=some (.next (l.take k ++ [l[k]],((k+1:Nat):Int)))) (he:f (l,(l.length:Int))=some (.stop l)):loop f ([],0)=some l:=by
 have:=fV (f:=f) l.length (fun k=>(l.take k,(k:Int))) l (fun k hk=>by rw [h k hk,RQ hk]) (by rw [OU];exact he)
 simpa using this
theorem aJ5{α:Type}{f:(Int×List α)->Option (Step (Int×List α) (List α))}(l:List α)
  (h:∀k (hk:k < l.length),f ((k:Int),l.take k)=some (.next (((k+1:Nat):Int),l.take k ++ [l[k]]))) (he:f ((l.length:Int),l)=some (.stop l)):loop f (0,[])=some l:=by
 have:=fV (f:=f) l.length (fun k=>((k:Int),l.take k)) l (fun k hk=>by rw [h k hk,RQ hk]) (by rw [OU];exact he)
 simpa using this
theorem GN{l:List Int}(h:l.length<=1073741824):wP l=some l:=by
 unfold wP;rw [aN (by simpa using h)];rfl
theorem sU{l:List Int}(h:l.length<=1073741824):fF l=some l:=by
 unfold fF;rw [aN (by simpa using h)];rfl
theorem aL1{l:List pQ}(h:l.length<=1073741824):xE l=some l:=by
 unfold xE;rw [aN (by simpa using h)];rfl
theorem aJG{l:List dA}(h:l.length<=1073741824):uY l=some l:=by
 unfold uY;rw [aN (by simpa using h)];rfl
theorem aJ6{l:List aR}(hl:l.length<=1048576)(hs:∀s∈l,s.aT.length<=1048576):ND l=some l:=by
 unfold ND
 rw [ZX l]
 ·rfl
 ·intro k hk
  have:=hs _ (eN hk)
  simp only [LH]
  rw [if_pos (by simp;omega),aU hk]
  simp only [aE]
  rw [GN (by omega),aE,aN (by simp;omega),aM (by omega) (by omega)];rfl
 ·simp [LH]
theorem aJH{l:aB}(h1:l.Global.length<=1048576)(h2:l.Own.length<=1048576)(h3:∀s∈l.Global,s.aT.length<=1048576)(h4:∀s∈l.Own,s.aT.length<=1048576):T8 l=some l:=by
 unfold T8;rw [aJ6 h1 h3,aJ6 h2 h4];rfl
theorem OK{l:aB}(h1:l.Global.length<=1048576)(h2:l.Own.length<=1048576)(h3:∀s∈l.Global,s.aT.length<=1048576)(h4:∀s∈l.Own,s.aT.length<=1048576):iX l=some l:=by
 unfold iX
 rw [aJ5 l.Global]
 ·simp only [aE,M0,MZ]
  rw [aJ5 l.Own]
  ·rfl
  ·intro k hk
   have:=h4 _ (eN hk)
   simp only [DP]
   rw [if_pos (by simp;omega),aU hk]
   simp only [aE]
   rw [sU (by omega),aE,aN (by simp;omega),DO,aM (by omega) (by omega)];rfl
  ·simp [DP]
 ·intro k hk
  have:=h3 _ (eN hk)
  simp only [DR]
  rw [if_pos (by simp;omega),aU hk]
  simp only [aE]
  rw [sU (by omega),aE,aN (by simp;omega),DQ,aM (by omega) (by omega)];rfl
 ·simp [DR]
theorem aL2{h:aC}(h1:h.Bytes.length<=1048576)(h2:h.Class.length<=1048576):T7 h=some h:=by
 unfold T7;rw [GN (by omega),GN (by omega)];rfl
theorem RF{h:aC}(h1:h.Bytes.length<=1048576)(h2:h.Class.length<=1048576):uG h=some h:=by
 unfold uG;rw [sU (by omega),sU (by omega)];rfl
theorem aB1{m:Mem}(h:yZ m):T9 m=some m:=by
 have a:=aL2 h.1 h.2.1
 have b:=aJH h.2.2.1 h.2.2.2.1 h.aB0.1 h.aB0.2
 unfold T9;rw [a,b];rfl
theorem aN9{m:Mem}(h:yZ m):JS m=some m:=by
 have a:=RF h.1 h.2.1
 have b:=OK h.2.2.1 h.2.2.2.1 h.aB0.1 h.aB0.2
 unfold JS;rw [a,b];rfl
theorem mU{c:aD}(h:c.b9.length<=1048576):yD c=some c:=by
 unfold yD;rw [aN (by simp;omega)];rfl
theorem HY{c:aD}(h:c.b9.length<=1048576):m8 c=some c:=by
 unfold m8;rw [aL1 (by omega)];rfl
theorem W9{l:List bC}(hl:l.length<=1048576)(hs:∀s∈l,s.Rows.length<=1048576):m9 l=some l:=by
 unfold m9
 rw [ZX l]
 ·rfl
 ·intro k hk
  have:=hs _ (eN hk)
  simp only [DS]
  rw [if_pos (by simp;omega),aU hk]
  simp only [aE]
  rw [aJG (by omega),aE,aN (by simp;omega),aM (by omega) (by omega)];rfl
 ·simp [DS]
end Go.Gv
end
noncomputable section
namespace Go.Gv
theorem lG(w:Int):gH w=some (decide (0<=w/\w<=2)):=by
 unfold gH;rw [dX];rfl
noncomputable section
variable {c:aD} (hc:LU c) {w:Int} (hw:0<=w/\w<=2)
include hc
theorem LU.small:c.b9.length<=1048576/\c.b9.length<=maxLen:=by
 have:=hc.2.1;simp only [maxLen];omega
theorem LU.aL3{k:Nat}{p:pQ}(hp:POk c.aJ p):LU ⟨c.aJ,c.b9.set k p⟩:=⟨hc.1,by simpa using hc.2.1,fun q hq=>(pN hq).elim (hc.2.2 q) (fun e=>e ▸ hp)⟩
theorem LU.later(h:c.aJ+1<=100000):LU ⟨c.aJ+1,c.b9⟩:=by
 have h1:=hc.1
 exact⟨⟨by simp only;omega,h⟩,hc.2.1,fun q hq=>by
  obtain⟨a,b,d⟩:=hc.2.2 q hq
  exact⟨⟨a.1,by simp only;omega⟩,b,d⟩⟩
include hw
theorem aBG:∃p,idx c.b9 w=some p/\POk c.aJ p:=by
 have h3:=hc.2.1
 rw [fU hw.1 (by omega)]
 exact⟨_,rfl,hc.2.2 _ (eN _)⟩
theorem aTP(e:Int):∃r,IE c w e=some r/\M4 c w e=some r/\LU r.1/\r.1.aJ=c.aJ:=by
 obtain⟨p,hp,h1,⟨hs0,hs1⟩,h2⟩:=aBG hc hw
 have h3:=hc.2.1
 unfold IE M4
 rw [mU hc.small.1,HY hc.small.1,jA,uC hc.small.2,lG,b7,aZ hc,aZ hw]
 simp only [aE,dE,aQ,if_false,EY,D5,hp]
 cases h4:p.On
 ·exact⟨_,rfl,rfl,hc,rfl⟩
 ·cases h5:p.dB
  ·by_cases h6:p.aJ=e
   ·simp only [rF,qU,h6,beq_self_eq_true,if_true,dE,aQ,if_false]
    exact⟨_,rfl,rfl,hc,rfl⟩
   ·have h6':(p.aJ == e)=false:=by simpa using h6
    simp only [rF,qU,h6',dE,aQ,if_false,hp,aE]
    by_cases h7:p.Seen=2
    ·simp only [h7,beq_self_eq_true,if_true,show ¬((2:Int) < 2) by omega,decide_false,aQ,if_false]
     exact⟨_,rfl,rfl,hc.aL3 ⟨h1,by simp,fun q=>by simp [h4] at q⟩,rfl⟩
    ·have h7':(p.Seen == 2)=false:=by simpa using h7
     simp only [h7',show p.Seen < 2 by omega,decide_true,if_true,aQ,if_false]
     have hw7:aY (p.Seen+1)=p.Seen+1:=aM (by omega) (by omega)
     exact⟨_,rfl,rfl,hc.aL3 ⟨h1,by simp only [hw7];omega,fun q=>by simp [h4] at q⟩,rfl⟩
  ·exact⟨_,rfl,rfl,hc,rfl⟩
theorem aXZ(e:Int):∃r,LG c w e=some r/\QN c w e=some r/\(LU r.1/\r.1.aJ=c.aJ)/\(r.2=false->r.1=c):=by
 obtain⟨p,hp,hpk⟩:=aBG hc hw
 have h3:=hc.2.1
 unfold LG QN
 rw [mU hc.small.1,HY hc.small.1,jA,uC hc.small.2,lG,b7,b7,dX,aZ hc,aZ hw]
 simp only [aE,dE,aQ,if_false,AP,zL,hp]
 by_cases h:0<=e/\e<=c.aJ
 ·simp only [aZ h,dE,aQ,if_false]
  exact⟨_,rfl,rfl,⟨hc.aL3 ⟨h,by simp,fun q=>by cases q⟩,rfl⟩,fun q=>by cases q⟩
 ·simp only [bM h,iU,if_true]
  exact⟨_,rfl,rfl,⟨hc,rfl⟩,fun _=>rfl⟩
omit hw in
theorem a1F(e:Int):∃r,PH c e=some r/\VV c e=some r/\LU r.1/\c.aJ<=r.1.aJ:=by
 have h3:=hc.2.1
 unfold PH VV
 rw [mU hc.small.1,HY hc.small.1,jA,uC hc.small.2,aZ hc]
 simp only [aE,dE,aQ,if_false,EZ,D6]
 by_cases h:c.aJ=e
 ·subst h
  simp only [bne_self_eq_false,aQ,if_false]
  by_cases h:c.aJ=100000
  ·simp only [h,beq_self_eq_true,if_true];exact⟨_,rfl,rfl,hc,by simp [h]⟩
  ·have h':(c.aJ == 100000)=false:=by simpa using h
   have hE:=hc.1
   have hw7:aY (c.aJ+1)=c.aJ+1:=aM (by omega) (by omega)
   simp only [h',aQ,if_false,hw7];exact⟨_,rfl,rfl,hc.later (by omega),by simp only;omega⟩
 ·have h':(c.aJ != e)=true:=by simpa using h
  simp only [h',if_true];exact⟨_,rfl,rfl,hc,uQ _⟩
end
theorem a4I{b:aA}(hc:LU b.aD){w:Int}(hw:0<=w/\w<=2)(s:Sub) :
  ∃x y,IG b w s=some (x,y)/\xN s b w=some (y,x)/\∃cl,x=⟨b.Mem,cl,b.aO,b.l7⟩/\LU cl/\b.aD.aJ<=cl.aJ:=by
 obtain⟨r,e1,e2,h3,h4⟩:=aXZ hc hw s.E
 unfold IG xN
 rw [e1,e2]
 simp only [bK,bG,yX,aE]
 by_cases p0:s.Pc=0
 ·simp only [p0,beq_self_eq_true,if_true];exact⟨_,_,rfl,rfl,_,rfl,hc,by omega⟩
 ·have p0':(s.Pc == 0)=false:=by simpa using p0
  simp only [p0',aQ,if_false]
  by_cases p1:s.Pc=1
  ·simp only [p1,beq_self_eq_true,if_true]
   cases h:r.2
   ·rw [h4 h];exact⟨_,_,rfl,rfl,_,rfl,hc,by omega⟩
   ·exact⟨_,_,rfl,rfl,_,rfl,h3.1,by rw [h3.2];exact uQ _⟩
  ·have p1':(s.Pc == 1)=false:=by simpa using p1
   simp only [p1',aQ,if_false]
   by_cases p2:s.Pc=2
   ·simp only [p2,beq_self_eq_true,if_true]
    by_cases q:b.aD.aJ=s.E
    ·simp only [q,beq_self_eq_true,if_true];exact⟨_,_,rfl,rfl,_,rfl,hc,by omega⟩
    ·have q':(b.aD.aJ == s.E)=false:=by simpa using q
     simp only [q',aQ,if_false];exact⟨_,_,rfl,rfl,_,rfl,hc,by omega⟩
   ·have p2':(s.Pc == 2)=false:=by simpa using p2
    simp only [p2',aQ,if_false];exact⟨_,_,rfl,rfl,_,rfl,hc,by omega⟩
theorem aP6{b:aA}(hc:LU b.aD)(s:Sub) :
  ∃x y,tZ b s=some (x,y)/\oR s b=some (y,x)/\∃cl,x=⟨b.Mem,cl,b.aO,b.l7⟩/\LU cl/\b.aD.aJ<=cl.aJ:=by
 obtain⟨r2,e3,e4,h4⟩:=a1F hc s.E
 unfold tZ oR lP
 rw [e3,e4,b7,lG]
 simp only [bK,bG,sN,sO,lO,aE]
 by_cases p0:s.Pc=0
 ·simp only [p0,beq_self_eq_true,if_true];exact⟨_,_,rfl,rfl,_,rfl,hc,by omega⟩
 ·have p0':(s.Pc == 0)=false:=by simpa using p0
  simp only [p0',aQ,if_false]
  by_cases p1:s.Pc=1
  ·simp only [p1,beq_self_eq_true,if_true,show((1:Int) == 2)=false from rfl,aQ,if_false]
   by_cases hB:0<=s.B/\s.B<=2
   ·obtain⟨r,e1,e2,h3,h3'⟩:=aTP hc hB s.E
    simp only [aZ hB,dE,aQ,if_false,if_true,e1,e2,aE]
    cases h:r.2
    ·exact⟨_,_,rfl,rfl,_,rfl,h3,by rw [h3'];exact uQ _⟩
    ·by_cases q:aY (s.B+1)=3
     ·simp only [q,beq_self_eq_true,if_true,dE,aQ,if_false];exact⟨_,_,rfl,rfl,_,rfl,h3,by rw [h3'];exact uQ _⟩
     ·have q':(aY (s.B+1) == 3)=false:=by simpa using q
      simp only [q',dE,aQ,if_false];exact⟨_,_,rfl,rfl,_,rfl,h3,by rw [h3'];exact uQ _⟩
   ·simp only [bM hB,iU,aQ,if_false,if_true]
    exact⟨_,_,rfl,rfl,_,rfl,hc,by omega⟩
  ·have p1':(s.Pc == 1)=false:=by simpa using p1
   simp only [p1',aQ,if_false]
   by_cases p2:s.Pc=2
   ·simp only [p2,beq_self_eq_true,if_true]
    cases h:r2.2
    ·simp only [aQ,if_false];exact⟨_,_,rfl,rfl,_,rfl,h4⟩
    ·simp only [if_true];exact⟨_,_,rfl,rfl,_,rfl,h4⟩
   ·have p2':(s.Pc == 2)=false:=by simpa using p2
    simp only [p2',aQ,if_false];exact⟨_,_,rfl,rfl,_,rfl,hc,by omega⟩
end Go.Gv
end
