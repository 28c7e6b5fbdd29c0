import Derived.Test.YtejjbceagmbdhaaGreatXTE
set_option linter.unusedVariables false
set_option linter.unusedSimpArgs false
set_option linter.unusedSectionVars false
set_option linter.constructorNameAsVariable false
set_option linter.unnecessarySimpa false
noncomputable section
set_option maxHeartbeats 4000000
set_option maxRecDepth 100000
namespace Go.Proofs.YtejjbceagmbdhaaGreat
open Go.Gv Tryz
noncomputable section
variable {κ:Ctx}
theorem Q1{s:Sub}{b:aB}{w_:Int}{s1 s2 s3 s4 s5 s6 s7:AC}{b0 b1:Nat×Nat}:VS prog κ 195 (mU s b w_) [.p 0 0,.p 1 0,I w_] [b0,b1] ([.box 0 [I s.Kind,I s.A,I s.Pc,I s.E,I s.Row,I s.B,I s.H,I s.Out,I s.Code,.b s.dS],.box 1 (gB b s1 s2 s3 s4 s5 s6 s7)]++(oBs b s1 s2 s3 s4 s5 s6 s7 [])) (fun(r:Sub×aB) (y:Unit)=>.t []) (fun(r:Sub×aB) (y:Unit)=>([.box 0 [I r.1.Kind,I r.1.A,I r.1.Pc,I r.1.E,I r.1.Row,I r.1.B,I r.1.H,I r.1.Out,I r.1.Code,.b r.1.dS],.box 1 (gB r.2 s1 s2 s3 s4 s5 s6 s7)]++(oBs r.2 s1 s2 s3 s4 s5 s6 s7 []))):=
 cX tok call195 func195 results195 Q Q<|fun hF=>a0H Q Q Q Q<|wi hF<|WQ 6 [0,1,2] [0,2,3,4,5,6,7,8,1] Out.brk [0,1] [0,2,3,4,5,6,7,8,1] Q Q (fun hF1 x2 hr1=>mC B9 6 Q Q Q fun x4 h1 s8 h2=>fun hG1=>kC 2 h2 h1 Q Q Q Q Q<|wi hG1<|bY [23] Q Q (fun hG1=>kC 2 h2 h1 Q Q Q Q Q<|wi hG1<|mC WS 12 Q Q Q fun x5 h3 _ h4=>fun hG1=>kC 3 h4 h3 Q Q Q Q Q<|wi hG1<|jZ aD [0,8,11,15,16] Q<|c0 Q (fun _=>WT) fun x6=>bY [42] Q Q (jZ aD [8,11,15,16] Q<|fun hG1=>sR Q<|iB WS 13 [] h3 () Q Q Q Q Q Q Q<|iB B9 9 [17] h1 s8 Q Q Q Q Q Q Q<|fR Q Q<|oW (hT:=tok) () [0,8,1,2,3,4,5,18,7] (re hG1 Q hr1 hF1) Q results195 Q Q Q Q)<|fun hG1=>sF Q<|iB WS 13 [] h3 () Q Q Q Q Q Q Q<|iB B9 9 [17] h1 s8 Q Q Q Q Q Q Q<|fR Q Q<|nxR () [0,1,2,3,4,5,18,7,8] hG1 Q)<|fun hG1=>sX Q<|iB B9 9 [12] h1 s8 Q Q Q Q Q Q Q<|bkR () [0,1,2,3,4,5,13,7,8] hG1 hr1 Q)<|wm (F:=DI s b) Q<|dR 0 0 0 10 [] Q Q Q Q Q (fun _=>cD) fun x3 _=>BH () [0,8,1,2,3,4,5,6,7] Q Q
theorem PN{s:List dI}{i j:Int}{s1:AC}:VS prog κ 241 (xU s i j) [.h s1 s.length,I i,I j] [] [ow s1 (s:List dI)] (fun(r:(List dI)) (y:AC)=>.h y r.length) (fun(r:(List dI)) (y:AC)=>[ow y r]):=
 cX tok call241 func241 results241 Q Q<|fun hF=>cpc 0 Q Q fun hc1=>aKK hc1 Q Q Q Q Q Q Q Q hF fun hF h1=>wi hF<|bY [16] Q Q (lE s1 [0] Q Q)<|jZ aD [] Q<|fun hF=>aKI hc1 Q Q Q Q Q Q hF fun hF h2=>aFQ hc1 Q Q Q Q Q Q hF fun hF h3=>nd hF fun hab hF=>ap2 0 i.toNat j.toNat ⟨hab,h3.1⟩ Q Q Q Q Q Q Q Q Q fun h4=>aSF 0 (i.toNat+(s.length - j.toNat)) h4.2 (tE h4.1 h4.2) Q Q Q Q Q Q Q Q Q hF fun hF h5=>clr 0 (((((cA s i.toNat (s.drop j.toNat)).take (i.toNat+(s.length - j.toNat))).drop 0).length:Int).toNat) ((s.length:Int).toNat) ((⟨0,0⟩:dI):dI) h5 DR Q (fun _=>(aV0 (⟨0,0⟩:dI))) Q Q Q Q Q Q Q Q<|sR Q<|poR 0 0 (i.toNat+(s.length - j.toNat)) Q Q (aKJ h4 (qZ h5.1 h5.2)) (aFR (NC (by rw [I6,tE h4.1 h4.2];rfl)) (qZ h5.1 h5.2))<|oW (hT:=tok) (AC.sub s1 2 0) [0] hF Q results241 Q Q Q Q
theorem aA3{l:List a8}{w_ i:Int}{s1:AC}(h1:cZ κ s1 l):VS prog κ 197 (FI l w_ i) [.h s1 l.length,I w_,I i] [] [] (fun r (y:AC)=>.t [.h y r.1.length,.b r.2]) (fun r y=>[ow y r.1]):=
 cX tok call197 func197 results197 Q Q<|c1 Q (fun h=>uD (h.a h1)) fun x1 s2=>fW 0 0 (wQ w_ i x1) [1,2,8] 20 [0] Q (c0 Q (fun h=>G3 (h.a h1)) fun x5=>iV [13,14] Q Q (cY [0] Q Q)<|c0 Q (fun h=>RP (h.a h1)) fun x6=>cY [0] Q Q) fun x2=>bY [20] Q Q (lE s2 [0] Q Q)<|mC B9 0 Q Q Q fun x3 h2 s3 h3=>fun hF=>kC 0 h3 h2 Q Q Q Q Q<|wi hF<|HM [4] Q Q Q Q (fun _=>PN) fun x4 s4=>fun hF=>kC 0 h3 h2 Q Q Q Q Q<|sR Q<|lJ B9 1 [5] [6,8,22,24,35] (⟨x4⟩:a8) s4 Q Q Q Q Q Q Q Q<|oW (hT:=tok) s2 [6] hF Q results197 Q Q Q Q
theorem MU{s:Sub}{b:aB}{w_:Int}{s1 s2 s3 s4 s5 s6 s7:AC}{b0 b1:Nat×Nat}:VS prog κ 146 (mV s b w_) [.p 0 0,.p 1 0,I w_] [b0,b1] ([.box 0 [I s.Kind,I s.A,I s.Pc,I s.E,I s.Row,I s.B,I s.H,I s.Out,I s.Code,.b s.dS],.box 1 (gB b s1 s2 s3 s4 s5 s6 s7)]++(oBs b s1 s2 s3 s4 s5 s6 s7 [])) (fun(r:Sub×aB) (y:A5C)=>.t []) (fun(r:Sub×aB) (y:A5C)=>([.box 0 [I r.1.Kind,I r.1.A,I r.1.Pc,I r.1.E,I r.1.Row,I r.1.B,I r.1.H,I r.1.Out,I r.1.Code,.b r.1.dS],.box 1 (gB r.2 y.1 y.2.1 y.2.2.1 y.2.2.2.1 s5 y.2.2.2.2 s7)]++(oBs r.2 y.1 y.2.1 y.2.2.1 y.2.2.2.1 s5 y.2.2.2.2 s7 []))):=
 cX tok call146 func146 results146 Q Q<|fW 0 2 (eT s b w_) [0,1,2] 6 [0,2,3,4,5,6,7,8,1] Q (jZ aD [0,1] Q<|c0 Q (fun h=>RP (h.o 7 Q)) fun x13=>iV [16,17] Q Q (mC B9 7 Q Q Q fun x14 h7 s11 h8=>fun hF=>kC 2 h8 h7 Q Q Q Q Q<|wi hF<|mC WS 12 Q Q Q fun x15 h9 _ h10=>fun hF=>kC 3 h10 h9 Q Q Q Q Q<|sF Q<|iB WS 13 [] h9 () Q Q Q Q Q Q Q<|iB B9 9 [16] h7 s11 Q Q Q Q Q Q Q<|fR Q Q<|jY () [0,2,3,4,5,6,17,8,1] hF Q)<|cY [0,2,3,4,5,6,7,8,1] Q Q) fun x1=>bY [41,46] Q Q (BH (s1,s2,s3,s4,s6) [0,8,1,2,3,4,5,6,7] Q Q)<|bY [61,66] Q Q (aFV 0 0 0 10 8 1 0 8 [1,2,3,4,5,6,7] Q Q Q Q Q (fun _=>Q1) fun x2 _=>BH (s1,s2,s3,s4,s6) [0,8,9,10,11,12,13,14,15] Q Q)<|fW 0 2 (dO s b w_ x1) [0,1,2,6] 71 [0,1,2,3,4,5,6,7,8] Q (iV [76,77] Q Q (c0 Q (fun _=>gD) fun x12=>iV [82,83,84] Q Q (cY [0,1,2,3,4,5,6,7,8] Q Q)<|cY [0,1,2,3,4,5,6,7,8] Q Q)<|cY [0,1,2,3,4,5,6,7,8] Q Q) fun x3=>bY [71] Q Q (jZ aD [0,8] Q<|mC oI 7 Q Q Q fun x4 h1 _ h2=>fun hF=>kC 2 h2 h1 Q Q Q Q Q<|wi hF<|bY [101] Q Q (fun hF=>sR Q<|iB oI 9 [] h1 () Q Q Q Q Q Q Q<|oW (hT:=tok) (s1,s2,s3,s4,s6) [0,8,1,2,3,4,5,6,12] hF Q results146 Q Q Q Q)<|bY [124] Q Q (fun hF=>sF Q<|iB oI 9 [] h1 () Q Q Q Q Q Q Q<|oW (hT:=tok) (s1,s2,s3,s4,s6) [0,8,1,2,3,4,5,6,12] hF Q results146 Q Q Q Q)<|fun hF=>sF Q<|iB oI 9 [] h1 () Q Q Q Q Q Q Q<|oW (hT:=tok) (s1,s2,s3,s4,s6) [0,8,1,2,3,4,5,6,12] hF Q results146 Q Q Q Q)<|fW 0 2 (cO s b w_) [0,1,2] 128 [0,1,2,3,4,5,6,7,8] Q (jZ aD [0,8] Q<|iV [133,134] Q Q (iV [6,135,136,137] Q Q (mC B9 6 Q Q Q fun x9 h3 s10 h4=>fun hF=>kC 2 h4 h3 Q Q Q Q Q<|wi hF<|mC WS 12 Q Q Q fun x10 h5 _ h6=>fun hF=>kC 3 h6 h5 Q Q Q Q Q<|wi hF<|c0 Q (fun _=>WT) fun x11=>fun hF=>sF Q<|iB WS 13 [] h5 () Q Q Q Q Q Q Q<|iB B9 9 [16] h3 s10 Q Q Q Q Q Q Q<|fR Q Q<|jY () [0,1,2,3,4,5,17,7,8] hF Q)<|cY [0,1,2,3,4,5,6,7,8] Q Q)<|cY [0,1,2,3,4,5,6,7,8] Q Q) fun x5=>bY [128] Q Q (jZ aD [0] Q<|c1 Q (fun h=>aA3 (h.o 6 Q)) fun x6 s8=>jZ aD [0] Q<|c1 Q (fun h=>T2 (h.o 1 Q) (h.o 2 Q) (h.o 3 Q) (h.o 4 Q)) fun x7 s9=>BH (s9.1,s9.2.1,s9.2.2.1,s9.2.2.2,s8) [0,8,10,11,12,13,5,9,7] Q Q)<|dR 0 0 0 10 [] Q Q Q Q Q (fun _=>cD) fun x8 _=>BH (s1,s2,s3,s4,s6) [0,8,1,2,3,4,5,6,7] Q Q
theorem T3{c:aJ}{w_ e_:Int}{s1:AC}(h1:cZ κ s1 c.cN):VS prog κ 198 (ME c w_ e_) [.g [I c.aN,.h s1 c.cN.length],I w_,I e_] [] [] (fun r (y:AC)=>.t [.g [I r.1.aN,.h y r.1.cN.length],.b r.2]) (fun r y=>[ow y r.1.cN]):=
 cX tok call198 func198 results198 Q Q<|c1 Q (fun h=>uE (h.a h1)) fun x1 s2=>fW 0 3 (vN w_ e_ x1) [1,2,6,8] 25 [1,2,3] Q (c0 Q (fun h=>A4 (h.a h1)) fun x4=>iV [13,14] Q Q (cY [1,2,3] Q Q)<|c0 Q (fun _=>gD) fun x5=>iV [17,18,19] Q Q (cY [1,2,3] Q Q)<|c0 Q (fun _=>bP) fun x6=>cY [1,2,3] Q Q) fun x2=>bY [25] Q Q (lE s2 [1] Q Q)<|mC QZ 1 Q Q Q fun x3 h2 _ h3=>fun hF=>kC 3 h3 h2 Q Q Q Q Q<|sR Q<|lJ QZ 3 [] [28] (⟨true,e_,false,0⟩:qT) () Q Q Q Q Q Q Q Q<|nT s2 b9.symm [(33,1)] [(0,1),(2,1)] Q Q Q<|fR Q Q<|oW (hT:=tok) s2 [6] hF Q results198 Q Q Q Q
theorem SJ{s:Sub}{b:aB}{w_:Int}{s1 s2 s3 s4 s5 s6 s7:AC}{b0 b1:Nat×Nat}:VS prog κ 147 (tP s b w_) [.p 0 0,.p 1 0,I w_] [b0,b1] ([.box 0 [I s.Kind,I s.A,I s.Pc,I s.E,I s.Row,I s.B,I s.H,I s.Out,I s.Code,.b s.dS],.box 1 (gB b s1 s2 s3 s4 s5 s6 s7)]++(oBs b s1 s2 s3 s4 s5 s6 s7 [])) (fun(r:Sub×aB) (y:AC)=>.t []) (fun(r:Sub×aB) (y:AC)=>([.box 0 [I r.1.Kind,I r.1.A,I r.1.Pc,I r.1.E,I r.1.Row,I r.1.B,I r.1.H,I r.1.Out,I r.1.Code,.b r.1.dS],.box 1 (gB r.2 s1 s2 s3 s4 y s6 s7)]++(oBs r.2 s1 s2 s3 s4 y s6 s7 []))):=
 cX tok call147 func147 results147 Q Q<|bY [14,15] Q Q (BH s5 [0,1,2,3,4,5,6,7,8] Q Q)<|bY [27,28] Q Q (dZ 0 3 (fun(p:Bool×Int×(List qT))=>uV s b p.1 p.2.1 p.2.2) [0,1] (fun(p:Bool×Int×(List qT)) (s8:AC)=>[(6,.p 2 0),(7,.b p.1)]) [0,2,3,4,5,6,7,8,1] (fun p s8=>[ow s8 (p.2.2:List qT),.box 2 [I p.2.1,.h s8 p.2.2.length]]) Q (jZ aD [0,1] Q<|fun hF=>bd hF fun x5 hA1 hF=>cQ Q Q (have hq1:=rb hA1;wi hq1<|c1 Q (fun h=>T3 (h.o 6 Q)) fun u1 s10=>fun hq1=>match u1,hq1 with | _,rfl=>wi hF<|qH (p:=(x5.2,x5.1.aN,x5.1.cN)) s10 [9,10,0,2,3,4,5,6,7,8,1] Q Q) (have hq2:=rb hA1;wi hq2<|c1 Q (fun h=>T3 (h.o 6 Q)) fun u2 s11=>fun hq2=>match u2,hq2 with | _,rfl=>wi hF<|qH (p:=(x5.2,x5.1.aN,x5.1.cN)) s11 [10,9,0,2,3,4,5,6,7,8,1] Q Q)) fun⟨x1,x2,x3⟩ s8=>bY [43] Q Q (dR 2 0 0 10 [] Q Q Q Q Q (fun _=>cD) fun x4 _=>lE s5 [2,10,3,4,5,6,7,8,9] Q Q)<|BH s8 [2,10,3,4,5,6,0,8,9] Q Q)<|bY [53,54] Q Q (jZ aD [0,1] Q<|bY [64] Q Q (dR 0 0 0 10 [] Q Q Q Q Q (fun _=>cD) fun x6 _=>BH s5 [0,1,2,3,4,5,6,7,8] Q Q)<|BH s5 [0,1,2,3,4,5,6,7,8] Q Q)<|dR 0 0 0 10 [] Q Q Q Q Q (fun _=>cD) fun x7 _=>BH s5 [0,1,2,3,4,5,6,7,8] Q Q
theorem EL{s:Sub}{b:aB}{w_:Int}{s1 s2 s3 s4 s5 s6 s7:AC}{b0 b1:Nat×Nat}:VS prog κ 99 (m8 s b w_) [.p 0 0,.p 1 0,I w_] [b0,b1] ([.box 0 [I s.Kind,I s.A,I s.Pc,I s.E,I s.Row,I s.B,I s.H,I s.Out,I s.Code,.b s.dS],.box 1 (gB b s1 s2 s3 s4 s5 s6 s7)]++(oBs b s1 s2 s3 s4 s5 s6 s7 [])) (fun(r:Sub×aB) (y:A6C)=>.t []) (fun(r:Sub×aB) (y:A6C)=>([.box 0 [I r.1.Kind,I r.1.A,I r.1.Pc,I r.1.E,I r.1.Row,I r.1.B,I r.1.H,I r.1.Out,I r.1.Code,.b r.1.dS],.box 1 (gB r.2 y.1 y.2.1 y.2.2.1 y.2.2.2.1 y.2.2.2.2.1 y.2.2.2.2.2 s7)]++(oBs r.2 y.1 y.2.1 y.2.2.1 y.2.2.2.1 y.2.2.2.2.1 y.2.2.2.2.2 s7 []))):=
 cX tok call99 func99 results99 Q Q<|bY [9] Q Q (lE (s1,s2,s3,s4,s5,s6) [0,1,2,3,4,5,6,7,8] Q Q)<|bY [16,17] Q Q (aFV 0 0 0 10 1 1 0 8 [2,3,4,5,6,7,8] Q Q Q Q Q (fun _=>PL) fun x1 s8=>BH (s8.1,s8.2.1,s8.2.2.1,s8.2.2.2,s5,s6) [0,1,9,10,11,12,13,14,15] Q Q)<|bY [22,23] Q Q (aFV 0 0 0 10 1 1 0 8 [2,3,4,5,6,7,8] Q Q Q Q Q (fun _=>OF) fun x2 s9=>BH (s1,s2,s3,s4,s5,s9) [0,1,9,10,11,12,13,14,15] Q Q)<|bY [28,29] Q Q (aFV 0 0 0 10 1 1 0 8 [2,3,4,5,6,7,8] Q Q Q Q Q (fun _=>MT) fun x3 s10=>BH (s1,s2,s3,s4,s10,s6) [0,1,9,10,11,12,13,14,15] Q Q)<|bY [33,34] Q Q (aFV 0 0 0 10 1 1 0 8 [2,3,4,5,6,7,8] Q Q Q Q Q (fun _=>MU) fun x4 s11=>BH (s11.1,s11.2.1,s11.2.2.1,s11.2.2.2.1,s5,s11.2.2.2.2) [0,1,9,10,11,12,13,14,15] Q Q)<|bY [39,40] Q Q (aFV 0 0 0 10 1 1 0 8 [2,3,4,5,6,7,8] Q Q Q Q Q (fun _=>SJ) fun x5 s12=>BH (s1,s2,s3,s4,s12,s6) [0,1,9,10,11,12,13,14,15] Q Q)<|dR 0 0 0 10 [] Q Q Q Q Q (fun _=>cD) fun x6 _=>BH (s1,s2,s3,s4,s5,s6) [0,1,2,3,4,5,6,7,8] Q Q
theorem PO{t:Table}{w_:Int}{s1 s2 s3 s4 s5 s6 s7 s8 s9 s10 s11:AC}{b0:Nat×Nat}:VS prog κ 48 (pC t w_) [.p 0 0,I w_] [b0] ([.box 0 (OE t s1 s2 s3 s4 s5 s6 s7 s8 s9 s10 s11)]++(OL t s1 s2 s3 s4 s5 s6 s7 s8 s9 s10 s11 [])) (fun(r:Table) (y:A6C)=>.t []) (fun(r:Table) (y:A6C)=>([.box 0 (OE r y.1 y.2.1 y.2.2.1 y.2.2.2.1 y.2.2.2.2.1 y.2.2.2.2.2 s7 s8 s9 s10 s11)]++(OL r y.1 y.2.1 y.2.2.1 y.2.2.2.1 y.2.2.2.2.1 y.2.2.2.2.2 s7 s8 s9 s10 s11 []))):=
 cX tok call48 func48 results48 Q Q<|mC aS 9 Q Q Q fun x1 h1 s12 h2=>fun hF=>kC 1 h2 h1 Q Q Q Q Q<|wi hF<|jZ aD [14] Q<|aFV 13 1 16 10 0 0 0 8 [1,2,3,4,5,6,7] Q Q Q Q Q (fun _=>EL) fun x2 s13=>bY [24] Q Q (fun hF=>sR Q<|lJ aS 12 [15,16,17,18,19,20,21] [8] ({x1 with Sub:=x2.1}:aG) s12 Q Q Q Q Q Q Q Q<|fR Q Q<|nT s9 b9.symm [] [(0,9)] Q Q Q<|fR Q Q<|oW (hT:=tok) s13 [0,22,23,24,25,26,27,28,8,29,10,11] hF Q results48 Q Q Q Q)<|bY [32,33] Q Q (fun hF=>sF Q<|lJ aS 12 [15,16,17,18,19,20,21] [8] ({x1 with Pc:=1,Sub:=x2.1}:aG) s12 Q Q Q Q Q Q Q Q<|fR Q Q<|nT s9 b9.symm [] [(0,9)] Q Q Q<|fR Q Q<|oW (hT:=tok) s13 [0,22,23,24,25,26,27,28,8,29,10,11] hF Q results48 Q Q Q Q)<|bY [37,38] Q Q (c0 Q (fun _=>nA) fun x3=>fun hF=>sF Q<|lJ aS 12 [15,16,17,18,19,20,21] [8] ({x1 with Pc:=21,Sub:=x3}:aG) s12 Q Q Q Q Q Q Q Q<|fR Q Q<|nT s9 b9.symm [] [(0,9)] Q Q Q<|fR Q Q<|oW (hT:=tok) s13 [0,22,23,24,25,26,27,28,8,29,10,11] hF Q results48 Q Q Q Q)<|fun hF=>sF Q<|lJ aS 12 [15,16,17,18,19,20,21] [8] ({x1 with Pc:=19,Sub:=x2.1}:aG) s12 Q Q Q Q Q Q Q Q<|fR Q Q<|nT s9 b9.symm [] [(0,9)] Q Q Q<|fR Q Q<|oW (hT:=tok) s13 [0,22,23,24,25,26,27,28,8,29,10,11] hF Q results48 Q Q Q Q
theorem EX{j:aG}{s1 s2 s3 s4 s5 s6 s7:AC}{b0:Nat×Nat}:VS prog κ 100 (mW j) [.p 0 0] [b0] [.box 0 [.b j.eA,.b j.Batch.Collect,.h s1 j.Batch.bK.length,I j.aE,I j.Pc,I j.At,I j.K,I j.bV,I j.fX,I j.H,I j.fP,I j.Node.Key,I j.Node.eH,I j.Node.Next,.b j.Found,I j.Code,I j.Sub.Kind,I j.Sub.A,I j.Sub.Pc,I j.Sub.E,I j.Sub.Row,I j.Sub.B,I j.Sub.H,I j.Sub.Out,I j.Sub.Code,.b j.Sub.dS,.h s2 j.Reads.length,.h s3 j.aL.length,.h s4 j.eN.length,.h s5 j.fQ.length,.h s6 j.bR.length,.h s7 j.cE.length],ow s1 (j.Batch.bK:List iD),ow s2 (j.Reads:List Seen),ow s3 (j.aL:List aU),ow s4 (j.eN:List eN),ow s5 (j.fQ:List Int),ow s6 (j.bR:List Int),ow s7 (j.cE:List Int)] (fun(r:iD×Bool×aG) (y:Unit)=>.t [.g [I r.1.Kind,I r.1.Key,I r.1.eH],.b r.2.1]) (fun(r:iD×Bool×aG) (y:Unit)=>[.box 0 [.b r.2.2.eA,.b r.2.2.Batch.Collect,.h s1 r.2.2.Batch.bK.length,I r.2.2.aE,I r.2.2.Pc,I r.2.2.At,I r.2.2.K,I r.2.2.bV,I r.2.2.fX,I r.2.2.H,I r.2.2.fP,I r.2.2.Node.Key,I r.2.2.Node.eH,I r.2.2.Node.Next,.b r.2.2.Found,I r.2.2.Code,I r.2.2.Sub.Kind,I r.2.2.Sub.A,I r.2.2.Sub.Pc,I r.2.2.Sub.E,I r.2.2.Sub.Row,I r.2.2.Sub.B,I r.2.2.Sub.H,I r.2.2.Sub.Out,I r.2.2.Sub.Code,.b r.2.2.Sub.dS,.h s2 r.2.2.Reads.length,.h s3 r.2.2.aL.length,.h s4 r.2.2.eN.length,.h s5 r.2.2.fQ.length,.h s6 r.2.2.bR.length,.h s7 r.2.2.cE.length],ow s1 r.2.2.Batch.bK,ow s2 r.2.2.Reads,ow s3 r.2.2.aL,ow s4 r.2.2.eN,ow s5 r.2.2.fQ,ow s6 r.2.2.bR,ow s7 r.2.2.cE]):=
 cX tok call100 func100 results100 Q Q<|jZ aD [0,8] Q<|c0 Q (fun _=>bP) fun x1=>bY [16] Q Q (lE () [0,1,2,3,4,5,6,7] Q Q)<|jZ aD [0] Q<|mC aKS 1 Q Q Q fun x2 h1 _ h2=>fun hF=>kC 2 h2 h1 Q Q Q Q Q<|sR Q<|iB aKS 9 [] h1 () Q Q Q Q Q Q Q<|oW (hT:=tok) () [0,12,2,3,4,5,6,7] hF Q results100 Q Q Q Q
theorem dB{j:aG}{code:Int}{s1 s2 s3 s4 s5 s6 s7:AC}{b0:Nat×Nat}:VS prog κ 60 (bZ j code) [.p 0 0,I code] [b0] [.box 0 [.b j.eA,.b j.Batch.Collect,.h s1 j.Batch.bK.length,I j.aE,I j.Pc,I j.At,I j.K,I j.bV,I j.fX,I j.H,I j.fP,I j.Node.Key,I j.Node.eH,I j.Node.Next,.b j.Found,I j.Code,I j.Sub.Kind,I j.Sub.A,I j.Sub.Pc,I j.Sub.E,I j.Sub.Row,I j.Sub.B,I j.Sub.H,I j.Sub.Out,I j.Sub.Code,.b j.Sub.dS,.h s2 j.Reads.length,.h s3 j.aL.length,.h s4 j.eN.length,.h s5 j.fQ.length,.h s6 j.bR.length,.h s7 j.cE.length],ow s1 (j.Batch.bK:List iD),ow s2 (j.Reads:List Seen),ow s3 (j.aL:List aU),ow s4 (j.eN:List eN),ow s5 (j.fQ:List Int),ow s6 (j.bR:List Int),ow s7 (j.cE:List Int)] (fun(r:aG) (y:Unit)=>.t []) (fun(r:aG) (y:Unit)=>[.box 0 [.b r.eA,.b r.Batch.Collect,.h s1 r.Batch.bK.length,I r.aE,I r.Pc,I r.At,I r.K,I r.bV,I r.fX,I r.H,I r.fP,I r.Node.Key,I r.Node.eH,I r.Node.Next,.b r.Found,I r.Code,I r.Sub.Kind,I r.Sub.A,I r.Sub.Pc,I r.Sub.E,I r.Sub.Row,I r.Sub.B,I r.Sub.H,I r.Sub.Out,I r.Sub.Code,.b r.Sub.dS,.h s2 r.Reads.length,.h s3 r.aL.length,.h s4 r.eN.length,.h s5 r.fQ.length,.h s6 r.bR.length,.h s7 r.cE.length],ow s1 r.Batch.bK,ow s2 r.Reads,ow s3 r.aL,ow s4 r.eN,ow s5 r.fQ,ow s6 r.bR,ow s7 r.cE]):=
 cX tok call60 func60 results60 Q Q<|BH () [0,1,2,3,4,5,6,7] Q Q
theorem nB{s:List aU}{f:(aU->Option Bool)}{s1:AC}{g_f:FuncId}{cap_f:List Value}(h1:cZ κ s1 s)(h_f:SS prog κ (SD:CB aU) .b g_f cap_f f):V0 prog κ 150 (cB s f) [.h s1 s.length,.k (.func (.func g_f) #[] cap_f.toArray)] I:=
 cX tok call150 func150 results150 Q Q<|WQ 8 [0,1,7] [] Out.brk [] [] Q Q (fun hF1 x2 hr1=>bY [9] Q Q (JC SD Q h1 Q fun x3 _ _=>fun hG1=>fa1 h_f x3 () Q Q Q Q Q trivial hG1 fun x4 _ hG1=>wi hG1<|bY [16] Q Q (U0 hr1 hF1<|eJ Q Q)<|QO [] Q)<|OC [] Q)<|eJ Q Q
theorem HV{s:List aU}{del:(aU->Option Bool)}{s1:AC}{g_del:FuncId}{cap_del:List Value}(h_del:SS prog κ (SD:CB aU) .b g_del cap_del del):VS prog κ 199 (hQ s del) [.h s1 s.length,.k (.func (.func g_del) #[] cap_del.toArray)] [] [ow s1 (s:List aU)] (fun(r:(List aU)) (y:AC)=>.h y r.length) (fun(r:(List aU)) (y:AC)=>[ow y r]):=
 cX tok call199 func199 results199 Q Q<|c0 Q (fun h=>nB (h.o 0 Q) (h.u1 h_del)) fun x1=>bY [12] Q Q (lE s1 [0] Q Q)<|R8 () [1] (fun(p:(List aU)×Int×Int) (_:Unit)=>[(0,.h s1 p.1.length),(5,I p.2.1),(6,I p.2.2)]) [0] [] (fun p _=>[ow s1 (p.1:List aU)]) id [] (fun(p:(List aU)×Int) (_:Unit)=>[(0,.h s1 p.1.length),(5,I p.2)]) [] (fun p _=>[ow s1 (p.1:List aU)]) Q Q (fun hF1 ⟨x5,x6,x7⟩ _ hr1=>bY [19] Q Q (dZ 2 0 (fun(p:(List aU)×Int)=>fZ x7 p.1 p.2) [1,6] (fun(p:(List aU)×Int) (_:Unit)=>[(0,.h s1 p.1.length),(5,I p.2)]) [] (fun p _=>[ow s1 (p.1:List aU)]) Q (mC vF 0 Q Q Q fun x12 h3 _ h4=>fun hG1=>kC 0 h4 h3 Q Q Q Q Q<|fa1 h_del x12 () Q Q Q Q Q trivial hG1 fun x13 _ hG1=>wi hG1<|bY [29] Q Q (fun hG1=>D4 vF 1 [] h3 () Q Q Q Q Q Q Q Q Q<|wi hG1<|mC vF 5 Q Q Q fun x14 h5 _ h6=>fun hG1=>kC 2 h6 h5 Q Q Q Q Q<|sF Q<|lJ vF 6 [] [0,17,22,30] x12 () Q Q Q Q Q Q Q Q<|jY (p:=(x5.set x6.toNat x12,aZ (x6+1))) () [9] hG1 Q)<|fun hG1=>sF Q<|iB vF 1 [] h3 () Q Q Q Q Q Q Q<|jY (p:=(x5,x6)) () [5] hG1 Q) fun⟨x10,x11⟩ _=>QO [0] Q)<|OC [0] Q) fun⟨x8,x9⟩ _=>fun hF=>cpc 0 Q Q fun hc1=>aFQ hc1 Q Q Q Q Q Q hF fun hF h1=>clr 0 x9.toNat x8.length ((⟨0,false,0⟩:aU):aU) h1 sO Q (fun _=>(aS1 (⟨0,false,0⟩:aU))) Q Q Q Q Q Q Q Q<|rr s1 (eG (xs:=List.replicate (x8.length - x9.toNat) (⟨0,false,0⟩:aU)) (qZ h1.1 h1.2)).symm [0,36] [] [] Q Q Q Q<|cpc 0 Q Q fun hc2=>aKI hc2 Q Q Q Q Q Q hF fun hF h2=>sR Q<|poR 0 0 x9.toNat Q Q h2 Q<|oW (hT:=tok) (AC.sub s1 3 0) [0] hF Q results199 Q Q Q Q
theorem PQ{s:List aU}{s1:AC}(h1:cZ κ s1 s):VS prog κ 200 (xV s) [.h s1 s.length] [] [] (fun r (y:AC)=>.h y r.length) (fun r y=>[ow y r]):=
 cX tok call200 func200 results200 Q Q<|fun hF=>eqn Q Q Q Q (fun h2=>have hF:=cln h1 h2 hF;sR Q<|BG aU<|oW (hT:=tok) ⟨none,0⟩ [0] hF Q results200 Q Q Q Q)<|lt0 (α:=aU) sO Q Q Q Q fun s2=>ap 0 sO Q Q Q Q Q Q Q (fun h=>(h.a h1)) Q Q hF fun hF s3=>wi hF<|lE s3 [0] Q Q
theorem T4{x k0:aU}{b0:Nat×Nat}:VS prog κ 201 (D9 x k0) [.g [I x.Key,.b x.HJ,I x.eH],.p 0 0] [b0] [.ro 0 [I k0.Key,.b k0.HJ,I k0.eH]] (fun r (_:Unit)=>.b r) (fun _ _=>[]):=
 cX tok call201 func201 results201 Q Q<|eJ Q Q
theorem T5{x k0:aU}{b0:Nat×Nat}:VS prog κ 202 (wR x k0) [.g [I x.Key,.b x.HJ,I x.eH],.p 0 0] [b0] [.ro 0 [I k0.Key,.b k0.HJ,I k0.eH]] (fun r (_:Unit)=>.b r) (fun _ _=>[]):=
 cX tok call202 func202 results202 Q Q<|eJ Q Q
theorem OG{s v:List aU}{i:Int}{s1 s2:AC}:VS prog κ 203 (nL s i v) [.h s1 s.length,I i,.h s2 v.length] [] [ow s1 s,.o (cLs s2 v)] (fun(r:(List aU)) (y:AC)=>.h y r.length) (fun(r:(List aU)) (y:AC)=>[ow y r]):=
 a2T Q (by decide) (aVY (k:=3) (el:=119) (z:=.agg #[.int .i64 0,.bool false,.int .i64 0]) (by decide) Q aIC aKQ aOW aKR) call203
theorem YB{l:List aU}{w_:aU}{s1:AC}(h1:cZ κ s1 l):VS prog κ 149 (CR l w_) [.h s1 l.length,.g [I w_.Key,.b w_.HJ,I w_.eH]] [] [] (fun r (y:AC)=>.h y r.length) (fun r y=>[ow y r]):=
 cX tok call149 func149 results149 Q Q<|c1 Q (fun h=>PQ (h.a h1)) fun x1 s2=>fun hF=>mf [0] Q Q Q<|wi hF<|a2K 0 [1] Q Q Q Q Q Q (fun _=>fun hB=>HV (a2J call201 hB fun _=>T4)) fun x2 s3=>fun hF=>mf [0] Q Q Q<|wi hF<|aHX [0] Q Q Q Q (fun h=>fun hB=>nB (h.o 2 Q) (aCI (cs:=[(0,[I w_.Key,.b w_.HJ,I w_.eH])]) call202 hB Q fun _ _=>T5)) fun x3=>dZ 0 1 (oF w_ x2) [3,5] (fun(x4:Int) (_:Unit)=>[(6,I x4)]) [2,0] (fun x4 _=>[]) Q (bY [15] Q Q (cY [2,0] Q Q)<|cY [2,0] Q Q) fun x4 _=>fun hF=>ltL vF () w_ sO Q Q Q Q Q Q Q Q (fun _=>Q) fun s4=>wi hF<|HM [0,2] Q Q Q Q (fun _=>OG) fun x5 s5=>lE s5 [3] Q Q
theorem G4{j:aG}{x:aU}{s1 s2 s3 s4 s5 s6 s7:AC}{b0:Nat×Nat}:VS prog κ 101 (oG j x) [.p 0 0,.g [I x.Key,.b x.HJ,I x.eH]] [b0] [.box 0 [.b j.eA,.b j.Batch.Collect,.h s1 j.Batch.bK.length,I j.aE,I j.Pc,I j.At,I j.K,I j.bV,I j.fX,I j.H,I j.fP,I j.Node.Key,I j.Node.eH,I j.Node.Next,.b j.Found,I j.Code,I j.Sub.Kind,I j.Sub.A,I j.Sub.Pc,I j.Sub.E,I j.Sub.Row,I j.Sub.B,I j.Sub.H,I j.Sub.Out,I j.Sub.Code,.b j.Sub.dS,.h s2 j.Reads.length,.h s3 j.aL.length,.h s4 j.eN.length,.h s5 j.fQ.length,.h s6 j.bR.length,.h s7 j.cE.length],ow s1 (j.Batch.bK:List iD),ow s2 (j.Reads:List Seen),ow s3 (j.aL:List aU),ow s4 (j.eN:List eN),ow s5 (j.fQ:List Int),ow s6 (j.bR:List Int),ow s7 (j.cE:List Int)] (fun(r:Bool×aG) (y:AC)=>.b r.1) (fun(r:Bool×aG) (y:AC)=>[.box 0 [.b r.2.eA,.b r.2.Batch.Collect,.h s1 r.2.Batch.bK.length,I r.2.aE,I r.2.Pc,I r.2.At,I r.2.K,I r.2.bV,I r.2.fX,I r.2.H,I r.2.fP,I r.2.Node.Key,I r.2.Node.eH,I r.2.Node.Next,.b r.2.Found,I r.2.Code,I r.2.Sub.Kind,I r.2.Sub.A,I r.2.Sub.Pc,I r.2.Sub.E,I r.2.Sub.Row,I r.2.Sub.B,I r.2.Sub.H,I r.2.Sub.Out,I r.2.Sub.Code,.b r.2.Sub.dS,.h s2 r.2.Reads.length,.h y r.2.aL.length,.h s4 r.2.eN.length,.h s5 r.2.fQ.length,.h s6 r.2.bR.length,.h s7 r.2.cE.length],ow s1 r.2.Batch.bK,ow s2 r.2.Reads,ow y r.2.aL,ow s4 r.2.eN,ow s5 r.2.fQ,ow s6 r.2.bR,ow s7 r.2.cE]):=
 cX tok call101 func101 results101 Q Q<|jZ aD [0,8] Q<|c1 Q (fun h=>YB (h.o 3 Q)) fun x1 s8=>bY [14] Q Q (dR 0 0 0 32 [1,2,3,4,5,6,7] Q Q Q Q Q (fun _=>dB) fun x2 _=>lE s3 [0,10,11,12,13,14,15,16] Q Q)<|lE s8 [0,1,2,9,4,5,6,7] Q Q
theorem VU{x:aU}{k0:Int}{b0:Nat×Nat}:VS prog κ 151 (AI x k0) [.g [I x.Key,.b x.HJ,I x.eH],.p 0 0] [b0] [.ro 0 [I k0]] (fun r (_:Unit)=>.b r) (fun _ _=>[]):=
 cX tok call151 func151 results151 Q Q<|eJ Q Q
theorem aA4{l:List aU}{key:Int}{s1:AC}(h1:cZ κ s1 l):V0 prog κ 102 (FJ l key) [.h s1 l.length,I key] (fun r=>.t [.g [I r.1.Key,.b r.1.HJ,I r.1.eH],.b r.2]):=
 cX tok call102 func102 results102 Q Q<|fun hF=>mf [0] Q Q Q<|wi hF<|aHX [0] Q Q Q Q (fun h=>fun hB=>nB (h.a h1) (aCI (cs:=[(0,[I key])]) call151 hB Q fun _ _=>VU)) fun x1=>bY [11] Q Q (eJ Q Q)<|JC SD Q h1 Q fun x2 _ _=>eJ Q Q
theorem aF3{a_ b:Int}:V0 prog κ 152 (SA a_ b) [I a_,I b] I:=
 cX tok call152 func152 results152 Q Q<|eJ Q Q
theorem G5{j:aG}{c:iD}{val:Int}{is:Bool}{s1 s2 s3 s4 s5 s6 s7:AC}{b0:Nat×Nat}:VS prog κ 103 (oH j c val is) [.p 0 0,.g [I c.Kind,I c.Key,I c.eH],I val,.b is] [b0] [.box 0 [.b j.eA,.b j.Batch.Collect,.h s1 j.Batch.bK.length,I j.aE,I j.Pc,I j.At,I j.K,I j.bV,I j.fX,I j.H,I j.fP,I j.Node.Key,I j.Node.eH,I j.Node.Next,.b j.Found,I j.Code,I j.Sub.Kind,I j.Sub.A,I j.Sub.Pc,I j.Sub.E,I j.Sub.Row,I j.Sub.B,I j.Sub.H,I j.Sub.Out,I j.Sub.Code,.b j.Sub.dS,.h s2 j.Reads.length,.h s3 j.aL.length,.h s4 j.eN.length,.h s5 j.fQ.length,.h s6 j.bR.length,.h s7 j.cE.length],ow s1 (j.Batch.bK:List iD),ow s2 (j.Reads:List Seen),ow s3 (j.aL:List aU),ow s4 (j.eN:List eN),ow s5 (j.fQ:List Int),ow s6 (j.bR:List Int),ow s7 (j.cE:List Int)] (fun(r:aG) (y:AC×AC)=>.t []) (fun(r:aG) (y:AC×AC)=>[.box 0 [.b r.eA,.b r.Batch.Collect,.h s1 r.Batch.bK.length,I r.aE,I r.Pc,I r.At,I r.K,I r.bV,I r.fX,I r.H,I r.fP,I r.Node.Key,I r.Node.eH,I r.Node.Next,.b r.Found,I r.Code,I r.Sub.Kind,I r.Sub.A,I r.Sub.Pc,I r.Sub.E,I r.Sub.Row,I r.Sub.B,I r.Sub.H,I r.Sub.Out,I r.Sub.Code,.b r.Sub.dS,.h s2 r.Reads.length,.h y.1 r.aL.length,.h y.2 r.eN.length,.h s5 r.fQ.length,.h s6 r.bR.length,.h s7 r.cE.length],ow s1 r.Batch.bK,ow s2 r.Reads,ow y.1 r.aL,ow y.2 r.eN,ow s5 r.fQ,ow s6 r.bR,ow s7 r.cE]):=
 cX tok call103 func103 results103 Q Q<|dZ 0 2 (kS j c is) [0,3,5] (fun(x1:Int) (_:Unit)=>[(2,I x1)]) [1,2,3,4,5,6,7,0,8] (fun x1 _=>[]) Q (bY [10] Q Q (cY [1,2,3,4,5,6,7,0,8] Q Q)<|cY [1,2,3,4,5,6,7,0,8] Q Q) fun x1 _=>dZ 0 3 (fun(p:aG×Bool×Int)=>kR p.1 p.2.1 p.2.2) [0,8] (fun(p:aG×Bool×Int) (s8:AC)=>[]) [] (fun p s8=>[ow s1 (p.1.Batch.bK:List iD),ow s2 (p.1.Reads:List Seen),ow s8 (p.1.aL:List aU),ow s4 (p.1.eN:List eN),ow s5 (p.1.fQ:List Int),ow s6 (p.1.bR:List Int),ow s7 (p.1.cE:List Int),.box 0 [.b p.1.eA,.b p.1.Batch.Collect,.h s1 p.1.Batch.bK.length,I p.1.aE,I p.1.Pc,I p.1.At,I p.1.K,I p.1.bV,I p.1.fX,I p.1.H,I p.1.fP,I p.1.Node.Key,I p.1.Node.eH,I p.1.Node.Next,.b p.1.Found,I p.1.Code,I p.1.Sub.Kind,I p.1.Sub.A,I p.1.Sub.Pc,I p.1.Sub.E,I p.1.Sub.Row,I p.1.Sub.B,I p.1.Sub.H,I p.1.Sub.Out,I p.1.Sub.Code,.b p.1.Sub.dS,.h s2 p.1.Reads.length,.h s8 p.1.aL.length,.h s4 p.1.eN.length,.h s5 p.1.fQ.length,.h s6 p.1.bR.length,.h s7 p.1.cE.length],.box 2 [.b p.2.1,I p.2.2]]) Q (bY [16] Q Q (c0 Q (fun _=>aF3) fun x6=>dR 7 0 0 32 [0,1,2,3,4,5,6] Q Q Q Q Q (fun _=>G4) fun x7 s16=>bY [29] Q Q (lE (s16,s4) [7,10,11,12,13,14,15,16] Q Q)<|qH (p:=(x7.2,true,x6)) s16 [10,11,12,13,14,15,16,7,9] Q Q)<|qH (p:=(j,is,x1)) s3 [0,1,2,3,4,5,6,7,9] Q Q) fun⟨x2,x3,x4⟩ s8=>dZ 0 3 nM [0] (fun(x5:aG) (s9:AC)=>[]) [] (fun x5 s9=>[ow s1 (x5.Batch.bK:List iD),ow s2 (x5.Reads:List Seen),ow s8 (x5.aL:List aU),ow s9 (x5.eN:List eN),ow s5 (x5.fQ:List Int),ow s6 (x5.bR:List Int),ow s7 (x5.cE:List Int),.box 0 [.b x5.eA,.b x5.Batch.Collect,.h s1 x5.Batch.bK.length,I x5.aE,I x5.Pc,I x5.At,I x5.K,I x5.bV,I x5.fX,I x5.H,I x5.fP,I x5.Node.Key,I x5.Node.eH,I x5.Node.Next,.b x5.Found,I x5.Code,I x5.Sub.Kind,I x5.Sub.A,I x5.Sub.Pc,I x5.Sub.E,I x5.Sub.Row,I x5.Sub.B,I x5.Sub.H,I x5.Sub.Out,I x5.Sub.Code,.b x5.Sub.dS,.h s2 x5.Reads.length,.h s8 x5.aL.length,.h s9 x5.eN.length,.h s5 x5.fQ.length,.h s6 x5.bR.length,.h s7 x5.cE.length]]) Q (jZ aD [8] Q<|fun hF=>nd hF fun hA1 hF=>(by refine cQ Q Q ?_ ?_ <;> exact QN a02 [] ((⟨x3,x4⟩:eN)) () IZ Q Q Q Q Q Q Q Q Q Q Q Q Q fun s12=>have hq1:=rn hA1;ap 3 IZ Q Q Q Q Q Q Q (fun h=>(h.o 9 Q)) Q Q hq1 fun hq1 s13=>wi hF<|qH (p:=(({x2 with eN:=x2.eN++([(⟨x3,x4⟩:eN)])}:aG))) s13 [0,1,2,3,4,5,6,7] Q Q)) fun x5 s9=>BH (s8,s9) [7,0,1,2,3,4,5,6] Q Q
theorem MV{key:Int}:V0 prog κ 104 (BZ key) [I key] I:=
 cX tok call104 func104 results104 Q Q<|c0 Q (fun _=>bP) fun x1=>bY [5] Q Q (eJ Q Q)<|eJ Q Q
theorem VV{j:aG}{s1 s2 s3 s4 s5 s6 s7:AC}{b0:Nat×Nat}:VS prog κ 49 (AK j) [.p 0 0] [b0] [.box 0 [.b j.eA,.b j.Batch.Collect,.h s1 j.Batch.bK.length,I j.aE,I j.Pc,I j.At,I j.K,I j.bV,I j.fX,I j.H,I j.fP,I j.Node.Key,I j.Node.eH,I j.Node.Next,.b j.Found,I j.Code,I j.Sub.Kind,I j.Sub.A,I j.Sub.Pc,I j.Sub.E,I j.Sub.Row,I j.Sub.B,I j.Sub.H,I j.Sub.Out,I j.Sub.Code,.b j.Sub.dS,.h s2 j.Reads.length,.h s3 j.aL.length,.h s4 j.eN.length,.h s5 j.fQ.length,.h s6 j.bR.length,.h s7 j.cE.length],ow s1 (j.Batch.bK:List iD),ow s2 (j.Reads:List Seen),ow s3 (j.aL:List aU),ow s4 (j.eN:List eN),ow s5 (j.fQ:List Int),ow s6 (j.bR:List Int),ow s7 (j.cE:List Int)] (fun(r:aG) (y:AC×AC)=>.t []) (fun(r:aG) (y:AC×AC)=>[.box 0 [.b r.eA,.b r.Batch.Collect,.h s1 r.Batch.bK.length,I r.aE,I r.Pc,I r.At,I r.K,I r.bV,I r.fX,I r.H,I r.fP,I r.Node.Key,I r.Node.eH,I r.Node.Next,.b r.Found,I r.Code,I r.Sub.Kind,I r.Sub.A,I r.Sub.Pc,I r.Sub.E,I r.Sub.Row,I r.Sub.B,I r.Sub.H,I r.Sub.Out,I r.Sub.Code,.b r.Sub.dS,.h s2 r.Reads.length,.h y.1 r.aL.length,.h y.2 r.eN.length,.h s5 r.fQ.length,.h s6 r.bR.length,.h s7 r.cE.length],ow s1 r.Batch.bK,ow s2 r.Reads,ow y.1 r.aL,ow y.2 r.eN,ow s5 r.fQ,ow s6 r.bR,ow s7 r.cE]):=
 cX tok call49 func49 results49 Q Q<|dR 0 0 0 32 [1,2,3,4,5,6,7] Q Q Q Q Q (fun _=>EX) fun x1 _=>bY [39,41] Q Q (c0 Q (fun _=>nA) fun x2=>BH (s3,s4) [0,8,9,10,11,12,13,14] Q Q)<|dZ 0 2 (fun(p:Bool×aG)=>iM x1 p.1 p.2) [0,2] (fun(p:Bool×aG) (_:Unit)=>[(52,.b p.1)]) [15] (fun p _=>[ow s1 (p.2.Batch.bK:List iD),ow s2 (p.2.Reads:List Seen),ow s3 (p.2.aL:List aU),ow s4 (p.2.eN:List eN),ow s5 (p.2.fQ:List Int),ow s6 (p.2.bR:List Int),ow s7 (p.2.cE:List Int),.box 0 [.b p.2.eA,.b p.2.Batch.Collect,.h s1 p.2.Batch.bK.length,I p.2.aE,I p.2.Pc,I p.2.At,I p.2.K,I p.2.bV,I p.2.fX,I p.2.H,I p.2.fP,I p.2.Node.Key,I p.2.Node.eH,I p.2.Node.Next,.b p.2.Found,I p.2.Code,I p.2.Sub.Kind,I p.2.Sub.A,I p.2.Sub.Pc,I p.2.Sub.E,I p.2.Sub.Row,I p.2.Sub.B,I p.2.Sub.H,I p.2.Sub.Out,I p.2.Sub.Code,.b p.2.Sub.dS,.h s2 p.2.Reads.length,.h s3 p.2.aL.length,.h s4 p.2.eN.length,.h s5 p.2.fQ.length,.h s6 p.2.bR.length,.h s7 p.2.cE.length]]) Q (iV [55,56] Q Q (cY (p:=(true,x1.2.2)) [8,9,10,11,12,13,14,0,15] Q Q)<|cY (p:=(x1.1.Kind == 3,x1.2.2)) [8,9,10,11,12,13,14,0,15] Q Q) fun⟨x3,x4⟩ _=>bY [52] Q Q (dR 7 0 0 32 [0,1,2,3,4,5,6] Q Q Q Q Q (fun _=>G4) fun x5 s8=>bY [70] Q Q (fun hF=>QN a02 [] ((⟨false,0⟩:eN)) () IZ Q Q Q Q Q Q Q Q Q Q Q Q Q fun s9=>ap 12 IZ Q Q Q Q Q Q Q (fun h=>(h.o 16 Q)) Q Q hF fun hF s10=>wi hF<|BH (s8,s10) [7,9,10,11,12,13,14,15] Q Q)<|BH (s8,s4) [7,9,10,11,12,13,14,15] Q Q)<|dZ 0 3 (fun(p:Bool×aG×Int×Bool×Int)=>AJ x1 p.1 p.2.1 p.2.2.1 p.2.2.2.1 p.2.2.2.2) [0,2] (fun(p:Bool×aG×Int×Bool×Int) (_:Unit)=>[(4,.p 2 0),(5,.b p.1)]) [8] (fun p _=>[ow s1 (p.2.1.Batch.bK:List iD),ow s2 (p.2.1.Reads:List Seen),ow s3 (p.2.1.aL:List aU),ow s4 (p.2.1.eN:List eN),ow s5 (p.2.1.fQ:List Int),ow s6 (p.2.1.bR:List Int),ow s7 (p.2.1.cE:List Int),.box 0 [.b p.2.1.eA,.b p.2.1.Batch.Collect,.h s1 p.2.1.Batch.bK.length,I p.2.1.aE,I p.2.1.Pc,I p.2.1.At,I p.2.1.K,I p.2.1.bV,I p.2.1.fX,I p.2.1.H,I p.2.1.fP,I p.2.1.Node.Key,I p.2.1.Node.eH,I p.2.1.Node.Next,.b p.2.1.Found,I p.2.1.Code,I p.2.1.Sub.Kind,I p.2.1.Sub.A,I p.2.1.Sub.Pc,I p.2.1.Sub.E,I p.2.1.Sub.Row,I p.2.1.Sub.B,I p.2.1.Sub.H,I p.2.1.Sub.Out,I p.2.1.Sub.Code,.b p.2.1.Sub.dS,.h s2 p.2.1.Reads.length,.h s3 p.2.1.aL.length,.h s4 p.2.1.eN.length,.h s5 p.2.1.fQ.length,.h s6 p.2.1.bR.length,.h s7 p.2.1.cE.length],.box 2 [I p.2.2.1,.b p.2.2.2.1,I p.2.2.2.2]]) Q (jZ aD [7,8] Q<|fun hF=>bd hF fun x13 hA1 hF=>(by refine cQ Q Q ?_ ?_ <;> exact have hq1:=rb hA1;wi hq1<|c0 Q (fun h=>aA4 (h.o 2 Q)) fun u1=>fun hq1=>match u1,hq1 with | _,rfl=>wi hF<|cY (p:=(x13.2,x4,x13.1.Key,x13.1.HJ,x13.1.eH)) [0,1,2,3,4,5,6,7,9,8] Q Q)) fun⟨x6,x7,x8,x9,x10⟩ _=>bY [5,21] Q Q (dR 7 0 0 32 [0,1,2,3,4,5,6] Q Q Q Q Q (fun _=>G5) fun x11 s11=>lE (s11.1,s11.2) [7,10,11,12,13,14,15,16] Q Q)<|c0 Q (fun _=>MV) fun x12=>BH (s3,s4) [7,0,1,2,3,4,5,6] Q Q
theorem PR{h:Heap}{slot:Int}{s1 s2:AC}(h1:cZ κ s1 h.Bytes)(h2:cZ κ s2 h.Class):V0 prog κ 154 (AL h slot) [.g [.h s1 h.Bytes.length,.h s2 h.Class.length],I slot] .b:=
 cX tok call154 func154 results154 Q Q<|c0 Q (fun h=>lV (h.a h1) (h.a h2)) fun x1=>c0 Q (fun _=>J1) fun x2=>eJ Q Q
theorem aA5{slot c:Int}:V0 prog κ 215 (FK slot c) [I slot,I c] I:=
 cX tok call215 func215 results215 Q Q<|c0 Q (fun _=>pR) fun x1=>bY [10] Q Q (eJ Q Q)<|eJ Q Q
theorem sU{h:Heap}{slot:Int}{s1 s2:AC}(h1:cZ κ s1 h.Bytes)(h2:cZ κ s2 h.Class):V0 prog κ 166 (tQ h slot) [.g [.h s1 h.Bytes.length,.h s2 h.Class.length],I slot] I:=
 cX tok call166 func166 results166 Q Q<|c0 Q (fun h=>lV (h.a h1) (h.a h2)) fun x1=>c0 Q (fun _=>aA5) fun x2=>eJ Q Q
theorem aDB{h:Heap}{slot:Int}{s1 s2:AC}(h1:cZ κ s1 h.Bytes)(h2:cZ κ s2 h.Class):V0 prog κ 155 (IQ h slot) [.g [.h s1 h.Bytes.length,.h s2 h.Class.length],I slot] (fun r=>.g [I r.Key,I r.eH,I r.Next]):=
 cX tok call155 func155 results155 Q Q<|c0 Q (fun h=>sU (h.a h1) (h.a h2)) fun x1=>jZ aD [0] Q<|c0 Q (fun h=>sS (h.a h1)) fun x2=>c0 Q (fun h=>sS (h.a h1)) fun x3=>c0 Q (fun h=>sS (h.a h1)) fun x4=>eJ Q Q
theorem RQ{m:Mem}{h:Int}{s1 s2 s3 s4:AC}(h1:cZ κ s1 m.Heap.Bytes)(h2:cZ κ s2 m.Heap.Class)(h3:cZ κ s3 m.aA.Global)(h4:cZ κ s4 m.aA.Own):V0 prog κ 105 (DJ m h) [.g (gM m s1 s2 s3 s4),I h] (fun r=>.t [.g [I r.1.Key,I r.1.eH,I r.1.Next],I r.2]):=
 cX tok call105 func105 results105 Q Q<|fW 0 2 (AM m h) [1,2,4] 6 [0,1] Q (c0 Q (fun _=>kM) fun x4=>iV [9,10] Q Q (cY [0,1] Q Q)<|c0 Q (fun h=>lV (h.a h1) (h.a h2)) fun x5=>cY [0,1] Q Q) fun x1=>bY [6] Q Q (eJ Q Q)<|c0 Q (fun h=>PR (h.a h1) (h.a h2)) fun x2=>bY [19,25] Q Q (eJ Q Q)<|c0 Q (fun h=>aDB (h.a h1) (h.a h2)) fun x3=>eJ Q Q
theorem PT{p:qT}:V0 prog κ 106 (xW p) [.g [.b p.On,I p.aN,.b p.gG,I p.Seen]] .b:=
 cX tok call106 func106 results106 Q Q<|fW 0 1 l4 [] 2 [] Q (iV [4,5] Q Q (cY [] Q Q)<|cY [] Q Q) fun x1=>eJ Q Q
theorem b8{n:bN}:V0 prog κ 107 (fJ n) [.g [I n.Key,I n.eH,I n.Next]] I:=
 cX tok call107 func107 results107 Q Q<|c0 Q (fun _=>kM) fun x1=>bY [6] Q Q (eJ Q Q)<|eJ Q Q
theorem Q2{s:List Seen}{s1:AC}(h1:cZ κ s1 s):VS prog κ 156 (AN s) [.h s1 s.length] [] [] (fun r (y:AC)=>.h y r.length) (fun r y=>[ow y r]):=
 cX tok call156 func156 results156 Q Q<|fun hF=>eqn Q Q Q Q (fun h2=>have hF:=cln h1 h2 hF;sR Q<|BG Seen<|oW (hT:=tok) ⟨none,0⟩ [0] hF Q results156 Q Q Q Q)<|lt0 (α:=Seen) I0 Q Q Q Q fun s2=>ap 0 I0 Q Q Q Q Q Q Q (fun h=>(h.a h1)) Q Q hF fun hF s3=>wi hF<|lE s3 [0] Q Q
theorem y5{s:List Seen}{f:(Seen->Option Bool)}{s1:AC}{g_f:FuncId}{cap_f:List Value}(h1:cZ κ s1 s)(h_f:SS prog κ (aID:CB Seen) .b g_f cap_f f):V0 prog κ 157 (dM s f) [.h s1 s.length,.k (.func (.func g_f) #[] cap_f.toArray)] I:=
 cX tok call157 func157 results157 Q Q<|WQ 8 [0,1,7] [] Out.brk [] [] Q Q (fun hF1 x2 hr1=>bY [9] Q Q (JC aID Q h1 Q fun x3 _ _=>fun hG1=>fa1 h_f x3 () Q Q Q Q Q trivial hG1 fun x4 _ hG1=>wi hG1<|bY [16] Q Q (U0 hr1 hF1<|eJ Q Q)<|QO [] Q)<|OC [] Q)<|eJ Q Q
theorem VW{s:Seen}{k0:Int}{b0:Nat×Nat}:VS prog κ 158 (AO s k0) [.g [I s.bV,I s.fX],.p 0 0] [b0] [.ro 0 [I k0]] (fun r (_:Unit)=>.b r) (fun _ _=>[]):=
 cX tok call158 func158 results158 Q Q<|eJ Q Q
theorem G6{l:List Seen}{b v:Int}{s1:AC}(h1:cZ κ s1 l):VS prog κ 108 (FL l b v) [.h s1 l.length,I b,I v] [] [] (fun r (y:AC)=>.t [.h y r.1.length,.b r.2]) (fun r y=>[ow y r.1]):=
 cX tok call108 func108 results108 Q Q<|c1 Q (fun h=>Q2 (h.a h1)) fun x1 s2=>fun hF=>mf [0] Q Q Q<|wi hF<|aHX [0] Q Q Q Q (fun h=>fun hB=>y5 (h.a h1) (aCI (cs:=[(0,[I b])]) call158 hB Q fun _ _=>VW)) fun x2=>bY [16] Q Q (fun hF=>QN PI [] ((⟨b,v⟩:Seen)) () I0 Q Q Q Q Q Q Q Q Q Q Q Q Q fun s3=>ap 1 I0 Q Q Q Q Q Q Q (fun h=>(h.o 2 Q)) Q Q hF fun hF s4=>wi hF<|lE s4 [1] Q Q)<|jZ aD [0] Q<|JC aID Q h1 Q fun x3 _ _=>lE s2 [1] Q Q
theorem T6{t:Table}{w_:Int}{s1 s2 s3 s4 s5 s6 s7 s8 s9 s10 s11:AC}{b0:Nat×Nat}:VS prog κ 50 (wS t w_) [.p 0 0,I w_] [b0] ([.box 0 (OE t s1 s2 s3 s4 s5 s6 s7 s8 s9 s10 s11)]++(OL t s1 s2 s3 s4 s5 s6 s7 s8 s9 s10 s11 [])) (fun(r:Table) (y:Unit)=>.t []) (fun(r:Table) (y:Unit)=>([.box 0 (OE r s1 s2 s3 s4 s5 s6 s7 s8 s9 s10 s11)]++(OL r s1 s2 s3 s4 s5 s6 s7 s8 s9 s10 s11 []))):=
 cX tok call50 func50 results50 Q Q<|mC aS 9 Q Q Q fun x1 h1 s12 h2=>fun hF=>kC 1 h2 h1 Q Q Q Q Q<|wi hF<|dZ 0 4 (fun(p:Int×Int×Int)=>xZ t w_ p.1 p.2.1 p.2.2) [0,1,4] (fun(p:Int×Int×Int) (_:Unit)=>[(5,.p 3 0)]) [1,2,3,4,5,6,7,8,10,11,0,14] (fun p _=>[ow s9 (t.aP:List aG),.box 3 [I p.1,I p.2.1,I p.2.2]]) Q (fun hF=>D4 aS 12 [15,16,17,18,19,20,21] h1 s12 Q Q Q Q Q Q Q Q Q<|wi hF<|jZ aD [0,14] Q<|fun hF=>bd hF fun x30 hA5 hF=>cQ Q Q (have hq15:=rb h1;ro aS 22 14 1 Q Q Q Q hq15 fun u15 h27 hq15 s34=>match u15,hq15 with | _,rfl=>have hq16:=rb hA5;wi hq16<|mC wA 8 Q Q Q fun u16 h29 _ h30=>fun hq16=>kC 2 h30 h29 Q Q Q Q Q<|match u16,hq16 with | _,rfl=>(by refine cQ Q Q ?_ ?_ <;> exact sF Q<|iB wA 33 [] h29 () Q Q Q Q Q Q Q<|fR Q Q<|iB aS 23 [26,27,28,29,30,31,32] h27 s34 Q Q Q Q Q Q Q<|fR Q Q<|jY (p:=(x30.Head,x30.fX,x30.jB)) () [38,36,1,2,3,4,5,6,7,37,10,11,0,14] hF Q)) (have hq17:=rb h1;ro aS 22 14 1 Q Q Q Q hq17 fun u17 h31 hq17 s35=>match u17,hq17 with | _,rfl=>have hq18:=rb hA5;wi hq18<|mC wA 8 Q Q Q fun u18 h33 _ h34=>fun hq18=>kC 3 h34 h33 Q Q Q Q Q<|match u18,hq18 with | _,rfl=>sF Q<|swR 3 2 Q<|fD Q Q<|iB wA 34 [] h33 () Q Q Q Q Q Q Q<|fR Q Q<|iB aS 24 [27,28,29,30,31,32,33] h31 s35 Q Q Q Q Q Q Q<|fR Q Q<|jY (p:=(x30.Head,x30.fX,x30.jB)) () [38,23,1,2,3,4,5,6,7,37,10,11,0,14] hF Q)) fun⟨x2,x3,x4⟩ _=>fun hF=>ro aS 0 13 1 Q Q Q Q hF fun x5 h3 hF s13=>wi hF<|dR 15 1 0 32 [17,18,19,20,21,22,23] Q Q Q Q Q (fun _=>EX) fun x6 _=>bY [91,92] Q Q (bY [95] Q Q (dR 15 1 0 32 [24,25,26,27,28,29,30] Q Q Q Q Q (fun _=>dB) fun x7 _=>fun hF=>sR Q<|lJ aS 14 [32,33,34,35,36,37,38] [] x7 s13 Q Q Q Q Q Q Q Q<|fR Q Q<|nT s9 b9.symm [] [(12,9)] Q Q Q<|fR Q Q<|oW (hT:=tok) () [12,2,3,4,5,6,7,8,9,39,10,11] hF Q results50 Q Q Q Q)<|jZ aD [1,12,13,16,31] Q<|bY [122] Q Q (fun hF=>sF Q<|lJ aS 14 [24,25,26,27,28,29,30] [] (⟨x6.2.2.eA,x6.2.2.Batch,x6.2.2.aE,5,x6.2.2.At,x6.2.2.K,x6.2.2.bV,x3,x2,x6.2.2.fP,(⟨0,0,0⟩:bN),false,x6.2.2.Code,x6.2.2.Sub,x6.2.2.Reads,x6.2.2.aL,x6.2.2.eN,x6.2.2.fQ,x6.2.2.bR,x6.2.2.cE⟩:aG) s13 Q Q Q Q Q Q Q Q<|fR Q Q<|nT s9 b9.symm [] [(12,9)] Q Q Q<|fR Q Q<|oW (hT:=tok) () [12,2,3,4,5,6,7,8,9,32,10,11] hF Q results50 Q Q Q Q)<|fun hF=>sF Q<|lJ aS 14 [24,25,26,27,28,29,30] [] (⟨x6.2.2.eA,x6.2.2.Batch,x6.2.2.aE,3,x6.2.2.At,x6.2.2.K,x6.2.2.bV,x3,x2,x6.2.2.fP,(⟨0,0,0⟩:bN),false,x6.2.2.Code,x6.2.2.Sub,x6.2.2.Reads,x6.2.2.aL,x6.2.2.eN,x6.2.2.fQ,x6.2.2.bR,x6.2.2.cE⟩:aG) s13 Q Q Q Q Q Q Q Q<|fR Q Q<|nT s9 b9.symm [] [(12,9)] Q Q Q<|fR Q Q<|oW (hT:=tok) () [12,2,3,4,5,6,7,8,9,32,10,11] hF Q results50 Q Q Q Q)<|bY [126,127] Q Q (jZ aD [1,12,13,16,31] Q<|c0 Q (fun h=>RQ (h.o 2 Q) (h.o 3 Q) (h.o 4 Q) (h.o 5 Q)) fun x8=>fun hF=>sF Q<|lJ aS 14 [24,25,26,27,28,29,30] [] (⟨x6.2.2.eA,x6.2.2.Batch,x6.2.2.aE,4,x6.2.2.At,x6.2.2.K,x6.2.2.bV,x6.2.2.fX,x6.2.2.H,x6.2.2.fP,x8.1,x6.2.2.Found,x6.2.2.Code,x6.2.2.Sub,x6.2.2.Reads,x6.2.2.aL,x6.2.2.eN,x6.2.2.fQ,x6.2.2.bR,x6.2.2.cE⟩:aG) s13 Q Q Q Q Q Q Q Q<|fR Q Q<|nT s9 b9.symm [] [(12,9)] Q Q Q<|fR Q Q<|oW (hT:=tok) () [12,2,3,4,5,6,7,8,9,32,10,11] hF Q results50 Q Q Q Q)<|bY [147,148] Q Q (mC QZ 6 Q Q Q fun x9 h5 _ h6=>fun hF=>kC 5 h6 h5 Q Q Q Q Q<|wi hF<|c0 Q (fun _=>PT) fun x10=>bY [149,160] Q Q (dR 15 1 0 32 [24,25,26,27,28,29,30] Q Q Q Q Q (fun _=>dB) fun x11 _=>fun hF=>sR Q<|iB QZ 32 [] h5 () Q Q Q Q Q Q Q<|fR Q Q<|lJ aS 14 [35,36,37,38,39,40,41] [] x11 s13 Q Q Q Q Q Q Q Q<|fR Q Q<|nT s9 b9.symm [] [(12,9)] Q Q Q<|fR Q Q<|oW (hT:=tok) () [12,2,3,4,5,42,7,8,9,43,10,11] hF Q results50 Q Q Q Q)<|bY [163,165] Q Q (dR 15 1 0 32 [24,25,26,27,28,29,30] Q Q Q Q Q (fun _=>dB) fun x12 _=>fun hF=>sR Q<|iB QZ 32 [] h5 () Q Q Q Q Q Q Q<|fR Q Q<|lJ aS 14 [35,36,37,38,39,40,41] [] x12 s13 Q Q Q Q Q Q Q Q<|fR Q Q<|nT s9 b9.symm [] [(12,9)] Q Q Q<|fR Q Q<|oW (hT:=tok) () [12,2,3,4,5,42,7,8,9,43,10,11] hF Q results50 Q Q Q Q)<|dZ 0 6 (xX t w_) [0,4] (fun(x13:(List aG)) (_:Unit)=>[]) [2,3,4,5,7,8,9,10,11,13] (fun x13 _=>[ow s5 (t.aB.aJ.cN:List qT),ow s9 (x13:List aG),.box 0 [.h s1 t.aB.Mem.Heap.Bytes.length,.h s2 t.aB.Mem.Heap.Class.length,.h s3 t.aB.Mem.aA.Global.length,.h s4 t.aB.Mem.aA.Own.length,I t.aB.aJ.aN,.h s5 t.aB.aJ.cN.length,.h s6 t.aB.bO.length,.h s7 t.aB.BW.length,.h s8 t.cH.length,.h s9 x13.length,.h s10 t.gL.length,.h s11 t.Log.length,I t.aE]]) Q (jZ aD [1,12,13,16,31,34] Q<|fun hF=>bd hF fun x17 hA1 hF=>cQ Q Q (have hq1:=rb hA1;wi hq1<|c0 Q (fun _=>b8) fun u1=>fun hq1=>match u1,hq1 with | _,rfl=>sF Q<|iB QZ 32 [] h5 () Q Q Q Q Q Q Q<|fR Q Q<|lJ aS 14 [24,25,26,27,28,29,30] [] (⟨x6.2.2.eA,x6.2.2.Batch,x6.2.2.aE,3,x6.2.2.At,x6.2.2.K,x6.2.2.bV,x6.2.2.fX,x17,x6.2.2.fP,x6.2.2.Node,x6.2.2.Node.Key == x6.1.Key,x6.2.2.Code,x6.2.2.Sub,x6.2.2.Reads,x6.2.2.aL,x6.2.2.eN,x6.2.2.fQ,x6.2.2.bR,x6.2.2.cE⟩:aG) s13 Q Q Q Q Q Q Q Q<|fR Q Q<|nT s9 b9.symm [] [(12,9)] Q Q Q<|fR Q Q<|jY (p:=(t.aP.set w_.toNat (⟨x6.2.2.eA,x6.2.2.Batch,x6.2.2.aE,3,x6.2.2.At,x6.2.2.K,x6.2.2.bV,x6.2.2.fX,x17,x6.2.2.fP,x6.2.2.Node,x6.2.2.Node.Key == x6.1.Key,x6.2.2.Code,x6.2.2.Sub,x6.2.2.Reads,x6.2.2.aL,x6.2.2.eN,x6.2.2.fQ,x6.2.2.bR,x6.2.2.cE⟩:aG))) () [35,36,12,2,3,4,5,7,8,9,10,11,13] hF Q) ((by refine cQ Q Q ?_ ?_ <;> exact have hq2:=rb hA1;wi hq2<|c0 Q (fun _=>b8) fun u2=>fun hq2=>match u2,hq2 with | _,rfl=>sF Q<|iB QZ 32 [] h5 () Q Q Q Q Q Q Q<|fR Q Q<|lJ aS 14 [24,25,26,27,28,29,30] [] (⟨x6.2.2.eA,x6.2.2.Batch,x6.2.2.aE,3,x6.2.2.At,x6.2.2.K,x6.2.2.bV,x6.2.2.fX,x17,x6.2.2.fP,x6.2.2.Node,x6.2.2.Node.Key == x6.1.Key,x6.2.2.Code,x6.2.2.Sub,x6.2.2.Reads,x6.2.2.aL,x6.2.2.eN,x6.2.2.fQ,x6.2.2.bR,x6.2.2.cE⟩:aG) s13 Q Q Q Q Q Q Q Q<|fR Q Q<|nT s9 b9.symm [] [(12,9)] Q Q Q<|fR Q Q<|jY (p:=(t.aP.set w_.toNat (⟨x6.2.2.eA,x6.2.2.Batch,x6.2.2.aE,3,x6.2.2.At,x6.2.2.K,x6.2.2.bV,x6.2.2.fX,x17,x6.2.2.fP,x6.2.2.Node,x6.2.2.Node.Key == x6.1.Key,x6.2.2.Code,x6.2.2.Sub,x6.2.2.Reads,x6.2.2.aL,x6.2.2.eN,x6.2.2.fQ,x6.2.2.bR,x6.2.2.cE⟩:aG))) () [35,36,12,2,3,4,5,7,8,9,10,11,13] hF Q))) fun x13 _=>fW 0 6 (pD t w_ x13) [0,4] 200 [3,4,5,6,0,7,8,9,1,10,11,2,12] Q (fun hF=>ro aS 1 12 1 Q Q Q Q hF fun x16 h9 hF s15=>wi hF<|iV [193,194] Q Q (fun hF=>sF Q<|iB aS 13 [16,17,18,19,20,21,22] h9 s15 Q Q Q Q Q Q Q<|fR Q Q<|jY () [3,4,5,6,0,7,8,9,23,10,11,2,12] hF Q)<|fun hF=>sF Q<|iB aS 13 [16,17,18,19,20,21,22] h9 s15 Q Q Q Q Q Q Q<|fR Q Q<|jY () [3,4,5,6,0,7,8,9,23,10,11,2,12] hF Q) fun x14=>bY [200] Q Q (fun hF=>ro aS 8 12 1 Q Q Q Q hF fun x15 h7 hF s14=>sF Q<|lJ aS 13 [16,17,18,19,20,21,22] [] ({x15 with Pc:=5}:aG) s14 Q Q Q Q Q Q Q Q<|fR Q Q<|nT s9 b9.symm [] [(11,9)] Q Q Q<|fR Q Q<|oW (hT:=tok) () [11,0,1,2,3,4,5,6,7,23,9,10] hF Q results50 Q Q Q Q)<|BH () [11,0,1,2,3,4,5,6,7,8,9,10] Q Q)<|dZ 0 5 (gT t w_ x6) [0,4,6,7] (fun(x18:Bool) (_:Unit)=>[(46,.b x18)]) [2,3,4,5,6,7,8,9,10,11,13,31] (fun x18 _=>[ow s9 (t.aP.set w_.toNat x6.2.2:List aG),.box 0 [.h s1 t.aB.Mem.Heap.Bytes.length,.h s2 t.aB.Mem.Heap.Class.length,.h s3 t.aB.Mem.aA.Global.length,.h s4 t.aB.Mem.aA.Own.length,I t.aB.aJ.aN,.h s5 t.aB.aJ.cN.length,.h s6 t.aB.bO.length,.h s7 t.aB.BW.length,.h s8 t.cH.length,.h s9 (t.aP.set w_.toNat x6.2.2).length,.h s10 t.gL.length,.h s11 t.Log.length,I t.aE]]) Q (jZ aD [1,12,13,16,31] Q<|iV [37,38] Q Q (fun hF=>sF Q<|lJ aS 14 [24,25,26,27,28,29,30] [] x6.2.2 s13 Q Q Q Q Q Q Q Q<|fR Q Q<|nT s9 b9.symm [] [(12,9)] Q Q Q<|fR Q Q<|jY () [32,12,2,3,4,5,6,7,8,9,10,11,13,31] hF Q)<|fun hF=>sF Q<|lJ aS 14 [24,25,26,27,28,29,30] [] x6.2.2 s13 Q Q Q Q Q Q Q Q<|fR Q Q<|nT s9 b9.symm [] [(12,9)] Q Q Q<|fR Q Q<|jY () [32,12,2,3,4,5,6,7,8,9,10,11,13,31] hF Q) fun x18 _=>bY [46] Q Q (fun hF=>ro aS 0 12 1 Q Q Q Q hF fun x19 h11 hF s16=>wi hF<|dR 15 1 0 32 [17,18,19,20,21,22,23] Q Q Q Q Q (fun _=>dB) fun x20 _=>fun hF=>sR Q<|lJ aS 14 [24,25,26,27,28,29,30] [] x20 s16 Q Q Q Q Q Q Q Q<|fR Q Q<|nT s9 b9.symm [] [(1,9)] Q Q Q<|fR Q Q<|oW (hT:=tok) () [1,2,3,4,5,6,7,8,9,31,10,11] hF Q results50 Q Q Q Q)<|dZ 0 5 (fun(p:(List Seen)×Bool)=>xY t w_ x6 p.1 p.2) [0,4,6,7] (fun(p:(List Seen)×Bool) (s17:AC)=>[(8,.h s17 p.1.length),(9,.b p.2)]) [2,3,4,5,6,7,8,9,0,10,11,1,12,13] (fun p s17=>[ow s17 (p.1:List Seen)]) Q (jZ aD [1,12,13] Q<|fun hF=>bd hF fun x28 hA3 hF=>bd hF fun x29 hA4 hF=>aCF Q Q (have hq6:=rb hA3;ro aS 0 12 1 Q Q Q Q hq6 fun u6 h17 hq6 s24=>match u6,hq6 with | _,rfl=>(by refine cQ Q Q ?_ ?_ <;> exact have hq7:=rb hA4;wi hq7<|c1 Q (fun h=>G6 (h.o 18 Q)) fun u7 s25=>fun hq7=>match u7,hq7 with | _,rfl=>sF Q<|iB aS 14 [17,18,19,20,21,22,23] h17 s24 Q Q Q Q Q Q Q<|fR Q Q<|jY (p:=(x29.1,x29.2)) s25 [24,2,3,4,5,6,7,8,9,25,10,11,1,12,13] hF Q)) (have hq9:=rb hA3;ro aS 0 12 1 Q Q Q Q hq9 fun u9 h19 hq9 s27=>match u9,hq9 with | _,rfl=>(by refine cQ Q Q ?_ ?_ <;> exact have hq10:=rb hA4;wi hq10<|c1 Q (fun h=>G6 (h.o 18 Q)) fun u10 s28=>fun hq10=>match u10,hq10 with | _,rfl=>sF Q<|iB aS 14 [17,18,19,20,21,22,23] h19 s27 Q Q Q Q Q Q Q<|fR Q Q<|jY (p:=(x29.1,x29.2)) s28 [24,2,3,4,5,6,7,8,9,25,10,11,1,12,13] hF Q)) (have hq12:=rb hA3;ro aS 0 12 1 Q Q Q Q hq12 fun u12 h21 hq12 s30=>match u12,hq12 with | _,rfl=>(by refine cQ Q Q ?_ ?_ <;> exact have hq13:=rb hA4;wi hq13<|c1 Q (fun h=>G6 (h.o 18 Q)) fun u13 s31=>fun hq13=>match u13,hq13 with | _,rfl=>sF Q<|iB aS 14 [17,18,19,20,21,22,23] h21 s30 Q Q Q Q Q Q Q<|fR Q Q<|jY (p:=(x29.1,x29.2)) s31 [24,2,3,4,5,6,7,8,9,25,10,11,1,12,13] hF Q))) fun⟨x21,x22⟩ s17=>fun hF=>ro aS 9 13 1 Q Q Q Q hF fun x23 h13 hF s18=>wi hF<|bY [81,83] Q Q (dR 16 1 0 32 [18,0,20,21,22,23,24] Q Q Q Q Q (fun _=>dB (j:=({x23 with Reads:=x21}:aG))) fun x24 _=>fun hF=>sF Q<|lJ aS 15 [25,26,27,28,29,30,31] [] x24 (s18.1,s17,s18.2.2.1,s18.2.2.2.1,s18.2.2.2.2.1,s18.2.2.2.2.2.1,s18.2.2.2.2.2.2) Q Q Q Q Q Q Q Q<|fR Q Q<|nT s9 b9.symm [] [(12,9)] Q Q Q<|fR Q Q<|oW (hT:=tok) () [12,1,2,3,4,5,6,7,8,32,10,11] hF Q results50 Q Q Q Q)<|bY [86,88] Q Q (dR 16 1 0 32 [18,0,20,21,22,23,24] Q Q Q Q Q (fun _=>dB (j:=({x23 with Reads:=x21}:aG))) fun x25 _=>fun hF=>sF Q<|lJ aS 15 [25,26,27,28,29,30,31] [] x25 (s18.1,s17,s18.2.2.1,s18.2.2.2.1,s18.2.2.2.2.1,s18.2.2.2.2.2.1,s18.2.2.2.2.2.2) Q Q Q Q Q Q Q Q<|fR Q Q<|nT s9 b9.symm [] [(12,9)] Q Q Q<|fR Q Q<|oW (hT:=tok) () [12,1,2,3,4,5,6,7,8,32,10,11] hF Q results50 Q Q Q Q)<|dZ 0 5 (GN t) [0] (fun(x26:(List aG)) (_:Unit)=>[]) [1,2,3,4,5,6,7,8,10,11] (fun x26 _=>[ow s9 (x26:List aG),.box 0 [.h s1 t.aB.Mem.Heap.Bytes.length,.h s2 t.aB.Mem.Heap.Class.length,.h s3 t.aB.Mem.aA.Global.length,.h s4 t.aB.Mem.aA.Own.length,I t.aB.aJ.aN,.h s5 t.aB.aJ.cN.length,.h s6 t.aB.bO.length,.h s7 t.aB.BW.length,.h s8 t.cH.length,.h s9 x26.length,.h s10 t.gL.length,.h s11 t.Log.length,I t.aE]]) Q (jZ aD [12,13,14,17] Q<|fun hF=>bd hF fun x27 hA2 hF=>(by refine cQ Q Q ?_ ?_ <;> exact have hq4:=rb hA2;wi hq4<|dR 16 1 0 32 [18,0,20,21,22,23,24] Q Q Q Q Q (fun _=>G5 (j:=({x23 with Reads:=x21}:aG))) fun u4 s20=>fun hq4=>match u4,hq4 with | _,rfl=>sF Q<|lJ aS 15 [25,26,27,28,29,30,31] [] x27 (s18.1,s17,s20.1,s20.2,s18.2.2.2.2.1,s18.2.2.2.2.2.1,s18.2.2.2.2.2.2) Q Q Q Q Q Q Q Q<|fR Q Q<|nT s9 b9.symm [] [(12,9)] Q Q Q<|fR Q Q<|jY (p:=((t.aP.set w_.toNat x6.2.2).set w_.toNat x27)) () [32,12,1,2,3,4,5,6,7,8,10,11] hF Q)) fun x26 _=>BH () [1,2,3,4,5,6,7,8,9,0,10,11] Q Q
theorem y6{l:List aU}{n:Int}{s1:AC}(h1:cZ κ s1 l):V0 prog κ 109 (K8 l n) [.h s1 l.length,I n] I:=
 cX tok call109 func109 results109 Q Q<|fun hF=>aYN Q Q Q Q<|a0H Q Q Q Q<|aW4 Q Q Q Q Q h1 Q Q hF fun hF s2 h2=>wi hF<|R8 () [14,15] (fun(p:Int×Int) (_:Unit)=>[(5,I p.1),(16,I p.2)]) [] [] (fun p _=>[]) id [] (fun(x5:Int) (_:Unit)=>[(5,I x5)]) [] (fun x5 _=>[]) Q Q (fun hF1 ⟨x3,x4⟩ _ hr1=>bY [17] Q Q (dZ 2 0 (AP x4) [14,15,16] (fun(x6:Int) (_:Unit)=>[(5,I x6)]) [] (fun x6 _=>[]) Q (JC SD Q h2 Q fun x7 _ _=>bY [22] Q Q (cY [] Q Q)<|cY [] Q Q) fun x6 _=>QO [] Q)<|OC [] Q) fun x5 _=>eJ Q Q
theorem SK{t:Table}{w_:Int}{s1 s2 s3 s4 s5 s6 s7 s8 s9 s10 s11:AC}{b0:Nat×Nat}:VS prog κ 51 (tR t w_) [.p 0 0,I w_] [b0] ([.box 0 (OE t s1 s2 s3 s4 s5 s6 s7 s8 s9 s10 s11)]++(OL t s1 s2 s3 s4 s5 s6 s7 s8 s9 s10 s11 [])) (fun(r:Table) (y:A6C)=>.t []) (fun(r:Table) (y:A6C)=>([.box 0 (OE r y.1 y.2.1 y.2.2.1 y.2.2.2.1 y.2.2.2.2.1 y.2.2.2.2.2 s7 s8 s9 s10 s11)]++(OL r y.1 y.2.1 y.2.2.1 y.2.2.2.1 y.2.2.2.2.1 y.2.2.2.2.2 s7 s8 s9 s10 s11 []))):=
 cX tok call51 func51 results51 Q Q<|mC aS 9 Q Q Q fun x1 h1 s12 h2=>fun hF=>kC 1 h2 h1 Q Q Q Q Q<|wi hF<|dZ 0 2 (uY t w_) [0,1,4] (fun(x2:Bool) (_:Unit)=>[(25,.b x2)]) [1,2,3,4,5,6,7,8,10,11,0,14] (fun x2 _=>[ow s9 (t.aP:List aG)]) Q (jZ aD [0,14] Q<|fun hF=>bd hF fun x16 hA5 hF=>aCF Q Q ((by refine cQ Q Q ?_ ?_ <;> exact have hq10:=rb hA5;wi hq10<|c0 Q (fun h=>y6 (h.o 17 Q)) fun u7=>fun hq10=>match u7,hq10 with | _,rfl=>sF Q<|iB aS 12 [15,16,17,18,19,20,21] h1 s12 Q Q Q Q Q Q Q<|fR Q Q<|jY (p:=(decide (x16<=x1.K))) () [22,1,2,3,4,5,6,7,8,10,11,0,14] hF Q)) (cQ Q Q (have hq12:=rb hA5;wi hq12<|c0 Q (fun h=>y6 (h.o 17 Q)) fun u9=>fun hq12=>match u9,hq12 with | _,rfl=>sF Q<|iB aS 12 [15,16,17,18,19,20,21] h1 s12 Q Q Q Q Q Q Q<|fR Q Q<|jY (p:=(decide (x16<=x1.K))) () [22,1,2,3,4,5,6,7,8,10,11,0,14] hF Q) ((by refine cQ Q Q ?_ ?_ <;> exact have hq13:=rb hA5;wi hq13<|c0 Q (fun h=>y6 (h.o 17 Q)) fun u10=>fun hq13=>match u10,hq13 with | _,rfl=>sF Q<|iB aS 12 [15,16,17,18,19,20,21] h1 s12 Q Q Q Q Q Q Q<|fR Q Q<|jY (p:=(decide (x16<=x1.K))) () [22,1,2,3,4,5,6,7,8,10,11,0,14] hF Q))) (cQ Q Q (have hq15:=rb hA5;wi hq15<|c0 Q (fun h=>y6 (h.o 17 Q)) fun u12=>fun hq15=>match u12,hq15 with | _,rfl=>sF Q<|iB aS 12 [15,16,17,18,19,20,21] h1 s12 Q Q Q Q Q Q Q<|fR Q Q<|jY (p:=(decide (x16<=x1.K))) () [22,1,2,3,4,5,6,7,8,10,11,0,14] hF Q) ((by refine cQ Q Q ?_ ?_ <;> exact have hq16:=rb hA5;wi hq16<|c0 Q (fun h=>y6 (h.o 17 Q)) fun u13=>fun hq16=>match u13,hq16 with | _,rfl=>sF Q<|iB aS 12 [15,16,17,18,19,20,21] h1 s12 Q Q Q Q Q Q Q<|fR Q Q<|jY (p:=(decide (x16<=x1.K))) () [22,1,2,3,4,5,6,7,8,10,11,0,14] hF Q)))) fun x2 _=>bY [25] Q Q (fun hF=>ro aS 0 12 1 Q Q Q Q hF fun x3 h3 hF s13=>sR Q<|lJ aS 13 [16,17,18,19,20,21,22] [] ({x3 with Pc:=7,K:=0}:aG) s13 Q Q Q Q Q Q Q Q<|fR Q Q<|nT s9 b9.symm [] [(11,9)] Q Q Q<|fR Q Q<|oW (hT:=tok) (s1,s2,s3,s4,s5,s6) [11,1,2,3,4,5,6,7,8,23,9,10] hF Q results51 Q Q Q Q)<|jZ aD [12] Q<|fun hF=>ro aS 0 12 1 Q Q Q Q hF fun x4 h5 hF s14=>wi hF<|aFV 14 1 16 10 11 0 0 8 [1,2,3,4,5,6,7] Q Q Q Q Q (fun _=>EL) fun x5 s15=>bY [66,72] Q Q (fun hF=>sF Q<|lJ aS 13 [16,17,18,19,20,21,22] [] ({x4 with Sub:=x5.1}:aG) s14 Q Q Q Q Q Q Q Q<|fR Q Q<|nT s9 b9.symm [] [(11,9)] Q Q Q<|fR Q Q<|oW (hT:=tok) s15 [11,23,24,25,26,27,28,29,8,30,9,10] hF Q results51 Q Q Q Q)<|dZ 0 2 (fun(p:Bool×Table)=>fK w_ p.1 p.2) [0,4] (fun(p:Bool×Table) (_:Unit)=>[(73,.b p.1)]) [12] (fun p _=>(OL p.2 s15.1 s15.2.1 s15.2.2.1 s15.2.2.2.1 s15.2.2.2.2.1 s15.2.2.2.2.2 s7 s8 s9 s10 s11 [.box 0 (OE p.2 s15.1 s15.2.1 s15.2.2.1 s15.2.2.2.1 s15.2.2.2.2.1 s15.2.2.2.2.2 s7 s8 s9 s10 s11)])) Q (iV [79,80] Q Q (fun hF=>sF Q<|lJ aS 13 [16,17,18,19,20,21,22] [] ({x4 with Sub:=x5.1}:aG) s14 Q Q Q Q Q Q Q Q<|fR Q Q<|nT s9 b9.symm [] [(11,9)] Q Q Q<|fR Q Q<|jY (p:=(true,({t with aB:=x5.2,aP:=t.aP.set w_.toNat ({x4 with Sub:=x5.1}:aG)}:Table))) () [23,24,25,26,27,28,29,8,30,9,10,11,12] hF Q)<|c0 Q (fun _=>kM) fun x15=>iV [87,88,89] Q Q (fun hF=>sF Q<|lJ aS 13 [16,17,18,19,20,21,22] [] ({x4 with Sub:=x5.1}:aG) s14 Q Q Q Q Q Q Q Q<|fR Q Q<|nT s9 b9.symm [] [(11,9)] Q Q Q<|fR Q Q<|jY (p:=(true,({t with aB:=x5.2,aP:=t.aP.set w_.toNat ({x4 with Sub:=x5.1}:aG)}:Table))) () [23,24,25,26,27,28,29,8,30,9,10,11,12] hF Q)<|fun hF=>sF Q<|lJ aS 13 [16,17,18,19,20,21,22] [] ({x4 with Sub:=x5.1}:aG) s14 Q Q Q Q Q Q Q Q<|fR Q Q<|nT s9 b9.symm [] [(11,9)] Q Q Q<|fR Q Q<|jY (p:=(decide (6<=(x4.fQ.length:Int)),({t with aB:=x5.2,aP:=t.aP.set w_.toNat ({x4 with Sub:=x5.1}:aG)}:Table))) () [23,24,25,26,27,28,29,8,30,9,10,11,12] hF Q) fun⟨x6,x7⟩ _=>bY [73] Q Q (fun hF=>ro aS 8 12 1 Q Q Q Q hF fun x8 h7 hF s16=>wi hF<|dR 14 1 0 32 [16,17,18,19,20,21,22] Q Q Q Q Q (fun _=>dB) fun x9 _=>fun hF=>sF Q<|lJ aS 13 [23,24,25,26,27,28,29] [] x9 s16 Q Q Q Q Q Q Q Q<|fR Q Q<|nT s9 b9.symm [] [(11,9)] Q Q Q<|fR Q Q<|oW (hT:=tok) s15 [11,0,1,2,3,4,5,6,7,30,9,10] hF Q results51 Q Q Q Q)<|dZ 0 2 (uX w_) [0,4] (fun(x10:Table) (_:Unit)=>[]) [12] (fun x10 _=>(OL x10 s15.1 s15.2.1 s15.2.2.1 s15.2.2.2.1 s15.2.2.2.2.1 s15.2.2.2.2.2 s7 s8 s9 s10 s11 [.box 0 (OE x10 s15.1 s15.2.1 s15.2.2.1 s15.2.2.2.1 s15.2.2.2.2.1 s15.2.2.2.2.2 s7 s8 s9 s10 s11)])) Q (jZ aD [11,12] Q<|fun hF=>bd hF fun x14 hA3 hF=>nd hF fun hA4 hF=>cQ Q Q (have hq5:=rb hA3;ro aS 8 12 1 Q Q Q Q hq5 fun u5 h17 hq5 s23=>match u5,hq5 with | _,rfl=>lt1 Q bC Q Q Q Q fun s24=>have hq6:=rn hA4;ap 20 bC Q Q Q Q Q Q Q (fun h=>(h.o 23 Q)) Q Q hq6 fun hq6 s25=>sF Q<|lJ aS 13 [16,17,18,19,20,21,22] [] ({x14 with fQ:=x14.fQ++([x14.Sub.Out])}:aG) (s23.1,s23.2.1,s23.2.2.1,s23.2.2.2.1,s25,s23.2.2.2.2.2.1,s23.2.2.2.2.2.2) Q Q Q Q Q Q Q Q<|fR Q Q<|nT s9 b9.symm [] [(11,9)] Q Q Q<|fR Q Q<|jY (p:=(({x7 with aP:=x7.aP.set w_.toNat ({x14 with fQ:=x14.fQ++([x14.Sub.Out])}:aG)}:Table))) () [0,1,2,3,4,5,6,7,24,9,10,11,12] hF Q) (have hq7:=rb hA3;ro aS 8 12 1 Q Q Q Q hq7 fun u6 h19 hq7 s26=>match u6,hq7 with | _,rfl=>(by refine cQ Q Q ?_ ?_ <;> exact lt1 Q bC Q Q Q Q fun s27=>have hq8:=rn hA4;ap 20 bC Q Q Q Q Q Q Q (fun h=>(h.o 23 Q)) Q Q hq8 fun hq8 s28=>sF Q<|lJ aS 13 [16,17,18,19,20,21,22] [] ({x14 with fQ:=x14.fQ++([x14.Sub.Out])}:aG) (s26.1,s26.2.1,s26.2.2.1,s26.2.2.2.1,s28,s26.2.2.2.2.2.1,s26.2.2.2.2.2.2) Q Q Q Q Q Q Q Q<|fR Q Q<|nT s9 b9.symm [] [(11,9)] Q Q Q<|fR Q Q<|jY (p:=(({x7 with aP:=x7.aP.set w_.toNat ({x14 with fQ:=x14.fQ++([x14.Sub.Out])}:aG)}:Table))) () [0,1,2,3,4,5,6,7,24,9,10,11,12] hF Q))) fun x10 _=>dZ 0 2 uW [0] (fun(x11:Table) (_:Unit)=>[]) [] (fun x11 _=>(OL x11 s15.1 s15.2.1 s15.2.2.1 s15.2.2.2.1 s15.2.2.2.2.1 s15.2.2.2.2.2 s7 s8 s9 s10 s11 [.box 0 (OE x11 s15.1 s15.2.1 s15.2.2.1 s15.2.2.2.1 s15.2.2.2.2.1 s15.2.2.2.2.2 s7 s8 s9 s10 s11)])) Q (jZ aD [11,12] Q<|fun hF=>bd hF fun x12 hA1 hF=>bd hF fun x13 hA2 hF=>cQ Q Q (have hq1:=rb hA1;ro aS 8 12 1 Q Q Q Q hq1 fun u1 h11 hq1 s18=>match u1,hq1 with | _,rfl=>have hq2:=rb hA2;wi hq2<|c0 Q (fun _=>nA) fun u2=>fun hq2=>match u2,hq2 with | _,rfl=>sF Q<|lJ aS 13 [16,17,18,19,20,21,22] [] ({x12 with K:=aZ (x12.K+1),Sub:=x13}:aG) s18 Q Q Q Q Q Q Q Q<|fR Q Q<|nT s9 b9.symm [] [(11,9)] Q Q Q<|fR Q Q<|jY (p:=(({x10 with aP:=x10.aP.set w_.toNat ({x12 with K:=aZ (x12.K+1),Sub:=x13}:aG)}:Table))) () [0,1,2,3,4,5,6,7,23,9,10,11] hF Q) (have hq3:=rb hA2;wi hq3<|c0 Q (fun _=>nA) fun u3=>fun hq3=>match u3,hq3 with | _,rfl=>have hq4:=rb hA1;ro aS 8 12 1 Q Q Q Q hq4 fun u4 h13 hq4 s19=>match u4,hq4 with | _,rfl=>sF Q<|lJ aS 13 [16,17,18,19,20,21,22] [] ({x12 with K:=aZ (x12.K+1),Sub:=x13}:aG) s19 Q Q Q Q Q Q Q Q<|fR Q Q<|nT s9 b9.symm [] [(11,9)] Q Q Q<|fR Q Q<|jY (p:=(({x10 with aP:=x10.aP.set w_.toNat ({x12 with K:=aZ (x12.K+1),Sub:=x13}:aG)}:Table))) () [0,1,2,3,4,5,6,7,23,9,10,11] hF Q)) fun x11 _=>BH s15 [11,0,1,2,3,4,5,6,7,8,9,10] Q Q
theorem N2{x:Int}:V0 prog κ 276 (cmp_isNaN_int x) [I x] .b:=
 cX tok call276 func276 results276 Q Q<|eJ Q Q
theorem PU{x y:Int}:V0 prog κ 252 (cmp_Less_int x y) [I x,I y] .b:=
 cX tok call252 func252 results252 Q Q<|fW 0 0 pZ [] 4 [] Q (c0 Q (fun _=>N2) fun x2=>iV [6,7] Q Q (c0 Q (fun _=>N2) fun x3=>iV [10,11,12] Q Q (cY [] Q Q)<|cY [] Q Q)<|cY [] Q Q) fun x1=>eJ Q Q
theorem y9{data:List Int}{a_ b:Int}{s1:AC}:VS prog κ 246 (fT data a_ b) [.h s1 data.length,I a_,I b] [] [ow s1 (data:List Int)] (fun(r:(List Int)) (y:Unit)=>.t []) (fun(r:(List Int)) (y:Unit)=>[.o (aW [AC.v s1 data.length] r)]):=
 cX tok call246 func246 results246 Q Q<|R8 () [1,2] (fun(p:(List Int)×Int) (_:Unit)=>[(0,.h s1 p.1.length),(6,I p.2)]) [0] [] (fun p _=>[ow s1 (p.1:List Int)]) id [] (fun(x5:(List Int)) (_:Unit)=>[(0,.h s1 x5.length)]) [] (fun x5 _=>[ow s1 (x5:List Int)]) Q Q (fun hF1 ⟨x3,x4⟩ _ hr1=>fun hG1=>nd hG1 fun hl3 hG1=>wi hG1<|bY [12] Q Q (R8 () [1,2,6] (fun(p:(List Int)×Int) (_:Unit)=>[(0,.h s1 p.1.length),(7,I p.2)]) [0] [] (fun p _=>[ow s1 (p.1:List Int)]) id [1,2,6] (fun(x10:(List Int)) (_:Unit)=>[(0,.h s1 x10.length)]) [] (fun x10 _=>[ow s1 (x10:List Int)]) Q Q (fun hF2 ⟨x8,x9⟩ _ hr2=>fun hG2=>nd hG2 fun hl6 hG2=>wi hG2<|fW 0 0 (cR data x8 x9) [0,1,2,6,7] 30 [0] Q (jZ aD [] Q<|iV [18,19] Q Q (mC oI 0 Q Q Q fun x16 h27 _ h28=>fun hG2=>kC 0 h28 h27 Q Q Q Q Q<|D4 oI 1 [] h27 () Q Q Q Q Q Q Q Q Q<|wi hG2<|mC oI 4 Q Q Q fun x17 h29 _ h30=>fun hG2=>kC 1 h30 h29 Q Q Q Q Q<|bd hG2 fun x18 hA2 hG2=>cQ Q Q (D4 oI 5 [] h29 () Q Q Q Q Q Q Q Q Q<|have hq8:=rb h27;ro oI 8 3 0 Q Q Q Q hq8 fun u8 h35 hq8 _=>match u8,hq8 with | _,rfl=>D4 oI 9 [] h35 () Q Q Q Q Q Q Q Q Q<|have hq9:=rb h29;ro oI 12 7 1 Q Q Q Q hq9 fun u9 h37 hq9 _=>match u9,hq9 with | _,rfl=>have hq10:=rb hA2;wi hq10<|c0 Q (fun _=>PU) fun u10=>fun hq10=>match u10,hq10 with | _,rfl=>sF Q<|iB oI 13 [] h37 () Q Q Q Q Q Q Q<|jY (p:=(x18)) () [16] hG2 Q) (D4 oI 5 [] h29 () Q Q Q Q Q Q Q Q Q<|have hq11:=rb h27;ro oI 8 3 0 Q Q Q Q hq11 fun u11 h39 hq11 _=>match u11,hq11 with | _,rfl=>have hq12:=rb hA2;wi hq12<|c0 Q (fun _=>PU) fun u12=>fun hq12=>match u12,hq12 with | _,rfl=>sF Q<|iB oI 9 [] h39 () Q Q Q Q Q Q Q<|jY (p:=(x18)) () [12] hG2 Q))<|cY (p:=(false)) [0] Q Q) fun x11=>fun hG2=>nd hG2 fun hl7 hG2=>wi hG2<|bY [30] Q Q (dZ 0 0 (gW data x9) [1,2,6,7] (fun(x12:(List Int)) (_:Unit)=>[(0,.h s1 x12.length)]) [] (fun x12 _=>[ow s1 (x12:List Int)]) Q (jZ aD [] Q<|mC oI 0 Q Q Q fun x13 h1 _ h2=>fun hG2=>kC 0 h2 h1 Q Q Q Q Q<|D4 oI 1 [] h1 () Q Q Q Q Q Q Q Q Q<|wi hG2<|mC oI 4 Q Q Q fun x14 h3 _ h4=>fun hG2=>kC 1 h4 h3 Q Q Q Q Q<|bd hG2 fun x15 hA1 hG2=>cQ Q Q (D4 oI 5 [] h3 () Q Q Q Q Q Q Q Q Q<|have hq1:=rb h1;ro oI 8 3 0 Q Q Q Q hq1 fun u1 h13 hq1 _=>match u1,hq1 with | _,rfl=>D4 oI 9 [] h13 () Q Q Q Q Q Q Q Q Q<|have hq2:=rb h3;ro oI 12 7 1 Q Q Q Q hq2 fun u2 h15 hq2 _=>match u2,hq2 with | _,rfl=>D4 oI 13 [] h15 () Q Q Q Q Q Q Q Q Q<|have hq3:=rb h3;wi hq3<|mC oI 16 Q Q Q fun u3 h17 _ h18=>fun hq3=>kC 2 h18 h17 Q Q Q Q Q<|match u3,hq3 with | _,rfl=>ceS oI 17 [] [0,33,35,38,43] x13 () Q Q Q Q Q Q Q Q Q Q<|have hq4:=rb hA1;wi hq4<|mC oI 20 Q Q Q fun u4 h19 _ h20=>fun hq4=>kC 3 h20 h19 Q Q Q Q Q<|match u4,hq4 with | _,rfl=>sF Q<|lJ oI 21 [] [0,33,35,38,43] x14 () Q Q Q Q Q Q Q Q<|jY (p:=((x8.set x9.toNat x13).set ((aZ (x9 - 1)).toNat) x14)) () [24] hG2 Q) (D4 oI 5 [] h3 () Q Q Q Q Q Q Q Q Q<|have hq5:=rb h1;ro oI 8 3 0 Q Q Q Q hq5 fun u5 h21 hq5 _=>match u5,hq5 with | _,rfl=>D4 oI 9 [] h21 () Q Q Q Q Q Q Q Q Q<|have hq6:=rb h3;wi hq6<|mC oI 12 Q Q Q fun u6 h23 _ h24=>fun hq6=>kC 2 h24 h23 Q Q Q Q Q<|match u6,hq6 with | _,rfl=>ceS oI 13 [] [0,33,35,38,43] x13 () Q Q Q Q Q Q Q Q Q Q<|have hq7:=rb hA1;wi hq7<|mC oI 16 Q Q Q fun u7 h25 _ h26=>fun hq7=>kC 3 h26 h25 Q Q Q Q Q<|match u7,hq7 with | _,rfl=>sF Q<|lJ oI 17 [] [0,33,35,38,43] x14 () Q Q Q Q Q Q Q Q<|jY (p:=((x8.set x9.toNat x13).set ((aZ (x9 - 1)).toNat) x14)) () [20] hG2 Q)) fun x12 _=>fun hG2=>nd hG2 fun hl8 hG2=>wi hG2<|QO [0] Q)<|OC [0] Q) fun x10 _=>fun hG1=>nd hG1 fun hl5 hG1=>wi hG1<|QO [0] Q)<|OC [0] Q) fun x5 _=>fun hF=>nd hF fun hl2 hF=>sF Q<|pnR 0 hl2 Q<|oW (hT:=tok) () [0] hF Q results246 Q Q Q Q
theorem FU{data:List Int}{a_ b limit:Int}{s1:AC}:VS prog κ 208 (mA data a_ b limit) [.h s1 data.length,I a_,I b,I limit] [] [ow s1 (data:List Int)] (fun(r:(List Int)) (y:Unit)=>.t []) (fun(r:(List Int)) (y:Unit)=>[.o (aW [AC.v s1 data.length] r)]):=
 cX tok call208 func208 results208 Q Q<|lrW () [0,1,2,3,8,9] (fun(_:Unit) (_:Unit)=>[]) [0] [0] (fun _ _=>[]) Q Q (fun hF1 _ _ hr1=>bY [23] Q Q (HM [0] Q Q Q Q (fun _=>y9) fun x1 _=>fun hG1=>un 1 [0,24] [] [] Q Q Q Q Q Q fun hl2=>sR Q<|pnR 1 hl2 Q<|oW (hT:=tok) () [1] (re hG1 Q hr1 hF1) Q results208 Q Q Q Q)<|bY [29] Q Q (fun hG1=>nomatch hG1)<|fun hG1=>nomatch hG1)
theorem T7{x:Int}:V0 prog κ 256 (NT x) [.i .u64 x] I:=
 cX tok call256 func256 results256 Q Q<|dZ 0 0 (fun(p:Int×Int)=>yD p.1 p.2) [] (fun(p:Int×Int) (_:Unit)=>[(0,.i .u64 p.1),(2,I p.2)]) [] (fun p _=>[]) Q (bY [4] Q Q (cY (p:=(mN .u64 x 32,32)) [] Q Q)<|cY (p:=(x,0)) [] Q Q) fun⟨x1,x2⟩ _=>dZ 0 0 (fun(p:Int×Int)=>yC p.1 p.2) [] (fun(p:Int×Int) (_:Unit)=>[(0,.i .u64 p.1),(2,I p.2)]) [] (fun p _=>[]) Q (bY [8] Q Q (cY (p:=(mN .u64 x1 16,aZ (x2+16))) [] Q Q)<|cY (p:=(x1,x2)) [] Q Q) fun⟨x3,x4⟩ _=>dZ 0 0 (fun(p:Int×Int)=>yA p.1 p.2) [] (fun(p:Int×Int) (_:Unit)=>[(0,.i .u64 p.1),(2,I p.2)]) [] (fun p _=>[]) Q (bY [14] Q Q (cY (p:=(mN .u64 x3 8,aZ (x4+8))) [] Q Q)<|cY (p:=(x3,x4)) [] Q Q) fun⟨x5,x6⟩ _=>fun hF=>qsi Q Q Q Q Q hF fun x7 _ hF=>wi hF<|eJ Q Q
theorem YC{x:Int}:V0 prog κ 209 (vO x) [.i .u64 x] I:=
 cX tok call209 func209 results209 Q Q<|c0 Q (fun _=>T7) fun x1=>eJ Q Q
theorem T8{x:List Int}{s1:AC}:VS prog κ 159 (wT x) [.h s1 x.length] [] [ow s1 (x:List Int)] (fun(r:(List Int)) (y:Unit)=>.t []) (fun(r:(List Int)) (y:Unit)=>[.o (aW [AC.v s1 x.length] r)]):=
 cX tok call159 func159 results159 Q Q<|c0 Q (fun _=>YC) fun x1=>HM [0] Q Q Q Q (fun _=>FU) fun x2 _=>fun hF=>un 1 [0,3,5] [] [] Q Q Q Q Q Q fun hl1=>sF Q<|pnR 1 hl1 Q<|oW (hT:=tok) () [1] hF Q results159 Q Q Q Q
theorem PW{s:List Int}{s1:AC}:VS prog κ 160 (slices_Compact_int s) [.h s1 s.length] [] [ow s1 s] (fun r (y:AC)=>.h y r.length) (fun r y=>[ow y r]):=
 a2L a03 call160
theorem aA6{l:List aU}{s1:AC}(h1:cZ κ s1 l):VS prog κ 111 (FM l) [.h s1 l.length] [] [] (fun r (y:AC)=>.h y r.length) (fun r y=>[ow y r]):=
 cX tok call111 func111 results111 Q Q<|fun hF=>lt0 (α:=Int) bC Q Q Q Q fun s2=>wi hF<|R8 s2 [8,9] (fun(p:(List Int)×Int) (s4:AC)=>[(3,.h s4 p.1.length),(10,I p.2)]) [0] [] (fun p s4=>[ow s4 (p.1:List Int)]) id [] (fun(x5:(List Int)) (s5:AC)=>[(3,.h s5 x5.length)]) [] (fun x5 s5=>[ow s5 (x5:List Int)]) Q Q (fun hF1 ⟨x3,x4⟩ s4 hr1=>bY [11] Q Q (dZ 2 0 (wU x4) [8,9,10] (fun(x8:(List Int)) (s7:AC)=>[(3,.h s7 x8.length)]) [] (fun x8 s7=>[ow s7 (x8:List Int)]) Q (JC SD Q h1 Q fun x9 _ _=>c0 Q (fun _=>MV) fun x10=>bY [18] Q Q (fun hG1=>lt1 Q bC Q Q Q Q fun s8=>ap 0 bC Q Q Q Q Q Q Q (fun h=>(h.o 3 Q)) Q Q hG1 fun hG1 s9=>wi hG1<|qH s9 [0] Q Q)<|qH s4 [0] Q Q) fun x8 s7=>nxW s7 [0] Q)<|bkW s4 [0] Q) fun x5 s5=>wm (F:=EB x5) Q<|HM [0] Q Q Q Q (fun _=>T8) fun x6 _=>fun hF=>un 1 [3,24] [] [] Q Q Q Q Q Q fun hl2=>wi hF<|HM [1] Q Q Q Q (fun _=>PW) fun x7 s6=>lE s6 [2] Q Q
theorem G7{s:List Seen}{f:(Seen->Option Bool)}{s1:AC}{g_f:FuncId}{cap_f:List Value}(h1:cZ κ s1 s)(h_f:SS prog κ (aID:CB Seen) .b g_f cap_f f):V0 prog κ 112 (gO s f) [.h s1 s.length,.k (.func (.func g_f) #[] cap_f.toArray)] .b:=
 cX tok call112 func112 results112 Q Q<|c0 Q (fun h=>y5 (h.a h1) (h.u1 h_f)) fun x1=>eJ Q Q
theorem Q3{s:Seen}{k0:Int}{k1:bV}{b0 b1 b2:Nat×Nat}:VS prog κ 113 (rG s k0 k1) [.g [I s.bV,I s.fX],.p 0 0,.p 1 0] [b0,b1,b2] [.ro 0 [I k0],.ro 1 [.p 2 0],.ro 2 [I k1.Head,I k1.fX,I k1.jB]] (fun r (_:Unit)=>.b r) (fun _ _=>[]):=
 cX tok call113 func113 results113 Q Q<|fW 0 4 mX [] 4 [] Q (jZ aD [0,1,2,3] Q<|iV [8,9] Q Q (cY [] Q Q)<|cY [] Q Q) fun x1=>eJ Q Q
theorem T9{t:Table}{w_:Int}{s1 s2 s3 s4 s5 s6 s7 s8 s9 s10 s11:AC}{b0:Nat×Nat}:VS prog κ 52 (wV t w_) [.p 0 0,I w_] [b0] ([.box 0 (OE t s1 s2 s3 s4 s5 s6 s7 s8 s9 s10 s11)]++(OL t s1 s2 s3 s4 s5 s6 s7 s8 s9 s10 s11 [])) (fun(r:Table) (y:AC)=>.t []) (fun(r:Table) (y:AC)=>([.box 0 (OE r s1 s2 s3 s4 s5 s6 s7 s8 s9 s10 y)]++(OL r s1 s2 s3 s4 s5 s6 s7 s8 s9 s10 y []))):=
 cX tok call52 func52 results52 Q Q<|mC aS 9 Q Q Q fun x1 h1 s12 h2=>fun hF=>kC 1 h2 h1 Q Q Q Q Q<|wi hF<|c1 Q (fun h=>aA6 (h.o 17 Q)) fun x2 s13=>dZ 0 2 (fun(p:(List bV)×(List aG))=>lR t w_ x2 p.1 p.2) [0,1,4,5] (fun(p:(List bV)×(List aG)) (_:Unit)=>[]) [22,1,2,3,4,5,6,7,10,11,14] (fun p _=>[ow s8 (p.1:List bV),ow s9 (p.2:List aG),.box 0 [.h s1 t.aB.Mem.Heap.Bytes.length,.h s2 t.aB.Mem.Heap.Class.length,.h s3 t.aB.Mem.aA.Global.length,.h s4 t.aB.Mem.aA.Own.length,I t.aB.aJ.aN,.h s5 t.aB.aJ.cN.length,.h s6 t.aB.bO.length,.h s7 t.aB.BW.length,.h s8 p.1.length,.h s9 p.2.length,.h s10 t.gL.length,.h s11 t.Log.length,I t.aE]]) Q (bY [25] Q Q (mC oI 22 Q Q Q fun x7 h7 _ h8=>fun hF=>kC 2 h8 h7 Q Q Q Q Q<|D4 oI 23 [] h7 () Q Q Q Q Q Q Q Q Q<|wi hF<|jZ aD [0,14,25,26] Q<|mC wA 8 Q Q Q fun x8 h9 _ h10=>fun hF=>kC 4 h10 h9 Q Q Q Q Q<|wi hF<|dZ 0 6 (gA t w_ x2 x7) [0,1,4,5,6,7] (fun(x9:Bool) (_:Unit)=>[(39,.b x9)]) [27,1,2,3,4,5,6,7,10,11,0,14,30] (fun x9 _=>[ow s8 (t.cH:List bV),ow s9 (t.aP:List aG),.ro 3 [I x7],.ro 5 [.p 4 0]]) Q (fun hF=>shS [3,5] Q Q<|wi hF<|iV [44,45] Q Q (fun hF=>sF Q<|iB wA 28 [] h9 () Q Q Q Q Q Q Q<|fR Q Q<|iB aS 12 [15,16,17,18,19,20,21] h1 s12 Q Q Q Q Q Q Q<|fR Q Q<|jY () [32,33,26,31,27,1,2,3,4,5,6,7,10,11,0,14,30] hF Q)<|fun hF=>mf [3,5] Q Q Q<|wi hF<|clP (n3:=4) [26,31,29] Q Q Q Q (fun h=>fun hB=>G7 (h.o 16 Q) (fkP (xs:=[.p 0 0,.p 1 0]) call113 hB Q fun _ _=>Q3)) fun x19=>fun hF=>sF Q<|iB wA 28 [] h9 () Q Q Q Q Q Q Q<|fR Q Q<|iB aS 12 [15,16,17,18,19,20,21] h1 s12 Q Q Q Q Q Q Q<|fR Q Q<|jY () [32,33,26,31,27,1,2,3,4,5,6,7,10,11,0,14,30] hF Q) fun x9 _=>bY [39] Q Q (fun hF=>ro aS 1 15 1 Q Q Q Q hF fun x10 h11 hF s25=>wi hF<|dR 18 1 0 32 [20,21,22,23,24,25,26] Q Q Q Q Q (fun _=>dB) fun x11 _=>fun hF=>sR Q<|lJ aS 17 [27,28,29,30,31,32,33] [] x11 s25 Q Q Q Q Q Q Q Q<|fR Q Q<|nT s9 b9.symm [] [(14,9)] Q Q Q<|fR Q Q<|oW (hT:=tok) s11 [14,5,6,7,8,9,10,11,0,34,12,13] hF Q results52 Q Q Q Q)<|fun hF=>ro wA 0 16 4 Q Q Q Q hF fun x12 h13 hF _=>wi hF<|bY [55,60] Q Q (fun hF=>ro aS 1 15 1 Q Q Q Q hF fun x13 h15 hF s26=>wi hF<|dR 21 1 0 32 [23,24,25,26,27,28,29] Q Q Q Q Q (fun _=>dB) fun x14 _=>fun hF=>sR Q<|lJ aS 20 [30,31,32,33,34,35,36] [] x14 s26 Q Q Q Q Q Q Q Q<|fR Q Q<|nT s9 b9.symm [] [(14,9)] Q Q Q<|fR Q Q<|iB wA 17 [] h13 () Q Q Q Q Q Q Q<|fR Q Q<|oW (hT:=tok) s11 [14,5,6,7,8,9,10,11,38,37,12,13] hF Q results52 Q Q Q Q)<|dZ 1 6 (lS t w_ x2 x7 x12) [0,1,4,5] (fun(x15:(List aG)) (_:Unit)=>[]) [4,5,6,7,8,9,10,11,12,13,15] (fun x15 _=>[ow s8 (t.cH.set x7.toNat ({x12 with jB:=aZ (w_+1)}:bV):List bV),ow s9 (x15:List aG),.box 0 [.h s1 t.aB.Mem.Heap.Bytes.length,.h s2 t.aB.Mem.Heap.Class.length,.h s3 t.aB.Mem.aA.Global.length,.h s4 t.aB.Mem.aA.Own.length,I t.aB.aJ.aN,.h s5 t.aB.aJ.cN.length,.h s6 t.aB.bO.length,.h s7 t.aB.BW.length,.h s8 (t.cH.set x7.toNat ({x12 with jB:=aZ (w_+1)}:bV)).length,.h s9 x15.length,.h s10 t.gL.length,.h s11 t.Log.length,I t.aE]]) Q (jZ aD [2,3,14,15,16,19] Q<|fun hF=>ro aS 1 15 1 Q Q Q Q hF fun x17 h19 hF s28=>wi hF<|c0 Q (fun h=>qW (h.o 28 Q)) fun x18=>bY [74] Q Q (dZ 0 6 (fun(_:Unit)=>yE t w_ x2 x7 x12 x17) [0,1,4,5] (fun(_:Unit) (_:Unit)=>[]) [4,5,6,7,8,9,10,11,12,13,15] (fun _ _=>[ow s8 (t.cH.set x7.toNat ({x12 with jB:=aZ (w_+1)}:bV):List bV),ow s9 (t.aP.set w_.toNat ({x17 with bR:=x17.bR++([x7])}:aG):List aG),.box 0 [.h s1 t.aB.Mem.Heap.Bytes.length,.h s2 t.aB.Mem.Heap.Class.length,.h s3 t.aB.Mem.aA.Global.length,.h s4 t.aB.Mem.aA.Own.length,I t.aB.aJ.aN,.h s5 t.aB.aJ.cN.length,.h s6 t.aB.bO.length,.h s7 t.aB.BW.length,.h s8 (t.cH.set x7.toNat ({x12 with jB:=aZ (w_+1)}:bV)).length,.h s9 (t.aP.set w_.toNat ({x17 with bR:=x17.bR++([x7])}:aG)).length,.h s10 t.gL.length,.h s11 t.Log.length,I t.aE]]) Q (jZ aD [2,3,14,15,16,19,22] Q<|fun hF=>nd hF fun hA2 hF=>(by refine cQ Q Q ?_ ?_ <;> exact lt1 Q bC Q Q Q Q fun s31=>have hq4:=rn hA2;ap 28 bC Q Q Q Q Q Q Q (fun h=>(h.o 30 Q)) Q Q hq4 fun hq4 s32=>sF Q<|lJ aS 20 [23,24,25,26,27,28,29] [] ({x17 with bR:=x17.bR++([x7])}:aG) (s28.1,s28.2.1,s28.2.2.1,s28.2.2.2.1,s28.2.2.2.2.1,s32,s28.2.2.2.2.2.2) Q Q Q Q Q Q Q Q<|fR Q Q<|nT s9 b9.symm [] [(14,9)] Q Q Q<|fR Q Q<|lJ wA 17 [] [] ({x12 with jB:=aZ (w_+1)}:bV) () Q Q Q Q Q Q Q Q<|fR Q Q<|nT s8 b9.symm [] [(14,8)] Q Q Q<|fR Q Q<|jY (p:=()) () [32,31,14,4,5,6,7,8,9,10,11,12,13,15] hF Q)) fun _ _=>cY (p:=(t.aP.set w_.toNat ({x17 with bR:=x17.bR++([x7])}:aG))) [0,1,2,3,4,5,6,7,8,9,10,11,12,13] Q Q)<|fun hF=>sF Q<|iB aS 20 [23,24,25,26,27,28,29] h19 s28 Q Q Q Q Q Q Q<|fR Q Q<|lJ wA 17 [] [] ({x12 with jB:=aZ (w_+1)}:bV) () Q Q Q Q Q Q Q Q<|fR Q Q<|nT s8 b9.symm [] [(14,8)] Q Q Q<|fR Q Q<|jY () [31,30,14,4,5,6,7,8,9,10,11,12,13,15] hF Q) fun x15 _=>fun hF=>ro aS 1 13 1 Q Q Q Q hF fun x16 h17 hF s27=>sF Q<|lJ aS 14 [17,18,19,20,21,22,23] [] ({x16 with K:=aZ (x16.K+1)}:aG) s27 Q Q Q Q Q Q Q Q<|fR Q Q<|nT s9 b9.symm [] [(2,9)] Q Q Q<|fR Q Q<|jY (p:=(t.cH.set x7.toNat ({x12 with jB:=aZ (w_+1)}:bV),x15.set w_.toNat ({x16 with K:=aZ (x16.K+1)}:aG))) () [0,24,2,3,4,5,6,7,8,9,10,11,12,13] hF Q)<|fun hF=>sF Q<|iB aS 12 [15,16,17,18,19,20,21] h1 s12 Q Q Q Q Q Q Q<|fR Q Q<|jY (p:=(t.cH,t.aP)) () [8,23,0,22,1,2,3,4,5,6,7,10,11,14] hF Q) fun⟨x3,x4⟩ _=>fun hF=>ro aS 1 13 1 Q Q Q Q hF fun x5 h3 hF s14=>wi hF<|bY [98] Q Q (dZ 0 2 (fun(_:Unit)=>pE t w_ x3 x4 x5) [0,4] (fun(_:Unit) (s15:AC)=>[]) [4,5,6,7,8,9,10,0,11,13] (fun _ s15=>[ow s9 (x4:List aG),ow s15 (t.Log++([(⟨2,w_,x5.aE,0,[],[]⟩:jS)]):List jS),.box 0 [.h s1 t.aB.Mem.Heap.Bytes.length,.h s2 t.aB.Mem.Heap.Class.length,.h s3 t.aB.Mem.aA.Global.length,.h s4 t.aB.Mem.aA.Own.length,I t.aB.aJ.aN,.h s5 t.aB.aJ.cN.length,.h s6 t.aB.bO.length,.h s7 t.aB.BW.length,.h s8 x3.length,.h s9 x4.length,.h s10 t.gL.length,.h s15 (t.Log++([(⟨2,w_,x5.aE,0,[],[]⟩:jS)])).length,I t.aE]]) Q (jZ aD [13,16] Q<|fun hF=>nd hF fun hA1 hF=>cQ Q Q (nw iD Q<|nw eN Q<|QN aOX [24,25] ((⟨2,w_,x5.aE,0,[],[]⟩:jS)) (⟨none,0⟩,⟨none,0⟩) kL Q Q Q Q Q Q Q Q Q Q Q Q Q fun s19=>have hq1:=rn hA1;W4 12 26 kL Q Q Q Q Q Q Q Q Q Q Q hq1 fun hq1 s20=>sF Q<|iB aS 14 [17,18,19,20,21,22,23] h3 s14 Q Q Q Q Q Q Q<|fR Q Q<|jY (p:=()) s20 [28,27,2,4,5,6,7,8,9,10,0,11,13] hF Q) ((by refine cQ Q Q ?_ ?_ <;> exact nw iD Q<|nw eN Q<|QN aOX [24,25] ((⟨2,w_,x5.aE,0,[],[]⟩:jS)) (⟨none,0⟩,⟨none,0⟩) kL Q Q Q Q Q Q Q Q Q Q Q Q Q fun s21=>have hq2:=rn hA1;W4 12 26 kL Q Q Q Q Q Q Q Q Q Q Q hq2 fun hq2 s22=>sF Q<|iB aS 14 [17,18,19,20,21,22,23] h3 s14 Q Q Q Q Q Q Q<|fR Q Q<|jY (p:=()) s22 [28,27,2,4,5,6,7,8,9,10,0,11,13] hF Q))) fun _ s15=>fun hF=>ro aS 0 12 1 Q Q Q Q hF fun x6 h5 hF s16=>sF Q<|lJ aS 13 [16,17,18,19,20,21,22] [] ({x6 with Pc:=8,K:=0}:aG) s16 Q Q Q Q Q Q Q Q<|fR Q Q<|nT s9 b9.symm [] [(2,9)] Q Q Q<|fR Q Q<|oW (hT:=tok) s15 [2,3,4,5,6,7,8,9,10,23,11,1] hF Q results52 Q Q Q Q)<|fun hF=>sF Q<|iB aS 14 [17,18,19,20,21,22,23] h3 s14 Q Q Q Q Q Q Q<|oW (hT:=tok) s11 [2,4,5,6,7,8,9,10,0,24,11,12] hF Q results52 Q Q Q Q
theorem OH{t:Table}{w_:Int}{s1 s2 s3 s4 s5 s6 s7 s8 s9 s10 s11:AC}{b0:Nat×Nat}:VS prog κ 53 (nN t w_) [.p 0 0,I w_] [b0] ([.box 0 (OE t s1 s2 s3 s4 s5 s6 s7 s8 s9 s10 s11)]++(OL t s1 s2 s3 s4 s5 s6 s7 s8 s9 s10 s11 [])) (fun(r:Table) (y:Unit)=>.t []) (fun(r:Table) (y:Unit)=>([.box 0 (OE r s1 s2 s3 s4 s5 s6 s7 s8 s9 s10 s11)]++(OL r s1 s2 s3 s4 s5 s6 s7 s8 s9 s10 s11 []))):=
 cX tok call53 func53 results53 Q Q<|mC aS 9 Q Q Q fun x1 h1 s12 h2=>fun hF=>kC 1 h2 h1 Q Q Q Q Q<|wi hF<|dZ 0 2 (fun(_:Unit)=>pI t w_ x1) [0,1,4] (fun(_:Unit) (_:Unit)=>[(22,.b (decide ((x1.Reads.length:Int)<=x1.K)))]) [1,2,3,4,5,6,7,8,10,11,0,14] (fun _ _=>[ow s9 (t.aP:List aG)]) Q (jZ aD [0,14] Q<|fun hF=>(by refine cQ Q Q ?_ ?_ <;> exact sF Q<|iB aS 12 [15,16,17,18,19,20,21] h1 s12 Q Q Q Q Q Q Q<|fR Q Q<|jY (p:=()) () [22,1,2,3,4,5,6,7,8,10,11,0,14] hF Q)) fun _ _=>bY [22] Q Q (fun hF=>ro aS 0 12 1 Q Q Q Q hF fun x2 h3 hF s13=>sR Q<|lJ aS 13 [16,17,18,19,20,21,22] [] ({x2 with Pc:=9,K:=0}:aG) s13 Q Q Q Q Q Q Q Q<|fR Q Q<|nT s9 b9.symm [] [(11,9)] Q Q Q<|fR Q Q<|oW (hT:=tok) () [11,1,2,3,4,5,6,7,8,23,9,10] hF Q results53 Q Q Q Q)<|dZ 0 4 (fun(p:Int×Int)=>pH t w_ p.1 p.2) [0,1,4] (fun(p:Int×Int) (_:Unit)=>[(5,.p 3 0)]) [1,2,3,4,5,6,7,8,0,9,10,11,12] (fun p _=>[.box 3 [I p.1,I p.2]]) Q (jZ aD [11,12] Q<|fun hF=>bd hF fun x13 hA1 hF=>bd hF fun x14 hA2 hF=>aCF Q Q (have hq1:=rb hA1;ro aS 0 12 1 Q Q Q Q hq1 fun u1 h15 hq1 s17=>match u1,hq1 with | _,rfl=>cQ Q Q (have hq2:=rb hA2;wi hq2<|mC PI 17 Q Q Q fun u2 h17 _ h18=>fun hq2=>kC 2 h18 h17 Q Q Q Q Q<|match u2,hq2 with | _,rfl=>(by refine cQ Q Q ?_ ?_ <;> exact sF Q<|iB PI 23 [] h17 () Q Q Q Q Q Q Q<|fR Q Q<|iB aS 13 [16,27,18,19,20,21,22] h15 s17 Q Q Q Q Q Q Q<|fR Q Q<|jY (p:=(x14.bV,x14.fX)) () [26,1,2,3,4,5,6,7,8,28,9,10,11,12] hF Q)) (have hq3:=rb hA2;wi hq3<|mC PI 17 Q Q Q fun u3 h19 _ h20=>fun hq3=>kC 3 h20 h19 Q Q Q Q Q<|match u3,hq3 with | _,rfl=>sF Q<|swR 3 2 Q<|fD Q Q<|iB PI 24 [] h19 () Q Q Q Q Q Q Q<|fR Q Q<|iB aS 13 [16,27,18,19,20,21,22] h15 s17 Q Q Q Q Q Q Q<|fR Q Q<|jY (p:=(x14.bV,x14.fX)) () [23,1,2,3,4,5,6,7,8,28,9,10,11,12] hF Q)) (have hq4:=rb hA1;ro aS 0 12 1 Q Q Q Q hq4 fun u4 h21 hq4 s18=>match u4,hq4 with | _,rfl=>cQ Q Q (have hq5:=rb hA2;wi hq5<|mC PI 17 Q Q Q fun u5 h23 _ h24=>fun hq5=>kC 2 h24 h23 Q Q Q Q Q<|match u5,hq5 with | _,rfl=>(by refine cQ Q Q ?_ ?_ <;> exact sF Q<|iB PI 23 [] h23 () Q Q Q Q Q Q Q<|fR Q Q<|iB aS 13 [16,27,18,19,20,21,22] h21 s18 Q Q Q Q Q Q Q<|fR Q Q<|jY (p:=(x14.bV,x14.fX)) () [26,1,2,3,4,5,6,7,8,28,9,10,11,12] hF Q)) (have hq6:=rb hA2;wi hq6<|mC PI 17 Q Q Q fun u6 h25 _ h26=>fun hq6=>kC 3 h26 h25 Q Q Q Q Q<|match u6,hq6 with | _,rfl=>sF Q<|swR 3 2 Q<|fD Q Q<|iB PI 24 [] h25 () Q Q Q Q Q Q Q<|fR Q Q<|iB aS 13 [16,27,18,19,20,21,22] h21 s18 Q Q Q Q Q Q Q<|fR Q Q<|jY (p:=(x14.bV,x14.fX)) () [23,1,2,3,4,5,6,7,8,28,9,10,11,12] hF Q)) ((by refine cQ Q Q ?_ ?_ <;> exact have hq7:=rb hA1;ro aS 0 12 1 Q Q Q Q hq7 fun u7 h27 hq7 s19=>match u7,hq7 with | _,rfl=>have hq8:=rb hA2;wi hq8<|mC PI 18 Q Q Q fun u8 h29 _ h30=>fun hq8=>kC 3 h30 h29 Q Q Q Q Q<|match u8,hq8 with | _,rfl=>sF Q<|swR 3 2 Q<|fD Q Q<|iB PI 24 [] h29 () Q Q Q Q Q Q Q<|fR Q Q<|iB aS 14 [17,27,19,20,21,22,23] h27 s19 Q Q Q Q Q Q Q<|fR Q Q<|jY (p:=(x14.bV,x14.fX)) () [13,1,2,3,4,5,6,7,8,28,9,10,11,12] hF Q))) fun⟨x3,x4⟩ _=>dZ 0 6 (fun(p:Int×Int×Int)=>pG t w_ x4 p.1 p.2.1 p.2.2) [0,1,4,5] (fun(p:Int×Int×Int) (_:Unit)=>[(6,.p 5 0)]) [1,2,3,4,5,6,7,8,9,10,11,12,13,0] (fun p _=>[.box 5 [I p.1,I p.2.1,I p.2.2]]) Q (jZ aD [0,12,13] Q<|mC wA 8 Q Q Q fun x12 h9 _ h10=>fun hF=>kC 4 h10 h9 Q Q Q Q Q<|(by refine cQ Q Q ?_ ?_ <;> exact sF Q<|iB wA 14 [] h9 () Q Q Q Q Q Q Q<|fR Q Q<|jY (p:=(x12.Head,x12.fX,x12.jB)) () [17,1,2,3,4,5,6,7,18,9,10,11,12,13,0] hF Q)) fun⟨x5,x6,x7⟩ _=>fW 0 6 (eC t w_) [0,4] 63 [1,2,3,4,5,6,7,8,9,10,11,12,13] Q (iV [49,50] Q Q (iV [55,56,57] Q Q (cY [1,2,3,4,5,6,7,8,9,10,11,12,13] Q Q)<|cY [1,2,3,4,5,6,7,8,9,10,11,12,13] Q Q)<|cY [1,2,3,4,5,6,7,8,9,10,11,12,13] Q Q) fun x8=>bY [63] Q Q (fun hF=>ro aS 8 12 1 Q Q Q Q hF fun x9 h5 hF s14=>wi hF<|dR 14 1 0 32 [16,17,18,19,20,21,22] Q Q Q Q Q (fun _=>dB) fun x10 _=>fun hF=>sR Q<|lJ aS 13 [23,24,25,26,27,28,29] [] x10 s14 Q Q Q Q Q Q Q Q<|fR Q Q<|nT s9 b9.symm [] [(11,9)] Q Q Q<|fR Q Q<|oW (hT:=tok) () [11,0,1,2,3,4,5,6,7,30,9,10] hF Q results53 Q Q Q Q)<|fun hF=>ro aS 8 12 1 Q Q Q Q hF fun x11 h7 hF s15=>sF Q<|lJ aS 13 [16,17,18,19,20,21,22] [] ({x11 with K:=aZ (x11.K+1)}:aG) s15 Q Q Q Q Q Q Q Q<|fR Q Q<|nT s9 b9.symm [] [(11,9)] Q Q Q<|fR Q Q<|oW (hT:=tok) () [11,0,1,2,3,4,5,6,7,23,9,10] hF Q results53 Q Q Q Q
theorem A5{j:aG}{x:aU}{s1 s2 s3 s4 s5 s6 s7:AC}{b0:Nat×Nat}:VS prog κ 114 (mH j x) [.p 0 0,.g [I x.Key,.b x.HJ,I x.eH]] [b0] [.box 0 [.b j.eA,.b j.Batch.Collect,.h s1 j.Batch.bK.length,I j.aE,I j.Pc,I j.At,I j.K,I j.bV,I j.fX,I j.H,I j.fP,I j.Node.Key,I j.Node.eH,I j.Node.Next,.b j.Found,I j.Code,I j.Sub.Kind,I j.Sub.A,I j.Sub.Pc,I j.Sub.E,I j.Sub.Row,I j.Sub.B,I j.Sub.H,I j.Sub.Out,I j.Sub.Code,.b j.Sub.dS,.h s2 j.Reads.length,.h s3 j.aL.length,.h s4 j.eN.length,.h s5 j.fQ.length,.h s6 j.bR.length,.h s7 j.cE.length],ow s1 (j.Batch.bK:List iD),ow s2 (j.Reads:List Seen),ow s3 (j.aL:List aU),ow s4 (j.eN:List eN),ow s5 (j.fQ:List Int),ow s6 (j.bR:List Int),ow s7 (j.cE:List Int)] (fun(r:aG) (y:Unit)=>.t []) (fun(r:aG) (y:Unit)=>[.box 0 [.b r.eA,.b r.Batch.Collect,.h s1 r.Batch.bK.length,I r.aE,I r.Pc,I r.At,I r.K,I r.bV,I r.fX,I r.H,I r.fP,I r.Node.Key,I r.Node.eH,I r.Node.Next,.b r.Found,I r.Code,I r.Sub.Kind,I r.Sub.A,I r.Sub.Pc,I r.Sub.E,I r.Sub.Row,I r.Sub.B,I r.Sub.H,I r.Sub.Out,I r.Sub.Code,.b r.Sub.dS,.h s2 r.Reads.length,.h s3 r.aL.length,.h s4 r.eN.length,.h s5 r.fQ.length,.h s6 r.bR.length,.h s7 r.cE.length],ow s1 r.Batch.bK,ow s2 r.Reads,ow s3 r.aL,ow s4 r.eN,ow s5 r.fQ,ow s6 r.bR,ow s7 r.cE]):=
 cX tok call114 func114 results114 Q Q<|bY [8] Q Q (BH () [0,1,2,3,4,5,6,7] Q Q)<|BH () [0,1,2,3,4,5,6,7] Q Q
theorem A6{m:Mem}{s1 s2 s3 s4:AC}(h1:cZ κ s1 m.Heap.Bytes)(h2:cZ κ s2 m.Heap.Class)(h3:cZ κ s3 m.aA.Global)(h4:cZ κ s4 m.aA.Own):VS prog κ 161 (pJ m) [.g (gM m s1 s2 s3 s4)] [] [] (fun r (y:A4C)=>.g (yM r y)) (fun r y=>(zM r y [])):=
 cX tok call161 func161 results161 Q Q<|jZ aD [0] Q<|c1 Q (fun h=>xH (h.a h1) (h.a h2)) fun x1 s5=>c1 Q (fun h=>hY (h.a h3) (h.a h4)) fun x2 s6=>lE (s5.1,s5.2,s6.1,s6.2) [2,3,4,5] Q Q
theorem N3{h:Heap}{s:aO}{c:Int}{s1 s2:AC}{s3:AC}(h1:cZ κ s1 h.Bytes)(h2:cZ κ s2 h.Class)(h3:cZ κ s3 s.aQ):V0 prog κ 214 (vP h s c) [.g [.h s1 h.Bytes.length,.h s2 h.Class.length],.g [.h s3 s.aQ.length],I c] .b:=
 cX tok call214 func214 results214 Q Q<|WQ 12 [2,3,10,11] [0] Out.brk [] [] Q Q (fun hF1 x2 hr1=>bY [13] Q Q (ixI Q h3 Q fun x3=>fW 0 3 (tS x2) [2,3,10,11,12] 26 [0] Q (c0 Q (fun h=>lV (h.a h1) (h.a h2)) fun x5=>iV [20,21] Q Q (cY [0] Q Q)<|c0 Q (fun h=>FR (h.a h1) (h.a h2)) fun x6=>cY [0] Q Q) fun x4=>bY [26] Q Q (U0 hr1 hF1<|eJ Q Q)<|QO [0] Q)<|OC [] Q)<|eJ Q Q
theorem MW{m:Mem}{s1 s2 s3 s4:AC}(h1:cZ κ s1 m.Heap.Bytes)(h2:cZ κ s2 m.Heap.Class)(h3:cZ κ s3 m.aA.Global)(h4:cZ κ s4 m.aA.Own):V0 prog κ 162 (B3 m) [.g (gM m s1 s2 s3 s4)] .b:=
 cX tok call162 func162 results162 Q Q<|fW 0 1 (CS m) [1] 16 [0] Q (c0 Q (fun h=>RN (h.a h1) (h.a h2)) fun x10=>iV [10,11] Q Q (cY [0] Q Q)<|c0 Q (fun h=>A3 (h.a h3) (h.a h4)) fun x11=>cY [0] Q Q) fun x1=>bY [16] Q Q (eJ Q Q)<|WQ 21 [1,19,20] [0] Out.brk [1] [0] Q Q (fun hF2 x3 hr2=>bY [22] Q Q (JC PH Q h3 Q fun x8 s6 h6=>c0 Q (fun h=>N3 (h.a h1) (h.a h2) (h.a h6)) fun x9=>bY [31] Q Q (U0 hr2 hF2<|eJ Q Q)<|QO [0] Q)<|OC [0] Q)<|WQ 37 [1,35,36] [0] Out.brk [] [] Q Q (fun hF3 x5 hr3=>bY [38] Q Q (JC PH Q h4 Q fun x6 s5 h5=>c0 Q (fun h=>N3 (h.a h1) (h.a h2) (h.a h5)) fun x7=>bY [48] Q Q (U0 hr3 hF3<|eJ Q Q)<|QO [0] Q)<|OC [] Q)<|eJ Q Q
theorem RR{h:Int}:V0 prog κ 163 (DK h) [I h] .b:=
 cX tok call163 func163 results163 Q Q<|fW 0 0 AQ [] 2 [] Q (iV [4,5] Q Q (cY [] Q Q)<|c0 Q (fun _=>kM) fun x2=>cY [] Q Q) fun x1=>eJ Q Q
theorem N4{m:Mem}{h:Int}{s1 s2 s3 s4:AC}(h1:cZ κ s1 m.Heap.Bytes)(h2:cZ κ s2 m.Heap.Class)(h3:cZ κ s3 m.aA.Global)(h4:cZ κ s4 m.aA.Own):V0 prog κ 164 (vQ m h) [.g (gM m s1 s2 s3 s4),I h] I:=
 cX tok call164 func164 results164 Q Q<|c0 Q (fun h=>J4 (h.a h1) (h.a h2) (h.a h3) (h.a h4)) fun x1=>bY [5,9] Q Q (eJ Q Q)<|c0 Q (fun h=>PR (h.a h1) (h.a h2)) fun x2=>bY [10,16] Q Q (eJ Q Q)<|eJ Q Q
theorem nC{m:Mem}{h next_:Int}{s1 s2 s3 s4:AC}(h1:cZ κ s1 m.Heap.Bytes)(h2:cZ κ s2 m.Heap.Class)(h3:cZ κ s3 m.aA.Global)(h4:cZ κ s4 m.aA.Own):VS prog κ 115 (IS m h next_) [.g (gM m s1 s2 s3 s4),I h,I next_] [] [] (fun r (y:A4C)=>.t [.g (yM r.1 y),I r.2]) (fun r y=>(zM r.1 y [])):=
 cX tok call115 func115 results115 Q Q<|c1 Q (fun h=>A6 (h.a h1) (h.a h2) (h.a h3) (h.a h4)) fun x1 s5=>dZ 0 3 (fun(p:Bool×Mem)=>AR m h next_ p.1 p.2) [1,2,3,6,8] (fun(p:Bool×Mem) (_:Unit)=>[(19,.b p.1)]) [0,1] (fun p _=>(zM p.2 s5 [.box 2 (yM p.2 s5)])) Q (c0 Q (fun h=>MW (h.a h1) (h.a h2) (h.a h3) (h.a h4)) fun x10=>iV [14,15] Q Q (cY (p:=(true,x1)) [2,3,4,5,6,0,1] Q Q)<|c0 Q (fun _=>RR) fun x11=>cY (p:=(!x11,x1)) [2,3,4,5,6,0,1] Q Q) fun⟨x2,x3⟩ _=>bY [19] Q Q (lE s5 [0,1,2,3] Q Q)<|c0 Q (fun h=>N4 (h.a h1) (h.a h2) (h.a h3) (h.a h4)) fun x4=>dZ 0 3 (GO x4) [6,8,9] (fun(x5:Mem) (_:Unit)=>[]) [6] (fun x5 _=>(zM x5 s5 [.box 2 (yM x5 s5)])) Q (bY [25] Q Q (dZ 0 3 (PA x4) [6,8,9] (fun(x6:Mem) (_:Unit)=>[]) [6] (fun x6 _=>(zM x6 s5 [.box 2 (yM x6 s5)])) Q (jZ aD [5,6] Q<|fun hF=>bd hF fun x7 hA1 hF=>bd hF fun x8 hA2 hF=>bd hF fun x9 hA3 hF=>cQ Q Q (have hq1:=rb hA1;wi hq1<|c0 Q (fun h=>sU (h.a h1) (h.a h2)) fun u1=>fun hq1=>match u1,hq1 with | _,rfl=>have hq2:=rb hA2;wi hq2<|c0 Q (fun _=>cW) fun u2=>fun hq2=>match u2,hq2 with | _,rfl=>have hq3:=rb hA3;wi hq3<|HM [0] Q Q Q Q (fun _=>fA) fun u3 _=>fun hq3=>un 7 [28] [] [(4,0)] Q Q Q Q Q Q fun hl2=>match u3,hq3 with | _,rfl=>wi hF<|cY (p:=((⟨(⟨x9,x3.Heap.Class⟩:Heap),x3.aA⟩:Mem))) [7,1,2,3,4,6] Q Q) (have hq4:=rb hA1;wi hq4<|c0 Q (fun h=>sU (h.a h1) (h.a h2)) fun u4=>fun hq4=>match u4,hq4 with | _,rfl=>cQ Q Q (have hq5:=rb hA2;wi hq5<|c0 Q (fun _=>cW) fun u5=>fun hq5=>match u5,hq5 with | _,rfl=>have hq6:=rb hA3;wi hq6<|HM [0] Q Q Q Q (fun _=>fA) fun u6 _=>fun hq6=>un 7 [28] [] [(4,0)] Q Q Q Q Q Q fun hl3=>match u6,hq6 with | _,rfl=>wi hF<|cY (p:=((⟨(⟨x9,x3.Heap.Class⟩:Heap),x3.aA⟩:Mem))) [7,1,2,3,4,6] Q Q) (have hq7:=rb hA2;wi hq7<|c0 Q (fun _=>cW) fun u7=>fun hq7=>match u7,hq7 with | _,rfl=>have hq8:=rb hA3;wi hq8<|HM [0] Q Q Q Q (fun _=>fA) fun u8 _=>fun hq8=>un 7 [28] [] [(4,0)] Q Q Q Q Q Q fun hl4=>match u8,hq8 with | _,rfl=>wi hF<|cY (p:=((⟨(⟨x9,x3.Heap.Class⟩:Heap),x3.aA⟩:Mem))) [7,1,2,3,4,6] Q Q))) fun x6 _=>cY (p:=(x6)) [0,1,2,3,4,5] Q Q)<|cY [0,1,2,3,4,6] Q Q) fun x5 _=>lE s5 [0,1,2,3] Q Q
theorem aDC{n:bN}:V0 prog κ 217 (IT n) [.g [I n.Key,I n.eH,I n.Next]] .b:=
 cX tok call217 func217 results217 Q Q<|fW 0 1 sE [] 2 [] Q (c0 Q (fun _=>bP) fun x2=>iV [5,6] Q Q (c0 Q (fun _=>bP) fun x3=>iV [9,10,11] Q Q (c0 Q (fun _=>RR) fun x4=>cY [] Q Q)<|cY [] Q Q)<|cY [] Q Q) fun x1=>eJ Q Q
theorem aA7{m:Mem}{h:Int}{n:bN}{s1 s2 s3 s4:AC}(h1:cZ κ s1 m.Heap.Bytes)(h2:cZ κ s2 m.Heap.Class)(h3:cZ κ s3 m.aA.Global)(h4:cZ κ s4 m.aA.Own):VS prog κ 168 (FN m h n) [.g (gM m s1 s2 s3 s4),I h,.g [I n.Key,I n.eH,I n.Next]] [] [] (fun r (y:A4C)=>.t [.g (yM r.1 y),I r.2]) (fun r y=>(zM r.1 y [])):=
 cX tok call168 func168 results168 Q Q<|c1 Q (fun h=>A6 (h.a h1) (h.a h2) (h.a h3) (h.a h4)) fun x1 s5=>dZ 0 4 (fun(p:Bool×Mem)=>wW m h n p.1 p.2) [1,3,5,6,8] (fun(p:Bool×Mem) (_:Unit)=>[(19,.b p.1)]) [0,1,2] (fun p _=>(zM p.2 s5 [.box 3 (yM p.2 s5)])) Q (c0 Q (fun h=>MW (h.a h1) (h.a h2) (h.a h3) (h.a h4)) fun x12=>iV [14,15] Q Q (cY (p:=(true,x1)) [3,4,5,6,7,0,1,2] Q Q)<|c0 Q (fun _=>aDC) fun x13=>cY (p:=(!x13,x1)) [3,4,5,6,7,0,1,2] Q Q) fun⟨x2,x3⟩ _=>bY [19] Q Q (lE s5 [0,1,2,3] Q Q)<|c0 Q (fun h=>N4 (h.a h1) (h.a h2) (h.a h3) (h.a h4)) fun x4=>dZ 0 4 (ED x4) [6,8,9] (fun(x5:Mem) (_:Unit)=>[]) [7] (fun x5 _=>(zM x5 s5 [.box 3 (yM x5 s5)])) Q (bY [25] Q Q (dZ 0 4 (NV x4) [6,8,9] (fun(x6:Mem) (_:Unit)=>[]) [7] (fun x6 _=>(zM x6 s5 [.box 3 (yM x6 s5)])) Q (jZ aD [5,6,7] Q<|fun hF=>bd hF fun x7 hA1 hF=>bd hF fun x8 hA2 hF=>bd hF fun x9 hA3 hF=>nd hF fun hA4 hF=>bd hF fun x10 hA5 hF=>nd hF fun hA6 hF=>bd hF fun x11 hA7 hF=>cQ Q Q (have hq1:=rb hA1;wi hq1<|c0 Q (fun h=>sU (h.a h1) (h.a h2)) fun u1=>fun hq1=>match u1,hq1 with | _,rfl=>have hq2:=rb hA2;wi hq2<|c0 Q (fun _=>cW) fun u2=>fun hq2=>match u2,hq2 with | _,rfl=>have hq3:=rb hA3;wi hq3<|c0 Q (fun _=>cW) fun u3=>fun hq3=>match u3,hq3 with | _,rfl=>have hq4:=rn hA4;cat Q Q Q Q hq4 fun hq4=>have hq5:=rb hA5;wi hq5<|c0 Q (fun _=>cW) fun u4=>fun hq5=>match u4,hq5 with | _,rfl=>have hq6:=rn hA6;cat Q Q Q Q hq6 fun hq6=>have hq7:=rb hA7;wi hq7<|HM [0] Q Q Q Q (fun _=>fA) fun u5 _=>fun hq7=>un 8 [28] [] [(4,0)] Q Q Q Q Q Q fun hl2=>match u5,hq7 with | _,rfl=>wi hF<|cY (p:=((⟨(⟨x11,x3.Heap.Class⟩:Heap),x3.aA⟩:Mem))) [8,1,2,3,4,7] Q Q) (have hq8:=rb hA1;wi hq8<|c0 Q (fun h=>sU (h.a h1) (h.a h2)) fun u6=>fun hq8=>match u6,hq8 with | _,rfl=>cQ Q Q (have hq9:=rb hA2;wi hq9<|c0 Q (fun _=>cW) fun u7=>fun hq9=>match u7,hq9 with | _,rfl=>have hq10:=rb hA3;wi hq10<|c0 Q (fun _=>cW) fun u8=>fun hq10=>match u8,hq10 with | _,rfl=>have hq11:=rn hA4;cat Q Q Q Q hq11 fun hq11=>have hq12:=rb hA5;wi hq12<|c0 Q (fun _=>cW) fun u9=>fun hq12=>match u9,hq12 with | _,rfl=>have hq13:=rn hA6;cat Q Q Q Q hq13 fun hq13=>have hq14:=rb hA7;wi hq14<|HM [0] Q Q Q Q (fun _=>fA) fun u10 _=>fun hq14=>un 8 [28] [] [(4,0)] Q Q Q Q Q Q fun hl3=>match u10,hq14 with | _,rfl=>wi hF<|cY (p:=((⟨(⟨x11,x3.Heap.Class⟩:Heap),x3.aA⟩:Mem))) [8,1,2,3,4,7] Q Q) (have hq15:=rb hA2;wi hq15<|c0 Q (fun _=>cW) fun u11=>fun hq15=>match u11,hq15 with | _,rfl=>cQ Q Q (have hq16:=rb hA3;wi hq16<|c0 Q (fun _=>cW) fun u12=>fun hq16=>match u12,hq16 with | _,rfl=>have hq17:=rn hA4;cat Q Q Q Q hq17 fun hq17=>have hq18:=rb hA5;wi hq18<|c0 Q (fun _=>cW) fun u13=>fun hq18=>match u13,hq18 with | _,rfl=>have hq19:=rn hA6;cat Q Q Q Q hq19 fun hq19=>have hq20:=rb hA7;wi hq20<|HM [0] Q Q Q Q (fun _=>fA) fun u14 _=>fun hq20=>un 8 [28] [] [(4,0)] Q Q Q Q Q Q fun hl4=>match u14,hq20 with | _,rfl=>wi hF<|cY (p:=((⟨(⟨x11,x3.Heap.Class⟩:Heap),x3.aA⟩:Mem))) [8,1,2,3,4,7] Q Q) (have hq21:=rb hA3;wi hq21<|c0 Q (fun _=>cW) fun u15=>fun hq21=>match u15,hq21 with | _,rfl=>have hq22:=rn hA4;cat Q Q Q Q hq22 fun hq22=>cQ Q Q (have hq23:=rb hA5;wi hq23<|c0 Q (fun _=>cW) fun u16=>fun hq23=>match u16,hq23 with | _,rfl=>have hq24:=rn hA6;cat Q Q Q Q hq24 fun hq24=>have hq25:=rb hA7;wi hq25<|HM [0] Q Q Q Q (fun _=>fA) fun u17 _=>fun hq25=>un 8 [28] [] [(4,0)] Q Q Q Q Q Q fun hl5=>match u17,hq25 with | _,rfl=>wi hF<|cY (p:=((⟨(⟨x11,x3.Heap.Class⟩:Heap),x3.aA⟩:Mem))) [8,1,2,3,4,7] Q Q) (have hq26:=rb hA5;wi hq26<|c0 Q (fun _=>cW) fun u18=>fun hq26=>match u18,hq26 with | _,rfl=>have hq27:=rn hA6;cat Q Q Q Q hq27 fun hq27=>have hq28:=rb hA7;wi hq28<|HM [0] Q Q Q Q (fun _=>fA) fun u19 _=>fun hq28=>un 8 [28] [] [(4,0)] Q Q Q Q Q Q fun hl6=>match u19,hq28 with | _,rfl=>wi hF<|cY (p:=((⟨(⟨x11,x3.Heap.Class⟩:Heap),x3.aA⟩:Mem))) [8,1,2,3,4,7] Q Q))))) fun x6 _=>cY (p:=(x6)) [0,1,2,3,4,5] Q Q)<|cY [0,1,2,3,4,7] Q Q) fun x5 _=>lE s5 [0,1,2,3] Q Q
theorem UA{t:Table}{j:aG}{x:aU}{b:bV}{s1 s2 s3 s4 s5 s6 s7 s8 s9 s10 s11:AC}{s12 s13 s14 s15 s16 s17 s18:AC}{b0 b1 b2:Nat×Nat}:VS prog κ 116 (EE t j x b) [.p 0 0,.p 1 0,.g [I x.Key,.b x.HJ,I x.eH],.p 2 0] [b0,b1,b2] ([.box 0 (OE t s1 s2 s3 s4 s5 s6 s7 s8 s9 s10 s11),.box 1 [.b j.eA,.b j.Batch.Collect,.h s12 j.Batch.bK.length,I j.aE,I j.Pc,I j.At,I j.K,I j.bV,I j.fX,I j.H,I j.fP,I j.Node.Key,I j.Node.eH,I j.Node.Next,.b j.Found,I j.Code,I j.Sub.Kind,I j.Sub.A,I j.Sub.Pc,I j.Sub.E,I j.Sub.Row,I j.Sub.B,I j.Sub.H,I j.Sub.Out,I j.Sub.Code,.b j.Sub.dS,.h s13 j.Reads.length,.h s14 j.aL.length,.h s15 j.eN.length,.h s16 j.fQ.length,.h s17 j.bR.length,.h s18 j.cE.length],.box 2 [I b.Head,I b.fX,I b.jB]]++(oBs t.aB s1 s2 s3 s4 s5 s6 s7 [ow s10 (t.gL:List aI),ow s11 (t.Log:List jS),ow s12 (j.Batch.bK:List iD),ow s13 (j.Reads:List Seen),ow s14 (j.aL:List aU),ow s15 (j.eN:List eN),ow s16 (j.fQ:List Int),ow s17 (j.bR:List Int),ow s18 (j.cE:List Int)])) (fun(r:Table×aG×bV) (y:A4C)=>.t []) (fun(r:Table×aG×bV) (y:A4C)=>([.box 0 [.h y.1 r.1.aB.Mem.Heap.Bytes.length,.h y.2.1 r.1.aB.Mem.Heap.Class.length,.h y.2.2.1 r.1.aB.Mem.aA.Global.length,.h y.2.2.2 r.1.aB.Mem.aA.Own.length,I r.1.aB.aJ.aN,.h s5 r.1.aB.aJ.cN.length,.h s6 r.1.aB.bO.length,.h s7 r.1.aB.BW.length,.h s8 t.cH.length,.h s9 t.aP.length,.h s10 r.1.gL.length,.h s11 r.1.Log.length,I r.1.aE],.box 1 [.b r.2.1.eA,.b r.2.1.Batch.Collect,.h s12 r.2.1.Batch.bK.length,I r.2.1.aE,I r.2.1.Pc,I r.2.1.At,I r.2.1.K,I r.2.1.bV,I r.2.1.fX,I r.2.1.H,I r.2.1.fP,I r.2.1.Node.Key,I r.2.1.Node.eH,I r.2.1.Node.Next,.b r.2.1.Found,I r.2.1.Code,I r.2.1.Sub.Kind,I r.2.1.Sub.A,I r.2.1.Sub.Pc,I r.2.1.Sub.E,I r.2.1.Sub.Row,I r.2.1.Sub.B,I r.2.1.Sub.H,I r.2.1.Sub.Out,I r.2.1.Sub.Code,.b r.2.1.Sub.dS,.h s13 r.2.1.Reads.length,.h s14 r.2.1.aL.length,.h s15 r.2.1.eN.length,.h s16 r.2.1.fQ.length,.h s17 r.2.1.bR.length,.h s18 r.2.1.cE.length],.box 2 [I r.2.2.Head,I r.2.2.fX,I r.2.2.jB]]++(oBs r.1.aB y.1 y.2.1 y.2.2.1 y.2.2.2 s5 s6 s7 [ow s10 r.1.gL,ow s11 r.1.Log,ow s12 r.2.1.Batch.bK,ow s13 r.2.1.Reads,ow s14 r.2.1.aL,ow s15 r.2.1.eN,ow s16 r.2.1.fQ,ow s17 r.2.1.bR,ow s18 r.2.1.cE]))):=
 cX tok call116 func116 results116 Q Q<|jZ aD [0,1,2,19] Q<|c0 Q (fun h=>y6 (h.o 14 Q)) fun x1=>bY [39,46] Q Q (dR 1 1 0 32 [12,13,14,15,16,17,18] Q Q Q Q Q (fun _=>dB) fun x2 _=>BH (s1,s2,s3,s4) [0,1,2,3,4,5,6,7,8,9,10,11,20,21,22,23,24,25,26] Q Q)<|bY [49,54] Q Q (dZ 0 4 (yF t j b) [0,1,3] (fun(x3:Table) (u:A4C)=>[]) [12,13,14,15,16,17,18,1,2] (fun x3 u=>(oBs x3.aB u.1 u.2.1 u.2.2.1 u.2.2.2 s5 s6 s7 [ow s10 (x3.gL:List aI),ow s11 (x3.Log:List jS),.box 0 [.h u.1 x3.aB.Mem.Heap.Bytes.length,.h u.2.1 x3.aB.Mem.Heap.Class.length,.h u.2.2.1 x3.aB.Mem.aA.Global.length,.h u.2.2.2 x3.aB.Mem.aA.Own.length,I x3.aB.aJ.aN,.h s5 x3.aB.aJ.cN.length,.h s6 x3.aB.bO.length,.h s7 x3.aB.BW.length,.h s8 t.cH.length,.h s9 t.aP.length,.h s10 x3.gL.length,.h s11 x3.Log.length,I x3.aE]])) Q (jZ aD [1,2,19] Q<|mC oI 16 Q Q Q fun x4 h1 _ h2=>fun hF=>kC 4 h2 h1 Q Q Q Q Q<|bd hF fun x5 hA1 hF=>(by refine cQ Q Q ?_ ?_ <;> exact have hq1:=rb hA1;wi hq1<|c1 Q (fun h=>aA7 (h.o 3 Q) (h.o 4 Q) (h.o 5 Q) (h.o 6 Q)) fun u1 s24=>fun hq1=>match u1,hq1 with | _,rfl=>sF Q<|iB oI 20 [] h1 () Q Q Q Q Q Q Q<|fR Q Q<|jY (p:=(({t with aB:=(⟨x5.1,t.aB.aJ,t.aB.bO,t.aB.BW⟩:aB)}:Table))) s24 [23,24,25,26,7,8,9,10,11,0,12,13,14,15,27,17,18,1,2] hF Q)) fun x3 ⟨s19,s20,s21,s22⟩=>BH (s19,s20,s21,s22) [9,17,18,0,1,2,3,4,5,6,7,8,10,11,12,13,14,15,16] Q Q)<|mC oI 16 Q Q Q fun x6 h3 _ h4=>fun hF=>kC 4 h4 h3 Q Q Q Q Q<|sF Q<|iB oI 20 [] h3 () Q Q Q Q Q Q Q<|oW (hT:=tok) (s1,s2,s3,s4) [0,1,2,3,4,5,6,7,8,9,10,11,12,13,14,15,23,17,18] hF Q results116 Q Q Q Q
theorem SL{t:Table}{w_:Int}{s1 s2 s3 s4 s5 s6 s7 s8 s9 s10 s11:AC}{b0:Nat×Nat}:VS prog κ 54 (tT t w_) [.p 0 0,I w_] [b0] ([.box 0 (OE t s1 s2 s3 s4 s5 s6 s7 s8 s9 s10 s11)]++(OL t s1 s2 s3 s4 s5 s6 s7 s8 s9 s10 s11 [])) (fun(r:Table) (y:A4C)=>.t []) (fun(r:Table) (y:A4C)=>([.box 0 (OE r y.1 y.2.1 y.2.2.1 y.2.2.2 s5 s6 s7 s8 s9 s10 s11)]++(OL r y.1 y.2.1 y.2.2.1 y.2.2.2 s5 s6 s7 s8 s9 s10 s11 []))):=
 cX tok call54 func54 results54 Q Q<|mC aS 9 Q Q Q fun x1 h1 s12 h2=>fun hF=>kC 1 h2 h1 Q Q Q Q Q<|wi hF<|dZ 0 2 (fun(_:Unit)=>vD t w_ x1) [0,4] (fun(_:Unit) (_:Unit)=>[(22,.b (decide ((x1.aL.length:Int)<=x1.K)))]) [1,2,3,4,5,6,7,8,10,11,0,14] (fun _ _=>[ow s9 (t.aP:List aG)]) Q (jZ aD [0,14] Q<|fun hF=>(by refine cQ Q Q ?_ ?_ <;> exact sF Q<|iB aS 12 [15,16,17,18,19,20,21] h1 s12 Q Q Q Q Q Q Q<|fR Q Q<|jY (p:=()) () [22,1,2,3,4,5,6,7,8,10,11,0,14] hF Q)) fun _ _=>bY [22] Q Q (fun hF=>ro aS 0 12 1 Q Q Q Q hF fun x2 h3 hF s13=>sR Q<|lJ aS 13 [16,17,18,19,20,21,22] [] ({x2 with Pc:=14}:aG) s13 Q Q Q Q Q Q Q Q<|fR Q Q<|nT s9 b9.symm [] [(11,9)] Q Q Q<|fR Q Q<|oW (hT:=tok) (s1,s2,s3,s4) [11,1,2,3,4,5,6,7,8,23,9,10] hF Q results54 Q Q Q Q)<|dZ 0 4 (fun(p:Int×Bool×Int)=>vC t w_ p.1 p.2.1 p.2.2) [0,4] (fun(p:Int×Bool×Int) (_:Unit)=>[(5,.p 3 0)]) [1,2,3,4,5,6,7,8,0,9,10,11,12] (fun p _=>[.box 3 [I p.1,.b p.2.1,I p.2.2]]) Q (jZ aD [11,12] Q<|fun hF=>bd hF fun x30 hA6 hF=>bd hF fun x31 hA7 hF=>aCF Q Q (have hq32:=rb hA6;ro aS 0 12 1 Q Q Q Q hq32 fun u29 h23 hq32 s51=>match u29,hq32 with | _,rfl=>cQ Q Q (have hq33:=rb hA7;wi hq33<|mC vF 18 Q Q Q fun u30 h25 _ h26=>fun hq33=>kC 2 h26 h25 Q Q Q Q Q<|match u30,hq33 with | _,rfl=>(by refine cQ Q Q ?_ ?_ <;> exact sF Q<|iB vF 23 [] h25 () Q Q Q Q Q Q Q<|fR Q Q<|iB aS 13 [16,17,27,19,20,21,22] h23 s51 Q Q Q Q Q Q Q<|fR Q Q<|jY (p:=(x31.Key,x31.HJ,x31.eH)) () [26,1,2,3,4,5,6,7,8,28,9,10,11,12] hF Q)) (have hq34:=rb hA7;wi hq34<|mC vF 18 Q Q Q fun u31 h27 _ h28=>fun hq34=>kC 3 h28 h27 Q Q Q Q Q<|match u31,hq34 with | _,rfl=>sF Q<|swR 3 2 Q<|fD Q Q<|iB vF 24 [] h27 () Q Q Q Q Q Q Q<|fR Q Q<|iB aS 13 [16,17,27,19,20,21,22] h23 s51 Q Q Q Q Q Q Q<|fR Q Q<|jY (p:=(x31.Key,x31.HJ,x31.eH)) () [23,1,2,3,4,5,6,7,8,28,9,10,11,12] hF Q)) (have hq35:=rb hA6;ro aS 0 12 1 Q Q Q Q hq35 fun u32 h29 hq35 s52=>match u32,hq35 with | _,rfl=>cQ Q Q (have hq36:=rb hA7;wi hq36<|mC vF 18 Q Q Q fun u33 h31 _ h32=>fun hq36=>kC 2 h32 h31 Q Q Q Q Q<|match u33,hq36 with | _,rfl=>(by refine cQ Q Q ?_ ?_ <;> exact sF Q<|iB vF 23 [] h31 () Q Q Q Q Q Q Q<|fR Q Q<|iB aS 13 [16,17,27,19,20,21,22] h29 s52 Q Q Q Q Q Q Q<|fR Q Q<|jY (p:=(x31.Key,x31.HJ,x31.eH)) () [26,1,2,3,4,5,6,7,8,28,9,10,11,12] hF Q)) (have hq37:=rb hA7;wi hq37<|mC vF 18 Q Q Q fun u34 h33 _ h34=>fun hq37=>kC 3 h34 h33 Q Q Q Q Q<|match u34,hq37 with | _,rfl=>sF Q<|swR 3 2 Q<|fD Q Q<|iB vF 24 [] h33 () Q Q Q Q Q Q Q<|fR Q Q<|iB aS 13 [16,17,27,19,20,21,22] h29 s52 Q Q Q Q Q Q Q<|fR Q Q<|jY (p:=(x31.Key,x31.HJ,x31.eH)) () [23,1,2,3,4,5,6,7,8,28,9,10,11,12] hF Q)) ((by refine cQ Q Q ?_ ?_ <;> exact have hq38:=rb hA6;ro aS 0 12 1 Q Q Q Q hq38 fun u35 h35 hq38 s53=>match u35,hq38 with | _,rfl=>have hq39:=rb hA7;wi hq39<|mC vF 19 Q Q Q fun u36 h37 _ h38=>fun hq39=>kC 3 h38 h37 Q Q Q Q Q<|match u36,hq39 with | _,rfl=>sF Q<|swR 3 2 Q<|fD Q Q<|iB vF 24 [] h37 () Q Q Q Q Q Q Q<|fR Q Q<|iB aS 14 [17,18,27,20,21,22,23] h35 s53 Q Q Q Q Q Q Q<|fR Q Q<|jY (p:=(x31.Key,x31.HJ,x31.eH)) () [13,1,2,3,4,5,6,7,8,28,9,10,11,12] hF Q))) fun⟨x3,x4,x5⟩ _=>jZ aD [0,12,13] Q<|c0 Q (fun _=>MV) fun x6=>mC wA 8 Q Q Q fun x7 h5 _ h6=>fun hF=>kC 4 h6 h5 Q Q Q Q Q<|ro aS 9 13 1 Q Q Q Q hF fun x8 h7 hF s14=>wi hF<|bY [53,54] Q Q (bY [72] Q Q (dR 18 1 0 32 [20,21,22,23,24,25,26] Q Q Q Q Q (fun _=>A5 (j:=({x8 with Pc:=10,H:=x7.Head,fP:=0}:aG))) fun x9 _=>fun hF=>sF Q<|lJ aS 17 [27,28,29,30,31,32,33] [] x9 s14 Q Q Q Q Q Q Q Q<|fR Q Q<|nT s9 b9.symm [] [(12,9)] Q Q Q<|fR Q Q<|iB wA 14 [] h5 () Q Q Q Q Q Q Q<|fR Q Q<|oW (hT:=tok) (s1,s2,s3,s4) [12,1,2,3,4,5,6,7,35,34,10,11] hF Q results54 Q Q Q Q)<|fun hF=>sF Q<|lJ aS 17 [20,21,22,23,24,25,26] [] ({x8 with Pc:=10,H:=x7.Head,fP:=0}:aG) s14 Q Q Q Q Q Q Q Q<|fR Q Q<|nT s9 b9.symm [] [(12,9)] Q Q Q<|fR Q Q<|iB wA 14 [] h5 () Q Q Q Q Q Q Q<|fR Q Q<|oW (hT:=tok) (s1,s2,s3,s4) [12,1,2,3,4,5,6,7,28,27,10,11] hF Q results54 Q Q Q Q)<|bY [76,77] Q Q (jZ aD [0,12,13,16,19] Q<|c0 Q (fun h=>RQ (h.o 1 Q) (h.o 2 Q) (h.o 3 Q) (h.o 4 Q)) fun x10=>jZ aD [0,12,13,16,19] Q<|bY [109,117] Q Q (fun hF=>sF Q<|lJ aS 17 [20,21,22,23,24,25,26] [] ({x8 with Pc:=11,Node:=x10.1}:aG) s14 Q Q Q Q Q Q Q Q<|fR Q Q<|nT s9 b9.symm [] [(12,9)] Q Q Q<|fR Q Q<|iB wA 14 [] h5 () Q Q Q Q Q Q Q<|fR Q Q<|oW (hT:=tok) (s1,s2,s3,s4) [12,1,2,3,4,5,6,7,28,27,10,11] hF Q results54 Q Q Q Q)<|c0 Q (fun _=>b8) fun x11=>bY [121,127] Q Q (dR 18 1 0 32 [20,21,22,23,24,25,26] Q Q Q Q Q (fun _=>A5 (j:=({x8 with Node:=x10.1}:aG))) fun x12 _=>fun hF=>sF Q<|lJ aS 17 [27,28,29,30,31,32,33] [] x12 s14 Q Q Q Q Q Q Q Q<|fR Q Q<|nT s9 b9.symm [] [(12,9)] Q Q Q<|fR Q Q<|iB wA 14 [] h5 () Q Q Q Q Q Q Q<|fR Q Q<|oW (hT:=tok) (s1,s2,s3,s4) [12,1,2,3,4,5,6,7,35,34,10,11] hF Q results54 Q Q Q Q)<|dZ 0 5 (uZ t) [0] (fun(x13:(List aG)) (_:Unit)=>[]) [1,2,3,4,5,6,7,10,11] (fun x13 _=>[ow s8 (t.cH:List bV),ow s9 (x13:List aG),.box 0 [.h s1 t.aB.Mem.Heap.Bytes.length,.h s2 t.aB.Mem.Heap.Class.length,.h s3 t.aB.Mem.aA.Global.length,.h s4 t.aB.Mem.aA.Own.length,I t.aB.aJ.aN,.h s5 t.aB.aJ.cN.length,.h s6 t.aB.bO.length,.h s7 t.aB.BW.length,.h s8 t.cH.length,.h s9 x13.length,.h s10 t.gL.length,.h s11 t.Log.length,I t.aE]]) Q (jZ aD [0,12,13,16,19] Q<|fun hF=>bd hF fun x14 hA1 hF=>cQ Q Q (have hq1:=rb hA1;wi hq1<|c0 Q (fun _=>b8) fun u1=>fun hq1=>match u1,hq1 with | _,rfl=>sF Q<|lJ aS 17 [20,21,22,23,24,25,26] [] ({x8 with H:=x14,fP:=x8.H,Node:=x10.1}:aG) s14 Q Q Q Q Q Q Q Q<|fR Q Q<|nT s9 b9.symm [] [(12,9)] Q Q Q<|fR Q Q<|iB wA 14 [] h5 () Q Q Q Q Q Q Q<|fR Q Q<|jY (p:=(t.aP.set w_.toNat ({x8 with H:=x14,fP:=x8.H,Node:=x10.1}:aG))) () [28,27,12,1,2,3,4,5,6,7,10,11] hF Q) ((by refine cQ Q Q ?_ ?_ <;> exact have hq2:=rb hA1;wi hq2<|c0 Q (fun _=>b8) fun u2=>fun hq2=>match u2,hq2 with | _,rfl=>sF Q<|lJ aS 17 [20,21,22,23,24,25,26] [] ({x8 with H:=x14,fP:=x8.H,Node:=x10.1}:aG) s14 Q Q Q Q Q Q Q Q<|fR Q Q<|nT s9 b9.symm [] [(12,9)] Q Q Q<|fR Q Q<|iB wA 14 [] h5 () Q Q Q Q Q Q Q<|fR Q Q<|jY (p:=(t.aP.set w_.toNat ({x8 with H:=x14,fP:=x8.H,Node:=x10.1}:aG))) () [28,27,12,1,2,3,4,5,6,7,10,11] hF Q))) fun x13 _=>BH (s1,s2,s3,s4) [2,3,4,5,6,7,8,9,0,1,10,11] Q Q)<|bY [131,132] Q Q (dZ 0 5 (kU w_ x3 x4 x5) [0,4,5] (fun(x15:Table) (u:A4C)=>[]) [13,0] (fun x15 u=>(OL x15 u.1 u.2.1 u.2.2.1 u.2.2.2 s5 s6 s7 s8 s9 s10 s11 [.box 0 (OE x15 u.1 u.2.1 u.2.2.1 u.2.2.2 s5 s6 s7 s8 s9 s10 s11)])) Q (bY [137] Q Q (c0 Q (fun _=>b8) fun x25=>fun hF=>sF Q<|iB aS 17 [20,21,22,23,24,25,26] h7 s14 Q Q Q Q Q Q Q<|fR Q Q<|lJ wA 14 [] [39] ({x7 with Head:=x25}:bV) () Q Q Q Q Q Q Q Q<|fR Q Q<|nT s8 b9.symm [] [(12,8)] Q Q Q<|fR Q Q<|jY (s1,s2,s3,s4) [1,2,3,4,5,6,7,28,27,10,11,12,13,0] hF Q)<|dZ 0 5 (vB w_ x3 x4 x5) [0,4,5] (fun(x26:Table) (u:A4C)=>[]) [13,0] (fun x26 u=>(OL x26 u.1 u.2.1 u.2.2.1 u.2.2.2 s5 s6 s7 s8 s9 s10 s11 [.box 0 (OE x26 u.1 u.2.1 u.2.2.1 u.2.2.2 s5 s6 s7 s8 s9 s10 s11)])) Q (jZ aD [0,13,16,19] Q<|fun hF=>bd hF fun x27 hA4 hF=>bd hF fun x28 hA5 hF=>aCF Q Q (cQ Q Q (have hq9:=rb hA4;wi hq9<|c0 Q (fun _=>b8) fun u6=>fun hq9=>match u6,hq9 with | _,rfl=>have hq10:=rb hA5;wi hq10<|c1 Q (fun h=>nC (h.o 1 Q) (h.o 2 Q) (h.o 3 Q) (h.o 4 Q)) fun u7 s37=>fun hq10=>match u7,hq10 with | _,rfl=>sF Q<|iB aS 17 [20,21,22,23,24,25,26] h7 s14 Q Q Q Q Q Q Q<|fR Q Q<|iB wA 14 [] h5 () Q Q Q Q Q Q Q<|fR Q Q<|jY (p:=(({t with aB:=(⟨x28.1,t.aB.aJ,t.aB.bO,t.aB.BW⟩:aB)}:Table))) s37 [27,28,29,30,5,6,7,32,31,10,11,12,13,0] hF Q) ((by refine cQ Q Q ?_ ?_ <;> exact have hq11:=rb hA4;wi hq11<|c0 Q (fun _=>b8) fun u8=>fun hq11=>match u8,hq11 with | _,rfl=>have hq12:=rb hA5;wi hq12<|c1 Q (fun h=>nC (h.o 1 Q) (h.o 2 Q) (h.o 3 Q) (h.o 4 Q)) fun u9 s38=>fun hq12=>match u9,hq12 with | _,rfl=>sF Q<|iB aS 17 [20,21,22,23,24,25,26] h7 s14 Q Q Q Q Q Q Q<|fR Q Q<|iB wA 14 [] h5 () Q Q Q Q Q Q Q<|fR Q Q<|jY (p:=(({t with aB:=(⟨x28.1,t.aB.aJ,t.aB.bO,t.aB.BW⟩:aB)}:Table))) s38 [27,28,29,30,5,6,7,32,31,10,11,12,13,0] hF Q))) (cQ Q Q (have hq15:=rb hA4;wi hq15<|c0 Q (fun _=>b8) fun u12=>fun hq15=>match u12,hq15 with | _,rfl=>have hq16:=rb hA5;wi hq16<|c1 Q (fun h=>nC (h.o 1 Q) (h.o 2 Q) (h.o 3 Q) (h.o 4 Q)) fun u13 s40=>fun hq16=>match u13,hq16 with | _,rfl=>sF Q<|iB aS 17 [20,21,22,23,24,25,26] h7 s14 Q Q Q Q Q Q Q<|fR Q Q<|iB wA 14 [] h5 () Q Q Q Q Q Q Q<|fR Q Q<|jY (p:=(({t with aB:=(⟨x28.1,t.aB.aJ,t.aB.bO,t.aB.BW⟩:aB)}:Table))) s40 [27,28,29,30,5,6,7,32,31,10,11,12,13,0] hF Q) ((by refine cQ Q Q ?_ ?_ <;> exact have hq17:=rb hA4;wi hq17<|c0 Q (fun _=>b8) fun u14=>fun hq17=>match u14,hq17 with | _,rfl=>have hq18:=rb hA5;wi hq18<|c1 Q (fun h=>nC (h.o 1 Q) (h.o 2 Q) (h.o 3 Q) (h.o 4 Q)) fun u15 s41=>fun hq18=>match u15,hq18 with | _,rfl=>sF Q<|iB aS 17 [20,21,22,23,24,25,26] h7 s14 Q Q Q Q Q Q Q<|fR Q Q<|iB wA 14 [] h5 () Q Q Q Q Q Q Q<|fR Q Q<|jY (p:=(({t with aB:=(⟨x28.1,t.aB.aJ,t.aB.bO,t.aB.BW⟩:aB)}:Table))) s41 [27,28,29,30,5,6,7,32,31,10,11,12,13,0] hF Q))) (aCF Q Q ((by refine cQ Q Q ?_ ?_ <;> exact have hq21:=rb hA4;wi hq21<|c0 Q (fun _=>b8) fun u18=>fun hq21=>match u18,hq21 with | _,rfl=>have hq22:=rb hA5;wi hq22<|c1 Q (fun h=>nC (h.o 1 Q) (h.o 2 Q) (h.o 3 Q) (h.o 4 Q)) fun u19 s43=>fun hq22=>match u19,hq22 with | _,rfl=>sF Q<|iB aS 17 [20,21,22,23,24,25,26] h7 s14 Q Q Q Q Q Q Q<|fR Q Q<|iB wA 14 [] h5 () Q Q Q Q Q Q Q<|fR Q Q<|jY (p:=(({t with aB:=(⟨x28.1,t.aB.aJ,t.aB.bO,t.aB.BW⟩:aB)}:Table))) s43 [27,28,29,30,5,6,7,32,31,10,11,12,13,0] hF Q)) ((by refine cQ Q Q ?_ ?_ <;> exact have hq25:=rb hA4;wi hq25<|c0 Q (fun _=>b8) fun u22=>fun hq25=>match u22,hq25 with | _,rfl=>have hq26:=rb hA5;wi hq26<|c1 Q (fun h=>nC (h.o 1 Q) (h.o 2 Q) (h.o 3 Q) (h.o 4 Q)) fun u23 s45=>fun hq26=>match u23,hq26 with | _,rfl=>sF Q<|iB aS 17 [20,21,22,23,24,25,26] h7 s14 Q Q Q Q Q Q Q<|fR Q Q<|iB wA 14 [] h5 () Q Q Q Q Q Q Q<|fR Q Q<|jY (p:=(({t with aB:=(⟨x28.1,t.aB.aJ,t.aB.bO,t.aB.BW⟩:aB)}:Table))) s45 [27,28,29,30,5,6,7,32,31,10,11,12,13,0] hF Q)) (have hq29:=rb hA4;wi hq29<|c0 Q (fun _=>b8) fun u26=>fun hq29=>match u26,hq29 with | _,rfl=>(by refine cQ Q Q ?_ ?_ <;> exact have hq30:=rb hA5;wi hq30<|c1 Q (fun h=>nC (h.o 1 Q) (h.o 2 Q) (h.o 3 Q) (h.o 4 Q)) fun u27 s47=>fun hq30=>match u27,hq30 with | _,rfl=>sF Q<|iB aS 17 [20,21,22,23,24,25,26] h7 s14 Q Q Q Q Q Q Q<|fR Q Q<|iB wA 14 [] h5 () Q Q Q Q Q Q Q<|fR Q Q<|jY (p:=(({t with aB:=(⟨x28.1,t.aB.aJ,t.aB.bO,t.aB.BW⟩:aB)}:Table))) s47 [27,28,29,30,5,6,7,32,31,10,11,12,13,0] hF Q)))) fun x26 ⟨s32,s33,s34,s35⟩=>qH (p:=(x26)) (s32,s33,s34,s35) [0,1,2,3,4,5,6,7,8,9,10,11,12,13] Q Q) fun x15 ⟨s15,s16,s17,s18⟩=>dZ 1 5 (kT w_ x3 x4 x5) [0,4,5] (fun(x16:Table) (_:Unit)=>[]) [12,13] (fun x16 _=>(OL x16 s15 s16 s17 s18 s5 s6 s7 s8 s9 s10 s11 [.box 0 (OE x16 s15 s16 s17 s18 s5 s6 s7 s8 s9 s10 s11)])) Q (dZ 0 5 (fun(p:Bool×Table)=>nO w_ x3 x4 x5 p.1 p.2) [0,4,5] (fun(p:Bool×Table) (_:Unit)=>[(180,.b p.1)]) [12,13] (fun p _=>(OL p.2 s15 s16 s17 s18 s5 s6 s7 s8 s9 s10 s11 [.box 0 (OE p.2 s15 s16 s17 s18 s5 s6 s7 s8 s9 s10 s11)])) Q (fun hF=>ro aS 8 12 1 Q Q Q Q hF fun x23 h17 hF s31=>wi hF<|c0 Q (fun _=>kM) fun x24=>iV [172,173] Q Q (fun hF=>sF Q<|iB aS 14 [17,18,19,20,21,22,23] h17 s31 Q Q Q Q Q Q Q<|fR Q Q<|jY (p:=(decide ((x23.cE.length:Int) < 6),x15)) () [0,1,2,3,4,5,6,7,24,9,10,11,12,13] hF Q)<|fun hF=>sF Q<|iB aS 14 [17,18,19,20,21,22,23] h17 s31 Q Q Q Q Q Q Q<|fR Q Q<|jY (p:=(false,x15)) () [0,1,2,3,4,5,6,7,24,9,10,11,12,13] hF Q) fun⟨x19,x20⟩ _=>bY [180] Q Q (dZ 0 5 (vA w_ x3 x4 x5) [0,4,5] (fun(x21:Table) (_:Unit)=>[]) [12,13] (fun x21 _=>(OL x21 s15 s16 s17 s18 s5 s6 s7 s8 s9 s10 s11 [.box 0 (OE x21 s15 s16 s17 s18 s5 s6 s7 s8 s9 s10 s11)])) Q (jZ aD [11,12,13] Q<|fun hF=>bd hF fun x22 hA2 hF=>nd hF fun hA3 hF=>cQ Q Q (have hq4:=rb hA2;ro aS 8 12 1 Q Q Q Q hq4 fun u4 h13 hq4 s23=>match u4,hq4 with | _,rfl=>lt1 Q bC Q Q Q Q fun s24=>have hq5:=rn hA3;ap 23 bC Q Q Q Q Q Q Q (fun h=>(h.o 24 Q)) Q Q hq5 fun hq5 s25=>sF Q<|lJ aS 14 [17,18,19,20,21,22,23] [] ({x22 with cE:=x22.cE++([x22.H])}:aG) (s23.1,s23.2.1,s23.2.2.1,s23.2.2.2.1,s23.2.2.2.2.1,s23.2.2.2.2.2.1,s25) Q Q Q Q Q Q Q Q<|fR Q Q<|nT s9 b9.symm [] [(11,9)] Q Q Q<|fR Q Q<|jY (p:=(({x20 with aP:=x20.aP.set w_.toNat ({x22 with cE:=x22.cE++([x22.H])}:aG)}:Table))) () [0,1,2,3,4,5,6,7,25,9,10,11,12,13] hF Q) (have hq6:=rb hA2;ro aS 8 12 1 Q Q Q Q hq6 fun u5 h15 hq6 s26=>match u5,hq6 with | _,rfl=>(by refine cQ Q Q ?_ ?_ <;> exact lt1 Q bC Q Q Q Q fun s27=>have hq7:=rn hA3;ap 23 bC Q Q Q Q Q Q Q (fun h=>(h.o 24 Q)) Q Q hq7 fun hq7 s28=>sF Q<|lJ aS 14 [17,18,19,20,21,22,23] [] ({x22 with cE:=x22.cE++([x22.H])}:aG) (s26.1,s26.2.1,s26.2.2.1,s26.2.2.2.1,s26.2.2.2.2.1,s26.2.2.2.2.2.1,s28) Q Q Q Q Q Q Q Q<|fR Q Q<|nT s9 b9.symm [] [(11,9)] Q Q Q<|fR Q Q<|jY (p:=(({x20 with aP:=x20.aP.set w_.toNat ({x22 with cE:=x22.cE++([x22.H])}:aG)}:Table))) () [0,1,2,3,4,5,6,7,25,9,10,11,12,13] hF Q))) fun x21 _=>cY (p:=(x21)) [0,1,2,3,4,5,6,7,8,9,10,11,12,13] Q Q)<|cY [0,1,2,3,4,5,6,7,8,9,10,11,12,13] Q Q) fun x16 _=>fun hF=>ro aS 8 12 1 Q Q Q Q hF fun x17 h9 hF s19=>wi hF<|dR 15 1 0 32 [17,18,19,20,21,22,23] Q Q Q Q Q (fun _=>A5) fun x18 _=>fun hF=>sF Q<|lJ aS 14 [24,25,26,27,28,29,30] [] x18 s19 Q Q Q Q Q Q Q Q<|fR Q Q<|nT s9 b9.symm [] [(11,9)] Q Q Q<|fR Q Q<|oW (hT:=tok) (s15,s16,s17,s18) [11,0,1,2,3,4,5,6,7,31,9,10] hF Q results54 Q Q Q Q)<|a0Z 12 0 0 13 18 1 0 32 15 4 0 3 [1,2,3,4,5,6,7,10,11,20,21,22,23,24,25,26] Q Q Q Q Q (fun _=>UA) fun x29 s49=>fun hF=>fG Q Q<|sF Q<|lJ aS 17 [36,37,38,39,40,41,42] [] x29.2.1 s14 Q Q Q Q Q Q Q Q<|fR Q Q<|nT s9 b9.symm [] [(12,9)] Q Q Q<|fR Q Q<|lJ wA 14 [] [39] x29.2.2 () Q Q Q Q Q Q Q Q<|fR Q Q<|nT s8 b9.symm [] [(12,8)] Q Q Q<|fR Q Q<|oW (hT:=tok) s49 [12,27,28,29,30,31,32,33,44,43,34,35] hF Q results54 Q Q Q Q
theorem EY{s:List Int}{i j:Int}{s1:AC}:VS prog κ 117 (mY s i j) [.h s1 s.length,I i,I j] [] [ow s1 (s:List Int)] (fun(r:(List Int)) (y:AC)=>.h y r.length) (fun(r:(List Int)) (y:AC)=>[ow y r]):=
 cX tok call117 func117 results117 Q Q<|fun hF=>cpc 0 Q Q fun hc1=>aKK hc1 Q Q Q Q Q Q Q Q hF fun hF h1=>wi hF<|bY [16] Q Q (lE s1 [0] Q Q)<|jZ aD [] Q<|fun hF=>aKI hc1 Q Q Q Q Q Q hF fun hF h2=>aFQ hc1 Q Q Q Q Q Q hF fun hF h3=>nd hF fun hab hF=>ap2 0 i.toNat j.toNat ⟨hab,h3.1⟩ Q Q Q Q Q Q Q Q Q fun h4=>aSF 0 (i.toNat+(s.length - j.toNat)) h4.2 (tE h4.1 h4.2) Q Q Q Q Q Q Q Q Q hF fun hF h5=>clr 0 (((((cA s i.toNat (s.drop j.toNat)).take (i.toNat+(s.length - j.toNat))).drop 0).length:Int).toNat) ((s.length:Int).toNat) (0:Int) h5 bC Q (fun _=>Q) Q Q Q Q Q Q Q Q<|sR Q<|poR 0 0 (i.toNat+(s.length - j.toNat)) Q Q (aKJ h4 (qZ h5.1 h5.2)) (aFR (NC (by rw [I6,tE h4.1 h4.2];rfl)) (qZ h5.1 h5.2))<|oW (hT:=tok) (AC.sub s1 1 0) [0] hF Q results117 Q Q Q Q
theorem A7{j:aG}{s1 s2 s3 s4 s5 s6 s7:AC}{b0:Nat×Nat}:VS prog κ 118 (jW j) [.p 0 0] [b0] [.box 0 [.b j.eA,.b j.Batch.Collect,.h s1 j.Batch.bK.length,I j.aE,I j.Pc,I j.At,I j.K,I j.bV,I j.fX,I j.H,I j.fP,I j.Node.Key,I j.Node.eH,I j.Node.Next,.b j.Found,I j.Code,I j.Sub.Kind,I j.Sub.A,I j.Sub.Pc,I j.Sub.E,I j.Sub.Row,I j.Sub.B,I j.Sub.H,I j.Sub.Out,I j.Sub.Code,.b j.Sub.dS,.h s2 j.Reads.length,.h s3 j.aL.length,.h s4 j.eN.length,.h s5 j.fQ.length,.h s6 j.bR.length,.h s7 j.cE.length],ow s1 (j.Batch.bK:List iD),ow s2 (j.Reads:List Seen),ow s3 (j.aL:List aU),ow s4 (j.eN:List eN),ow s5 (j.fQ:List Int),ow s6 (j.bR:List Int),ow s7 (j.cE:List Int)] (fun(r:aG) (y:Unit)=>.t []) (fun(r:aG) (y:Unit)=>[.box 0 [.b r.eA,.b r.Batch.Collect,.h s1 r.Batch.bK.length,I r.aE,I r.Pc,I r.At,I r.K,I r.bV,I r.fX,I r.H,I r.fP,I r.Node.Key,I r.Node.eH,I r.Node.Next,.b r.Found,I r.Code,I r.Sub.Kind,I r.Sub.A,I r.Sub.Pc,I r.Sub.E,I r.Sub.Row,I r.Sub.B,I r.Sub.H,I r.Sub.Out,I r.Sub.Code,.b r.Sub.dS,.h s2 r.Reads.length,.h s3 r.aL.length,.h s4 r.eN.length,.h s5 r.fQ.length,.h s6 r.bR.length,.h s7 r.cE.length],ow s1 r.Batch.bK,ow s2 r.Reads,ow s3 r.aL,ow s4 r.eN,ow s5 r.fQ,ow s6 r.bR,ow s7 r.cE]):=
 cX tok call118 func118 results118 Q Q<|jZ aD [0] Q<|bY [11] Q Q (dZ 0 1 oJ [0] (fun(x1:aG) (_:Unit)=>[]) [] (fun x1 _=>[ow s1 (x1.Batch.bK:List iD),ow s2 (x1.Reads:List Seen),ow s3 (x1.aL:List aU),ow s4 (x1.eN:List eN),ow s5 (x1.fQ:List Int),ow s6 (x1.bR:List Int),ow s7 (x1.cE:List Int),.box 0 [.b x1.eA,.b x1.Batch.Collect,.h s1 x1.Batch.bK.length,I x1.aE,I x1.Pc,I x1.At,I x1.K,I x1.bV,I x1.fX,I x1.H,I x1.fP,I x1.Node.Key,I x1.Node.eH,I x1.Node.Next,.b x1.Found,I x1.Code,I x1.Sub.Kind,I x1.Sub.A,I x1.Sub.Pc,I x1.Sub.E,I x1.Sub.Row,I x1.Sub.B,I x1.Sub.H,I x1.Sub.Out,I x1.Sub.Code,.b x1.Sub.dS,.h s2 x1.Reads.length,.h s3 x1.aL.length,.h s4 x1.eN.length,.h s5 x1.fQ.length,.h s6 x1.bR.length,.h s7 x1.cE.length]]) Q (jZ aD [] Q<|fun hF=>bd hF fun x2 hA1 hF=>bd hF fun x3 hA2 hF=>(by refine cQ Q Q ?_ ?_ <;> exact have hq1:=rb hA1;wi hq1<|mC oI 7 Q Q Q fun u1 h3 _ h4=>fun hq1=>kC 1 h4 h3 Q Q Q Q Q<|match u1,hq1 with | _,rfl=>have hq2:=rb hA2;wi hq2<|c0 Q (fun _=>nA) fun u2=>fun hq2=>match u2,hq2 with | _,rfl=>sF Q<|iB oI 8 [] h3 () Q Q Q Q Q Q Q<|jY (p:=(({j with Sub:=x3}:aG))) () [1,2,3,4,5,6,11,0] hF Q)) fun x1 _=>BH () [7,0,1,2,3,4,5,6] Q Q)<|BH () [0,1,2,3,4,5,6,7] Q Q
theorem Q4{t:Table}{w_:Int}{s1 s2 s3 s4 s5 s6 s7 s8 s9 s10 s11:AC}{b0:Nat×Nat}:VS prog κ 55 (rH t w_) [.p 0 0,I w_] [b0] ([.box 0 (OE t s1 s2 s3 s4 s5 s6 s7 s8 s9 s10 s11)]++(OL t s1 s2 s3 s4 s5 s6 s7 s8 s9 s10 s11 [])) (fun(r:Table) (y:Unit)=>.t []) (fun(r:Table) (y:Unit)=>([.box 0 (OE r s1 s2 s3 s4 s5 s6 s7 s8 s9 s10 s11)]++(OL r s1 s2 s3 s4 s5 s6 s7 s8 s9 s10 s11 []))):=
 cX tok call55 func55 results55 Q Q<|mC aS 9 Q Q Q fun x1 h1 s12 h2=>fun hF=>kC 1 h2 h1 Q Q Q Q Q<|wi hF<|bY [20,26] Q Q (jZ aD [0,14] Q<|mC oI 20 Q Q Q fun x2 h3 _ h4=>fun hF=>kC 2 h4 h3 Q Q Q Q Q<|wi hF<|mC wA 8 Q Q Q fun x3 h5 _ h6=>fun hF=>kC 3 h6 h5 Q Q Q Q Q<|wi hF<|dZ 0 4 (jX t w_) [0,4] (fun(x4:(List bV)) (_:Unit)=>[]) [1,2,3,4,5,6,7,10,11,14] (fun x4 _=>[ow s8 (x4:List bV),ow s9 (t.aP:List aG),.box 0 [.h s1 t.aB.Mem.Heap.Bytes.length,.h s2 t.aB.Mem.Heap.Class.length,.h s3 t.aB.Mem.aA.Global.length,.h s4 t.aB.Mem.aA.Own.length,I t.aB.aJ.aN,.h s5 t.aB.aJ.cN.length,.h s6 t.aB.bO.length,.h s7 t.aB.BW.length,.h s8 x4.length,.h s9 t.aP.length,.h s10 t.gL.length,.h s11 t.Log.length,I t.aE]]) Q (bY [45] Q Q (fun hF=>aYN Q Q Q Q<|sF Q<|lJ wA 25 [] [30] (⟨x3.Head,if 1000000 < (aZ (x3.fX+1)) then 1000000 else (aZ (x3.fX+1)),0⟩:bV) () Q Q Q Q Q Q Q Q<|nT s8 b9.symm [] [(0,8)] Q Q Q<|fR Q Q<|iB oI 22 [] h3 () Q Q Q Q Q Q Q<|fR Q Q<|iB aS 12 [15,16,17,18,19,29,21] h1 s12 Q Q Q Q Q Q Q<|fR Q Q<|jY () [28,30,0,1,2,3,4,5,6,7,10,11,14] hF Q)<|fun hF=>sF Q<|lJ wA 25 [] [30] ({x3 with jB:=0}:bV) () Q Q Q Q Q Q Q Q<|fR Q Q<|nT s8 b9.symm [] [(0,8)] Q Q Q<|fR Q Q<|iB oI 22 [] h3 () Q Q Q Q Q Q Q<|fR Q Q<|iB aS 12 [15,16,17,18,19,29,21] h1 s12 Q Q Q Q Q Q Q<|fR Q Q<|jY () [28,30,0,1,2,3,4,5,6,7,10,11,14] hF Q) fun x4 _=>fun hF=>ro aS 1 12 1 Q Q Q Q hF fun x5 h7 hF s13=>wi hF<|HM [21] Q Q Q Q (fun _=>EY) fun x6 s14=>fun hF=>sF Q<|lJ aS 13 [16,17,18,19,20,23,22] [] ({x5 with bR:=x6}:aG) (s13.1,s13.2.1,s13.2.2.1,s13.2.2.2.1,s13.2.2.2.2.1,s14,s13.2.2.2.2.2.2) Q Q Q Q Q Q Q Q<|fR Q Q<|nT s9 b9.symm [] [(2,9)] Q Q Q<|fR Q Q<|oW (hT:=tok) () [2,3,4,5,6,7,8,9,0,24,10,11] hF Q results55 Q Q Q Q)<|bY [63,68] Q Q (fun hF=>sF Q<|lJ aS 12 [15,16,17,18,19,20,21] [9] ({x1 with Pc:=17}:aG) s12 Q Q Q Q Q Q Q Q<|fR Q Q<|nT s9 b9.symm [] [(0,9)] Q Q Q<|fR Q Q<|oW (hT:=tok) () [0,1,2,3,4,5,6,7,8,22,10,11] hF Q results55 Q Q Q Q)<|dR 13 1 0 32 [15,16,17,18,19,20,21] Q Q Q Q Q (fun _=>A7 (j:=({x1 with Pc:=15,K:=0}:aG))) fun x7 _=>fun hF=>sF Q<|lJ aS 12 [22,23,24,25,26,27,28] [9] x7 s12 Q Q Q Q Q Q Q Q<|fR Q Q<|nT s9 b9.symm [] [(0,9)] Q Q Q<|fR Q Q<|oW (hT:=tok) () [0,1,2,3,4,5,6,7,8,29,10,11] hF Q results55 Q Q Q Q
theorem Q5{t:Table}{w_:Int}{s1 s2 s3 s4 s5 s6 s7 s8 s9 s10 s11:AC}{b0:Nat×Nat}:VS prog κ 56 (rI t w_) [.p 0 0,I w_] [b0] ([.box 0 (OE t s1 s2 s3 s4 s5 s6 s7 s8 s9 s10 s11)]++(OL t s1 s2 s3 s4 s5 s6 s7 s8 s9 s10 s11 [])) (fun(r:Table) (y:A6C)=>.t []) (fun(r:Table) (y:A6C)=>([.box 0 (OE r y.1 y.2.1 y.2.2.1 y.2.2.2.1 y.2.2.2.2.1 y.2.2.2.2.2 s7 s8 s9 s10 s11)]++(OL r y.1 y.2.1 y.2.2.1 y.2.2.2.1 y.2.2.2.2.1 y.2.2.2.2.2 s7 s8 s9 s10 s11 []))):=
 cX tok call56 func56 results56 Q Q<|mC aS 9 Q Q Q fun x1 h1 s12 h2=>fun hF=>kC 1 h2 h1 Q Q Q Q Q<|wi hF<|dZ 0 2 (fun(_:Unit)=>sG t w_ x1) [0,1,4] (fun(_:Unit) (_:Unit)=>[(20,.b (decide ((x1.cE.length:Int)<=x1.K)))]) [1,2,3,4,5,6,7,8,10,11,0,14] (fun _ _=>[ow s9 (t.aP:List aG)]) Q (jZ aD [0,14] Q<|fun hF=>(by refine cQ Q Q ?_ ?_ <;> exact sF Q<|iB aS 12 [15,16,17,18,19,20,21] h1 s12 Q Q Q Q Q Q Q<|fR Q Q<|jY (p:=()) () [22,1,2,3,4,5,6,7,8,10,11,0,14] hF Q)) fun _ _=>bY [20] Q Q (fun hF=>ro aS 0 12 1 Q Q Q Q hF fun x2 h3 hF s13=>sR Q<|lJ aS 13 [16,17,18,19,20,21,22] [] ({x2 with Pc:=18}:aG) s13 Q Q Q Q Q Q Q Q<|fR Q Q<|nT s9 b9.symm [] [(11,9)] Q Q Q<|fR Q Q<|oW (hT:=tok) (s1,s2,s3,s4,s5,s6) [11,1,2,3,4,5,6,7,8,23,9,10] hF Q results56 Q Q Q Q)<|jZ aD [12] Q<|fun hF=>ro aS 0 12 1 Q Q Q Q hF fun x3 h5 hF s14=>wi hF<|aFV 14 1 16 10 11 0 0 8 [1,2,3,4,5,6,7] Q Q Q Q Q (fun _=>EL) fun x4 s15=>bY [36] Q Q (dR 14 1 0 32 [16,17,18,19,20,21,22] Q Q Q Q Q (fun _=>A7 (j:=({x3 with K:=aZ (x3.K+1),Sub:=x4.1}:aG))) fun x5 _=>fun hF=>sF Q<|lJ aS 13 [30,31,32,33,34,35,36] [] x5 s14 Q Q Q Q Q Q Q Q<|fR Q Q<|nT s9 b9.symm [] [(11,9)] Q Q Q<|fR Q Q<|oW (hT:=tok) s15 [11,23,24,25,26,27,28,29,8,37,9,10] hF Q results56 Q Q Q Q)<|fun hF=>sF Q<|lJ aS 13 [16,17,18,19,20,21,22] [] ({x3 with Sub:=x4.1}:aG) s14 Q Q Q Q Q Q Q Q<|fR Q Q<|nT s9 b9.symm [] [(11,9)] Q Q Q<|fR Q Q<|oW (hT:=tok) s15 [11,23,24,25,26,27,28,29,8,30,9,10] hF Q results56 Q Q Q Q
theorem aA8{m:Mem}{w_ h:Int}{s1 s2 s3 s4:AC}(h1:cZ κ s1 m.Heap.Bytes)(h2:cZ κ s2 m.Heap.Class)(h3:cZ κ s3 m.aA.Global)(h4:cZ κ s4 m.aA.Own):VS prog κ 120 (FO m w_ h) [.g (gM m s1 s2 s3 s4),I w_,I h] [] [] (fun r (y:A4C)=>.t [.g (yM r.1 y),I r.2]) (fun r y=>(zM r.1 y [])):=
 cX tok call120 func120 results120 Q Q<|fW 0 2 (wX m w_ h) [1,2,3,6] 8 [0,1] Q (c0 Q (fun h=>MW (h.a h1) (h.a h2) (h.a h3) (h.a h4)) fun x6=>iV [11,12] Q Q (cY [0,1] Q Q)<|c0 Q (fun _=>gD) fun x7=>cY [0,1] Q Q) fun x1=>bY [8] Q Q (c1 Q (fun h=>A6 (h.a h1) (h.a h2) (h.a h3) (h.a h4)) fun x2 s5=>lE s5 [2,3,4,5] Q Q)<|c0 Q (fun h=>J4 (h.a h1) (h.a h2) (h.a h3) (h.a h4)) fun x3=>bY [19,23] Q Q (c1 Q (fun h=>A6 (h.a h1) (h.a h2) (h.a h3) (h.a h4)) fun x4 s6=>lE s6 [2,3,4,5] Q Q)<|c1 Q (fun h=>T2 (h.a h1) (h.a h2) (h.a h3) (h.a h4)) fun x5 s7=>lE s7 [2,3,4,5] Q Q
theorem UB{t:Table}{w_:Int}{s1 s2 s3 s4 s5 s6 s7 s8 s9 s10 s11:AC}{b0:Nat×Nat}:VS prog κ 57 (wY t w_) [.p 0 0,I w_] [b0] ([.box 0 (OE t s1 s2 s3 s4 s5 s6 s7 s8 s9 s10 s11)]++(OL t s1 s2 s3 s4 s5 s6 s7 s8 s9 s10 s11 [])) (fun(r:Table) (y:A4C)=>.t []) (fun(r:Table) (y:A4C)=>([.box 0 (OE r y.1 y.2.1 y.2.2.1 y.2.2.2 s5 s6 s7 s8 s9 s10 s11)]++(OL r y.1 y.2.1 y.2.2.1 y.2.2.2 s5 s6 s7 s8 s9 s10 s11 []))):=
 cX tok call57 func57 results57 Q Q<|mC aS 9 Q Q Q fun x1 h1 s12 h2=>fun hF=>kC 1 h2 h1 Q Q Q Q Q<|wi hF<|bY [17] Q Q (fun hF=>sR Q<|lJ aS 12 [15,16,17,18,19,20,21] [9] ({x1 with Pc:=18}:aG) s12 Q Q Q Q Q Q Q Q<|fR Q Q<|nT s9 b9.symm [] [(0,9)] Q Q Q<|fR Q Q<|oW (hT:=tok) (s1,s2,s3,s4) [0,1,2,3,4,5,6,7,8,22,10,11] hF Q results57 Q Q Q Q)<|mC oI 19 Q Q Q fun x2 h3 _ h4=>fun hF=>kC 2 h4 h3 Q Q Q Q Q<|D4 oI 22 [] h3 () Q Q Q Q Q Q Q Q Q<|wi hF<|HM [25] Q Q Q Q (fun _=>EY) fun x3 s13=>c0 Q (fun h=>PM (h.o 6 Q)) fun x4=>bY [43] Q Q (c1 Q (fun h=>aA8 (h.o 1 Q) (h.o 2 Q) (h.o 3 Q) (h.o 4 Q)) fun x5 s14=>fun hF=>sF Q<|lJ aS 12 [15,16,17,18,26,20,21] [9] ({x1 with fQ:=x3}:aG) (s12.1,s12.2.1,s12.2.2.1,s12.2.2.2.1,s13,s12.2.2.2.2.2.1,s12.2.2.2.2.2.2) Q Q Q Q Q Q Q Q<|fR Q Q<|nT s9 b9.symm [] [(0,9)] Q Q Q<|fR Q Q<|oW (hT:=tok) s14 [0,27,28,29,30,5,6,7,8,31,10,11] hF Q results57 Q Q Q Q)<|fun hF=>sF Q<|lJ aS 12 [15,16,17,18,26,20,21] [9] ({x1 with fQ:=x3}:aG) (s12.1,s12.2.1,s12.2.2.1,s12.2.2.2.1,s13,s12.2.2.2.2.2.1,s12.2.2.2.2.2.2) Q Q Q Q Q Q Q Q<|fR Q Q<|nT s9 b9.symm [] [(0,9)] Q Q Q<|fR Q Q<|oW (hT:=tok) (s1,s2,s3,s4) [0,1,2,3,4,5,6,7,8,27,10,11] hF Q results57 Q Q Q Q
theorem aF4{c:aJ}{w_:Int}{s1:AC}(h1:cZ κ s1 c.cN):VS prog κ 121 (MG c w_) [.g [I c.aN,.h s1 c.cN.length],I w_] [] [] (fun r (y:AC)=>.t [.g [I r.1.aN,.h y r.1.cN.length],.b r.2]) (fun r y=>[ow y r.1.cN]):=
 cX tok call121 func121 results121 Q Q<|c1 Q (fun h=>uE (h.a h1)) fun x1 s2=>fW 0 3 (vR w_ x1) [1,4,6] 25 [1,2,3] Q (c0 Q (fun h=>A4 (h.a h1)) fun x4=>iV [11,12] Q Q (cY [1,2,3] Q Q)<|c0 Q (fun _=>gD) fun x5=>iV [15,16,17] Q Q (cY [1,2,3] Q Q)<|JC aS4 Q h1 Q fun x6 _ _=>cY [1,2,3] Q Q) fun x2=>bY [25] Q Q (lE s2 [1] Q Q)<|mC QZ 1 Q Q Q fun x3 h2 _ h3=>fun hF=>kC 3 h3 h2 Q Q Q Q Q<|sR Q<|lJ QZ 3 [] [28] (⟨false,0,false,0⟩:qT) () Q Q Q Q Q Q Q Q<|nT s2 b9.symm [(32,1)] [(0,1),(2,1)] Q Q Q<|fR Q Q<|oW (hT:=tok) s2 [6] hF Q results121 Q Q Q Q
theorem UC{b:aB}{w_:Int}{s1 s2 s3 s4 s5 s6 s7:AC}{b0:Nat×Nat}:VS prog κ 58 (wZ b w_) [.p 0 0,I w_] [b0] ([.box 0 (gB b s1 s2 s3 s4 s5 s6 s7)]++(oBs b s1 s2 s3 s4 s5 s6 s7 [])) (fun(r:Bool×aB) (y:AC)=>.b r.1) (fun(r:Bool×aB) (y:AC)=>([.box 0 (gB r.2 s1 s2 s3 s4 y s6 s7)]++(oBs r.2 s1 s2 s3 s4 y s6 s7 []))):=
 cX tok call58 func58 results58 Q Q<|c1 Q (fun h=>aF4 (h.o 5 Q)) fun x1 s8=>lE s8 [0,1,2,3,4,8,6,7] Q Q
theorem PX{t:Table}{w_:Int}{s1 s2 s3 s4 s5 s6 s7 s8 s9 s10 s11:AC}{b0:Nat×Nat}:VS prog κ 59 (pK t w_) [.p 0 0,I w_] [b0] ([.box 0 (OE t s1 s2 s3 s4 s5 s6 s7 s8 s9 s10 s11)]++(OL t s1 s2 s3 s4 s5 s6 s7 s8 s9 s10 s11 [])) (fun(r:Table) (y:AC)=>.t []) (fun(r:Table) (y:AC)=>([.box 0 (OE r s1 s2 s3 s4 s5 s6 s7 s8 s9 s10 y)]++(OL r s1 s2 s3 s4 s5 s6 s7 s8 s9 s10 y []))):=
 cX tok call59 func59 results59 Q Q<|mC aS 9 Q Q Q fun x1 h1 s12 h2=>fun hF=>kC 1 h2 h1 Q Q Q Q Q<|wi hF<|bY [21] Q Q (dZ 0 4 (fun(_:Unit)=>BN t w_ x1) [0,1] (fun(_:Unit) (s13:AC)=>[]) [1,2,3,4,5,6,7,8,10,15,16,17,19,20,21,12,13,14] (fun _ s13=>[ow s13 (t.Log++([({x1 with Kind:=3,Who:=w_,bK:=[]}:jS)]):List jS),.box 0 [.h s1 t.aB.Mem.Heap.Bytes.length,.h s2 t.aB.Mem.Heap.Class.length,.h s3 t.aB.Mem.aA.Global.length,.h s4 t.aB.Mem.aA.Own.length,I t.aB.aJ.aN,.h s5 t.aB.aJ.cN.length,.h s6 t.aB.bO.length,.h s7 t.aB.BW.length,.h s8 t.cH.length,.h s9 t.aP.length,.h s10 t.gL.length,.h s13 (t.Log++([({x1 with Kind:=3,Who:=w_,bK:=[]}:jS)])).length,I t.aE]]) Q (jZ aD [14,22,23] Q<|fun hF=>nd hF fun hA1 hF=>(by refine cQ Q Q ?_ ?_ <;> exact nw iD Q<|QN aOX [24,18] (({x1 with Kind:=3,Who:=w_,bK:=[]}:jS)) (⟨none,0⟩,s12.2.2.2.1) kL Q Q Q Q Q Q Q Q Q Q Q Q Q fun s16=>have hq1:=rn hA1;W4 11 25 kL Q Q Q Q Q Q Q Q Q Q Q hq1 fun hq1 s17=>wi hF<|qH (p:=()) s17 [26,0,1,2,3,4,5,6,7,8,10,15,16,17,19,20,21,12,13,14] Q Q)) fun _ s13=>fun hF=>kC 1 h2 h1 Q Q Q Q Q<|sF Q<|BG iD<|BG Seen<|BG aU<|BG eN<|BG Int<|BG Int<|BG Int<|fR Q Q<|lJ aS 17 [20,21,22,23,24,25,26] [38] (⟨false,(⟨false,[]⟩:Batch),0,0,0,0,0,0,0,0,(⟨0,0,0⟩:bN),false,0,(⟨0,0,0,0,0,0,0,0,0,false⟩:Sub),[],[],[],[],[],[]⟩:aG) (⟨none,0⟩,⟨none,0⟩,⟨none,0⟩,⟨none,0⟩,⟨none,0⟩,⟨none,0⟩,⟨none,0⟩) Q Q Q Q Q Q Q Q<|fR Q Q<|nT s9 b9.symm [] [(1,9)] Q Q Q<|fR Q Q<|oW (hT:=tok) s13 [1,2,3,4,5,6,7,8,9,27,10,0] hF Q results59 Q Q Q Q)<|dZ 0 4 (fun(_:Unit)=>BO t w_ x1) [0,1] (fun(_:Unit) (s20:AC)=>[]) [1,2,3,4,5,6,7,8,10,15,16,17,18,19,20,21,12,13,14] (fun _ s20=>[ow s20 (t.Log++([(⟨3,w_,x1.aE,x1.Code,[],[]⟩:jS)]):List jS),.box 0 [.h s1 t.aB.Mem.Heap.Bytes.length,.h s2 t.aB.Mem.Heap.Class.length,.h s3 t.aB.Mem.aA.Global.length,.h s4 t.aB.Mem.aA.Own.length,I t.aB.aJ.aN,.h s5 t.aB.aJ.cN.length,.h s6 t.aB.bO.length,.h s7 t.aB.BW.length,.h s8 t.cH.length,.h s9 t.aP.length,.h s10 t.gL.length,.h s20 (t.Log++([(⟨3,w_,x1.aE,x1.Code,[],[]⟩:jS)])).length,I t.aE]]) Q (jZ aD [14,22,23] Q<|fun hF=>nd hF fun hA2 hF=>(by refine cQ Q Q ?_ ?_ <;> exact nw iD Q<|nw eN Q<|QN aOX [24,25] ((⟨3,w_,x1.aE,x1.Code,[],[]⟩:jS)) (⟨none,0⟩,⟨none,0⟩) kL Q Q Q Q Q Q Q Q Q Q Q Q Q fun s23=>have hq3:=rn hA2;W4 11 26 kL Q Q Q Q Q Q Q Q Q Q Q hq3 fun hq3 s24=>wi hF<|qH (p:=()) s24 [27,0,1,2,3,4,5,6,7,8,10,15,16,17,18,19,20,21,12,13,14] Q Q)) fun _ s20=>fun hF=>kC 1 h2 h1 Q Q Q Q Q<|sF Q<|BG iD<|BG Seen<|BG aU<|BG eN<|BG Int<|BG Int<|BG Int<|fR Q Q<|lJ aS 18 [21,22,23,24,25,26,27] [38] (⟨false,(⟨false,[]⟩:Batch),0,0,0,0,0,0,0,0,(⟨0,0,0⟩:bN),false,0,(⟨0,0,0,0,0,0,0,0,0,false⟩:Sub),[],[],[],[],[],[]⟩:aG) (⟨none,0⟩,⟨none,0⟩,⟨none,0⟩,⟨none,0⟩,⟨none,0⟩,⟨none,0⟩,⟨none,0⟩) Q Q Q Q Q Q Q Q<|fR Q Q<|nT s9 b9.symm [] [(1,9)] Q Q Q<|fR Q Q<|oW (hT:=tok) s20 [1,2,3,4,5,6,7,8,9,28,10,0] hF Q results59 Q Q Q Q
theorem UD{t:Table}{w_:Int}{s1 s2 s3 s4 s5 s6 s7 s8 s9 s10 s11:AC}{b0:Nat×Nat}:VS prog κ 25 (xA t w_) [.p 0 0,I w_] [b0] ([.box 0 (OE t s1 s2 s3 s4 s5 s6 s7 s8 s9 s10 s11)]++(OL t s1 s2 s3 s4 s5 s6 s7 s8 s9 s10 s11 [])) (fun(r:Table) (y:A7C)=>.t []) (fun(r:Table) (y:A7C)=>([.box 0 (OE r y.1 y.2.1 y.2.2.1 y.2.2.2.1 y.2.2.2.2.1 y.2.2.2.2.2.1 s7 s8 s9 s10 y.2.2.2.2.2.2)]++(OL r y.1 y.2.1 y.2.2.1 y.2.2.2.1 y.2.2.2.2.1 y.2.2.2.2.2.1 s7 s8 s9 s10 y.2.2.2.2.2.2 []))):=
 cX tok call25 func25 results25 Q Q<|mC aS 9 Q Q Q fun x1 h1 s12 h2=>fun hF=>kC 1 h2 h1 Q Q Q Q Q<|wi hF<|bY [18,23] Q Q (fun hF=>D4 aS 12 [15,16,17,18,19,20,21] h1 s12 Q Q Q Q Q Q Q Q Q<|wi hF<|dR 0 0 0 13 [1,2,3,4,5,6,7,8,22,10,11] Q Q Q Q Q (fun _=>SG) fun x2 s13=>BH (s1,s2,s3,s4,s5,s6,s13) [0,23,24,25,26,27,28,29,30,31,32,33] Q Q)<|dZ 0 2 (gY t w_ x1) [0,1,4,5] (fun(x3:Bool) (_:Unit)=>[(27,.b x3)]) [1,2,3,4,5,6,7,8,10,11,0,14] (fun x3 _=>[ow s9 (t.aP:List aG)]) Q (iV [29,30] Q Q (fun hF=>sF Q<|iB aS 12 [15,16,17,18,19,20,21] h1 s12 Q Q Q Q Q Q Q<|fR Q Q<|jY () [22,1,2,3,4,5,6,7,8,10,11,0,14] hF Q)<|iV [32,33,34] Q Q (fun hF=>sF Q<|iB aS 12 [15,16,17,18,19,20,21] h1 s12 Q Q Q Q Q Q Q<|fR Q Q<|jY () [22,1,2,3,4,5,6,7,8,10,11,0,14] hF Q)<|fun hF=>sF Q<|iB aS 12 [15,16,17,18,19,20,21] h1 s12 Q Q Q Q Q Q Q<|fR Q Q<|jY () [22,1,2,3,4,5,6,7,8,10,11,0,14] hF Q) fun x3 _=>bY [27] Q Q (dR 11 0 0 13 [1,2,3,4,5,6,7,8,0,9,10] Q Q Q Q Q (fun _=>PO) fun x4 s14=>BH (s14.1,s14.2.1,s14.2.2.1,s14.2.2.2.1,s14.2.2.2.2.1,s14.2.2.2.2.2,s11) [11,13,14,15,16,17,18,19,20,21,22,23] Q Q)<|bY [41,43] Q Q (fun hF=>ro aS 0 12 1 Q Q Q Q hF fun x5 h3 hF s15=>wi hF<|dR 14 1 0 32 [16,17,18,19,20,21,22] Q Q Q Q Q (fun _=>VV) fun x6 s16=>fun hF=>sF Q<|lJ aS 13 [23,24,25,26,27,28,29] [] x6 (s15.1,s15.2.1,s16.1,s16.2,s15.2.2.2.2.1,s15.2.2.2.2.2.1,s15.2.2.2.2.2.2) Q Q Q Q Q Q Q Q<|fR Q Q<|nT s9 b9.symm [] [(11,9)] Q Q Q<|fR Q Q<|oW (hT:=tok) (s1,s2,s3,s4,s5,s6,s11) [11,1,2,3,4,5,6,7,8,30,9,10] hF Q results25 Q Q Q Q)<|c0 Q (fun _=>bP) fun x7=>bY [46,48] Q Q (dR 11 0 0 13 [1,2,3,4,5,6,7,8,0,9,10] Q Q Q Q Q (fun _=>T6) fun x8 _=>BH (s1,s2,s3,s4,s5,s6,s11) [11,13,14,15,16,17,18,19,20,21,22,23] Q Q)<|bY [52,54] Q Q (dR 11 0 0 13 [1,2,3,4,5,6,7,8,0,9,10] Q Q Q Q Q (fun _=>SK) fun x9 s17=>BH (s17.1,s17.2.1,s17.2.2.1,s17.2.2.2.1,s17.2.2.2.2.1,s17.2.2.2.2.2,s11) [11,13,14,15,16,17,18,19,20,21,22,23] Q Q)<|bY [58,60] Q Q (dR 11 0 0 13 [1,2,3,4,5,6,7,8,0,9,10] Q Q Q Q Q (fun _=>T9) fun x10 s18=>BH (s1,s2,s3,s4,s5,s6,s18) [11,13,14,15,16,17,18,19,20,21,22,23] Q Q)<|bY [64,66] Q Q (dR 11 0 0 13 [1,2,3,4,5,6,7,8,0,9,10] Q Q Q Q Q (fun _=>OH) fun x11 _=>BH (s1,s2,s3,s4,s5,s6,s11) [11,13,14,15,16,17,18,19,20,21,22,23] Q Q)<|c0 Q (fun _=>bP) fun x12=>bY [70,72] Q Q (dR 11 0 0 13 [1,2,3,4,5,6,7,8,0,9,10] Q Q Q Q Q (fun _=>SL) fun x13 s19=>BH (s19.1,s19.2.1,s19.2.2.1,s19.2.2.2,s5,s6,s11) [11,13,14,15,16,17,18,19,20,21,22,23] Q Q)<|fW 0 2 (jE t w_ x1) [0,1,4,5] 76 [1,2,3,4,5,6,7,8,0,9,10,11,12] Q (iV [78,79] Q Q (cY [1,2,3,4,5,6,7,8,0,9,10,11,12] Q Q)<|cY [1,2,3,4,5,6,7,8,0,9,10,11,12] Q Q) fun x14=>bY [76] Q Q (dR 11 0 0 13 [0,1,2,3,4,5,6,7,8,9,10] Q Q Q Q Q (fun _=>Q4) fun x15 _=>BH (s1,s2,s3,s4,s5,s6,s11) [11,13,14,15,16,17,18,19,20,21,22,23] Q Q)<|bY [86,88] Q Q (dR 11 0 0 13 [0,1,2,3,4,5,6,7,8,9,10] Q Q Q Q Q (fun _=>Q5) fun x16 s20=>BH (s20.1,s20.2.1,s20.2.2.1,s20.2.2.2.1,s20.2.2.2.2.1,s20.2.2.2.2.2,s11) [11,13,14,15,16,17,18,19,20,21,22,23] Q Q)<|bY [92,94] Q Q (dR 11 0 0 13 [0,1,2,3,4,5,6,7,8,9,10] Q Q Q Q Q (fun _=>UB) fun x17 s21=>BH (s21.1,s21.2.1,s21.2.2.1,s21.2.2.2,s5,s6,s11) [11,13,14,15,16,17,18,19,20,21,22,23] Q Q)<|bY [98,100] Q Q (dR 11 0 0 8 [0,1,2,3,4,5,6] Q Q Q Q Q (fun _=>UC) fun x18 s22=>fun hF=>ro aS 8 12 1 Q Q Q Q hF fun x19 h5 hF s23=>sF Q<|lJ aS 20 [23,24,25,26,27,28,29] [] ({x19 with Pc:=19}:aG) s23 Q Q Q Q Q Q Q Q<|fR Q Q<|nT s9 b9.symm [] [(11,9)] Q Q Q<|fR Q Q<|oW (hT:=tok) (s1,s2,s3,s4,s22,s6,s11) [11,13,14,15,16,17,18,19,7,30,9,10] hF Q results25 Q Q Q Q)<|bY [109,111] Q Q (dR 11 0 0 13 [0,1,2,3,4,5,6,7,8,9,10] Q Q Q Q Q (fun _=>PX) fun x20 s24=>BH (s1,s2,s3,s4,s5,s6,s24) [11,13,14,15,16,17,18,19,20,21,22,23] Q Q)<|fun hF=>ro aS 8 12 1 Q Q Q Q hF fun x21 h7 hF s25=>wi hF<|dR 14 1 0 32 [16,17,18,19,20,21,22] Q Q Q Q Q (fun _=>dB) fun x22 _=>fun hF=>sF Q<|lJ aS 13 [23,24,25,26,27,28,29] [] x22 s25 Q Q Q Q Q Q Q Q<|fR Q Q<|nT s9 b9.symm [] [(11,9)] Q Q Q<|fR Q Q<|oW (hT:=tok) (s1,s2,s3,s4,s5,s6,s11) [11,0,1,2,3,4,5,6,7,30,9,10] hF Q results25 Q Q Q Q
theorem VX{x:tI}{s1 s2:AC}(h1:cZ κ s1 x.gL)(h2:cZ κ s2 x.iI):VS prog κ 8 (AS x) [.g [.h s1 x.gL.length,.h s2 x.iI.length]] [] [] (fun r (y:aY6)=>.g (yTb r y)) (fun r y=>(zTb r y [])):=
 cX tok call8 func8 results8 Q Q<|c1 Q (fun h=>X5 (h.a h1)) fun x1 s3=>bY [12] Q Q (lE s3 [2,3,4,5,6,7,8,9,10,11,12] Q Q)<|fun hF=>aYN Q Q Q Q<|aW4 Q Q Q Q Q h2 Q Q hF fun hF s4 h3=>wi hF<|R8 (s3.1,s3.2.1,s3.2.2.1,s3.2.2.2.1,s3.2.2.2.2.1,s3.2.2.2.2.2.1,s3.2.2.2.2.2.2.2.2.2.2) [2,3,20,21] (fun(p:Int×Table) (u:A7C)=>[(22,I p.1)]) [2,3,4,5,6,7,8,9,10,11,12,13,1] [1] (fun p u=>(OL p.2 u.1 u.2.1 u.2.2.1 u.2.2.2.1 u.2.2.2.2.1 u.2.2.2.2.2.1 s3.2.2.2.2.2.2.1 s3.2.2.2.2.2.2.2.1 s3.2.2.2.2.2.2.2.2.1 s3.2.2.2.2.2.2.2.2.2.1 u.2.2.2.2.2.2 [.box 2 (OE p.2 u.1 u.2.1 u.2.2.1 u.2.2.2.1 u.2.2.2.2.1 u.2.2.2.2.2.1 s3.2.2.2.2.2.2.1 s3.2.2.2.2.2.2.2.1 s3.2.2.2.2.2.2.2.2.1 s3.2.2.2.2.2.2.2.2.2.1 u.2.2.2.2.2.2)])) id [2,3] (fun(x6:Table) (u:A7C)=>[]) [1] (fun x6 u=>(OL x6 u.1 u.2.1 u.2.2.1 u.2.2.2.1 u.2.2.2.2.1 u.2.2.2.2.2.1 s3.2.2.2.2.2.2.1 s3.2.2.2.2.2.2.2.1 s3.2.2.2.2.2.2.2.2.1 s3.2.2.2.2.2.2.2.2.2.1 u.2.2.2.2.2.2 [.box 2 (OE x6 u.1 u.2.1 u.2.2.1 u.2.2.2.1 u.2.2.2.2.1 u.2.2.2.2.2.1 s3.2.2.2.2.2.2.1 s3.2.2.2.2.2.2.2.1 s3.2.2.2.2.2.2.2.2.1 s3.2.2.2.2.2.2.2.2.2.1 u.2.2.2.2.2.2)])) Q Q (fun hF1 ⟨x4,x5⟩ ⟨s12,s13,s14,s15,s16,s17,s18⟩ hr1=>bY [23] Q Q (dZ 2 3 (rJ x4) [2,3,20,21,22] (fun(x7:Table) (u:A7C)=>[]) [12] (fun x7 u=>(OL x7 u.1 u.2.1 u.2.2.1 u.2.2.2.1 u.2.2.2.2.1 u.2.2.2.2.2.1 s3.2.2.2.2.2.2.1 s3.2.2.2.2.2.2.2.1 s3.2.2.2.2.2.2.2.2.1 s3.2.2.2.2.2.2.2.2.2.1 u.2.2.2.2.2.2 [.box 2 (OE x7 u.1 u.2.1 u.2.2.1 u.2.2.2.1 u.2.2.2.2.1 u.2.2.2.2.2.1 s3.2.2.2.2.2.2.1 s3.2.2.2.2.2.2.2.1 s3.2.2.2.2.2.2.2.2.1 s3.2.2.2.2.2.2.2.2.2.1 u.2.2.2.2.2.2)])) Q (ixI Q h3 Q fun x8=>c0 Q (fun _=>gD) fun x9=>bY [27] Q Q (dR 11 2 0 13 [0,1,2,3,4,5,6,7,8,9,10] Q Q Q Q Q (fun _=>UD) fun x10 s33=>qH s33 [14,15,16,17,18,19,20,21,22,23,24,11,12] Q Q)<|qH (s12,s13,s14,s15,s16,s17,s18) [0,1,2,3,4,5,6,7,8,9,10,11,12] Q Q) fun x7 ⟨s26,s27,s28,s29,s30,s31,s32⟩=>nxW (s26,s27,s28,s29,s30,s31,s32) [0,1,2,3,4,5,6,7,8,9,10,11,12] Q)<|bkW (s12,s13,s14,s15,s16,s17,s18) [0,1,2,3,4,5,6,7,8,9,10,11,12] Q) fun x6 ⟨s19,s20,s21,s22,s23,s24,s25⟩=>lE (s19,s20,s21,s22,s23,s24,s3.2.2.2.2.2.2.1,s3.2.2.2.2.2.2.2.1,s3.2.2.2.2.2.2.2.2.1,s3.2.2.2.2.2.2.2.2.2.1,s25) [0,1,2,3,4,5,6,7,8,9,10] Q Q
theorem aF5{l:List Int}{x:Int}{s1:AC}(h1:cZ κ s1 l):V0 prog κ 31 (GQ l x) [.h s1 l.length,I x] .b:=
 cX tok call31 func31 results31 Q Q<|WQ 5 [0,1] [] Out.brk [] [] Q Q (fun hF1 x2 hr1=>bY [9] Q Q (ixI Q h1 Q fun x3=>bY [17] Q Q (U0 hr1 hF1<|eJ Q Q)<|QO [] Q)<|OC [] Q)<|eJ Q Q
theorem MX{s:List jS}{f:(jS->Option Bool)}{s1:AC}{g_f:FuncId}{cap_f:List Value}(h1:cZ κ s1 s)(h_f:SS prog κ (XU:CB jS) .b g_f cap_f f):V0 prog κ 62 (sJ s f) [.h s1 s.length,.k (.func (.func g_f) #[] cap_f.toArray)] I:=
 cX tok call62 func62 results62 Q Q<|WQ 8 [0,1,7] [] Out.brk [] [] Q Q (fun hF1 x2 hr1=>bY [9] Q Q (JC XU Q h1 Q fun x3 s2 h2=>fun hG1=>fa1 h_f x3 (s2.1,s2.2) Q Q Q Q Q ⟨h2.1,h2.2⟩ hG1 fun x4 _ hG1=>wi hG1<|bY [16] Q Q (U0 hr1 hF1<|eJ Q Q)<|QO [] Q)<|OC [] Q)<|eJ Q Q
theorem VY{e_:jS}{k0 k1:Int}{s1 s2:AC}{b0 b1:Nat×Nat}(h1:cZ κ s1 e_.bK)(h2:cZ κ s2 e_.eN):VS prog κ 63 (GS e_ k0 k1) [.g [I e_.Kind,I e_.Who,I e_.aE,I e_.Code,.h s1 e_.bK.length,.h s2 e_.eN.length],.p 0 0,.p 1 0] [b0,b1] [.ro 0 [I k0],.ro 1 [I k1]] (fun r (_:Unit)=>.b r) (fun _ _=>[]):=
 cX tok call63 func63 results63 Q Q<|fW 0 3 rK [] 4 [] Q (iV [8,9] Q Q (cY [] Q Q)<|cY [] Q Q) fun x1=>eJ Q Q
theorem G8{l:List jS}{kind serial:Int}{s1:AC}(h1:cZ κ s1 l):V0 prog κ 27 (tW l kind serial) [.h s1 l.length,I kind,I serial] I:=
 cX tok call27 func27 results27 Q Q<|fun hF=>mf [0,1] Q Q Q<|wi hF<|a0V [0,1] Q Q Q Q (fun h=>fun hB=>MX (h.a h1) (aCI (cs:=[(0,[I kind]),(1,[I serial])]) call63 hB Q fun _ hy=>VY hy.1 hy.2)) fun x1=>eJ Q Q
theorem UE{l:List jS}{s1:AC}(h1:cZ κ s1 l):VS prog κ 9 (B7 l) [.h s1 l.length] [] [] (fun r (y:AC)=>.h y r.length) (fun r y=>[ow y r]):=
 cX tok call9 func9 results9 Q Q<|fun hF=>lt0 (α:=Int) bC Q Q Q Q fun s2=>wi hF<|R8 s2 [0,8,9] (fun(p:(List Int)×Int) (s4:AC)=>[(3,.h s4 p.1.length),(10,I p.2)]) [0] [] (fun p s4=>[ow s4 (p.1:List Int)]) id [] (fun(x5:(List Int)) (s5:AC)=>[(3,.h s5 x5.length)]) [] (fun x5 s5=>[ow s5 (x5:List Int)]) Q Q (fun hF1 ⟨x3,x4⟩ s4 hr1=>bY [11] Q Q (dZ 2 0 (vU x4) [0,8,9,10] (fun(x6:(List Int)) (s6:AC)=>[(3,.h s6 x6.length)]) [] (fun x6 s6=>[ow s6 (x6:List Int)]) Q (JC XU Q h1 Q fun x7 s7 h2=>fW 0 2 (CV l x3 x4 x7) [0,3,5,8,9,10] 22 [0,2] Q (iV [16,17] Q Q (cY [0,2] Q Q)<|c0 Q (fun h=>qW (h.o 0 Q)) fun x12=>cY [0,2] Q Q) fun x8=>bY [22] Q Q (qH s4 [0] Q Q)<|c0 Q (fun h=>G8 (h.a h1)) fun x9=>fW 0 2 (CU x3 x4 x7) [0,3,5,8,9,10] 36 [0,1] Q (iV [28,29] Q Q (JC XU Q h1 Q fun x11 s10 h3=>cY [0,1] Q Q)<|cY [0,1] Q Q) fun x10=>bY [36] Q Q (fun hG1=>lt1 Q bC Q Q Q Q fun s8=>ap 0 bC Q Q Q Q Q Q Q (fun h=>(h.o 2 Q)) Q Q hG1 fun hG1 s9=>wi hG1<|qH s9 [0] Q Q)<|qH s4 [0] Q Q) fun x6 s6=>nxW s6 [0] Q)<|bkW s4 [0] Q) fun x5 s5=>lE s5 [0] Q Q
theorem G9{l:List jS}{kind serial:Int}{s1:AC}(h1:cZ κ s1 l):V0 prog κ 28 (tX l kind serial) [.h s1 l.length,I kind,I serial] I:=
 cX tok call28 func28 results28 Q Q<|WQ 7 [0,1,2] [] Out.brk [] [] Q Q (fun hF1 x2 hr1=>bY [11] Q Q (fW 0 0 (xD x2) [0,1,2,7] 29 [] Q (JC XU Q h1 Q fun x4 s2 h2=>iV [20,21] Q Q (JC XU Q h1 Q fun x5 s3 h3=>cY [] Q Q)<|cY [] Q Q) fun x3=>bY [29] Q Q (U0 hr1 hF1<|eJ Q Q)<|QO [] Q)<|OC [] Q)<|eJ Q Q
theorem C3{l:List jS}{a_ b:Int}{s1:AC}(h1:cZ κ s1 l):V0 prog κ 10 (IW l a_ b) [.h s1 l.length,I a_,I b] .b:=
 cX tok call10 func10 results10 Q Q<|c0 Q (fun h=>G9 (h.a h1)) fun x1=>c0 Q (fun h=>G9 (h.a h1)) fun x2=>fW 0 0 sK [] 6 [] Q (iV [16,17] Q Q (iV [19,20,21] Q Q (cY [] Q Q)<|cY [] Q Q)<|cY [] Q Q) fun x3=>eJ Q Q
theorem jN{l:List jS}{a_ b:Int}{s1:AC}(h1:cZ κ s1 l):V0 prog κ 11 (DM l a_ b) [.h s1 l.length,I a_,I b] .b:=
 cX tok call11 func11 results11 Q Q<|c0 Q (fun h=>G8 (h.a h1)) fun x1=>c0 Q (fun h=>G8 (h.a h1)) fun x2=>fW 0 0 sL [] 6 [] Q (iV [16,17] Q Q (iV [19,20,21] Q Q (cY [] Q Q)<|cY [] Q Q)<|cY [] Q Q) fun x3=>eJ Q Q
theorem YD{earlier:Int}{k0:List jS}{k1:Int}{s1:AC}{b0 b1:Nat×Nat}(h1:cZ κ s1 k0):VS prog κ 30 (CX earlier k0 k1) [I earlier,.p 0 0,.p 1 0] [b0,b1] [.ro 0 [.h s1 k0.length],.ro 1 [I k1]] (fun r (_:Unit)=>.b r) (fun _ _=>[]):=
 cX tok call30 func30 results30 Q Q<|c0 Q (fun h=>jN (h.a h1)) fun x1=>eJ Q Q
theorem aDD{l:List jS}{s1:AC}(h1:cZ κ s1 l):V0 prog κ 12 (IX l) [.h s1 l.length] .b:=
 cX tok call12 func12 results12 Q Q<|c1 Q (fun h=>UE (h.a h1)) fun x1 s2=>fun hF=>shS [0] Q Q<|wi hF<|WQ 10 [1,3,8,9] [1,0] Out.brk [] [] Q Q (fun hF1 x3 hr1=>bY [11] Q Q (mC oI 0 Q Q Q fun x4 h2 _ h3=>fun hG1=>kC 1 h3 h2 Q Q Q Q Q<|D4 oI 2 [] h2 () Q Q Q Q Q Q Q Q Q<|cpc 6 Q Q fun hc1=>aKI hc1 Q Q Q Q Q Q hG1 fun hG1 h4=>mf [0,2] Q Q Q<|wi hG1<|a0V [1,5] Q Q Q Q (fun h=>fun hB=>i4 ((h.o 6 Q).sub (NF h4.1 h4.2) h4) (aCI (cs:=[(0,[.h s1 l.length]),(2,[I x4])]) call30 hB Q fun hk _=>YD (rk hk (h.a h1)))) fun x5=>bY [19] Q Q (U0 hr1 hF1<|eJ Q Q)<|QO [6,1] Q)<|OC [] Q)<|eJ Q Q
theorem YE{a_ b:List Int}{s1:AC}{s2:AC}(h1:cZ κ s1 a_)(h2:cZ κ s2 b):V0 prog κ 13 (CY a_ b) [.h s1 a_.length,.h s2 b.length] .b:=
 cX tok call13 func13 results13 Q Q<|bY [10] Q Q (eJ Q Q)<|WQ 5 [0,1] [] Out.brk [] [] Q Q (fun hF1 x2 hr1=>bY [14] Q Q (jZ aD [] Q<|ixI Q h1 Q fun x3=>ixI Q h2 Q fun x4=>bY [25] Q Q (U0 hr1 hF1<|eJ Q Q)<|QO [] Q)<|OC [] Q)<|eJ Q Q
theorem aF6{l:List jS}{s1:AC}(h1:cZ κ s1 l):VS prog κ 14 (MK l) [.h s1 l.length] [] [] (fun r (y:AC)=>.h y r.length) (fun r y=>[ow y r]):=
 cX tok call14 func14 results14 Q Q<|fun hF=>lt0 (α:=Int) bC Q Q Q Q fun s2=>wi hF<|R8 s2 [0] (fun(p:(List Int)×Int) (s4:AC)=>[(3,.h s4 p.1.length),(4,I p.2)]) [0] [] (fun p s4=>[ow s4 (p.1:List Int)]) id [] (fun(x5:(List Int)) (s5:AC)=>[(3,.h s5 x5.length)]) [] (fun x5 s5=>[ow s5 (x5:List Int)]) Q Q (fun hF1 ⟨x3,x4⟩ s4 hr1=>bY [10] Q Q (dZ 3 0 (vW x4) [0,4] (fun(x6:(List Int)) (s6:AC)=>[(3,.h s6 x6.length)]) [] (fun x6 s6=>[ow s6 (x6:List Int)]) Q (fW 0 0 (C0 l x3 x4) [0,3,4] 27 [0] Q (JC XU Q h1 Q fun x13 s12 h5=>iV [18,19] Q Q (cY [0] Q Q)<|JC XU Q h1 Q fun x14 s13 h6=>c0 Q (fun h=>aF5 (h.o 0 Q)) fun x15=>cY [0] Q Q) fun x7=>bY [27] Q Q (qH s4 [0] Q Q)<|JC XU Q h1 Q fun x8 s7 h2=>c0 Q (fun h=>G9 (h.a h1)) fun x9=>fW 0 1 (CZ l x3 x4) [0,3,4] 44 [0] Q (iV [36,37] Q Q (JC XU Q h1 Q fun x12 s11 h4=>cY [0] Q Q)<|cY [0] Q Q) fun x10=>bY [44] Q Q (JC XU Q h1 Q fun x11 s8 h3=>fun hG1=>lt1 Q bC Q Q Q Q fun s9=>ap 0 bC Q Q Q Q Q Q Q (fun h=>(h.o 2 Q)) Q Q hG1 fun hG1 s10=>wi hG1<|qH s10 [0] Q Q)<|qH s4 [0] Q Q) fun x6 s6=>nxW s6 [0] Q)<|bkW s4 [0] Q) fun x5 s5=>lE s5 [0] Q Q
theorem YF{code:List UInt8}{s1:AC}(h1:cZ κ s1 code):V0 prog κ 3 (JV code) [.h s1 code.length] .b:=
 cX tok call3 func3 results3 Q Q<|c0 Q (fun h=>aKT (h.a h1)) fun x1=>bY [9] Q Q (eJ Q Q)<|c1 Q (fun h=>PK (h.a h1)) fun x2 s2=>c0 Q (fun h=>aC3 (h.o 0 Q) (h.o 1 Q)) fun x3=>bY [14] Q Q (eJ Q Q)<|c1 Q (fun h=>VX (h.o 0 Q) (h.o 1 Q)) fun x4 s3=>c1 Q (fun h=>UE (h.o 13 Q)) fun x5 s4=>R8 () [4,5] (fun(p:Int×Table) (_:Unit)=>[(6,I p.1)]) [3,4,5,6,7,8,9,10,11,12,13,14,15] [15] (fun p _=>(zTb p.2 s3 [.box 1 (yTb p.2 s3)])) Out.brk [4,5] (fun(x10:Table) (_:Unit)=>[]) [15] (fun x10 _=>(zTb x10 s3 [.box 1 (yTb x10 s3)])) Q Q (fun hF1 ⟨x8,x9⟩ _ hr1=>bY [23] Q Q (R8 () [4,5,6] (fun(p:Int×Table) (_:Unit)=>[(7,I p.1)]) [0,1,2,3,4,5,6,7,8,9,10,11,12] [12] (fun p _=>(zTb p.2 s3 [.box 1 (yTb p.2 s3)])) Out.brk [4,5,6] (fun(x19:Table) (_:Unit)=>[]) [12] (fun x19 _=>(zTb x19 s3 [.box 1 (yTb x19 s3)])) Q Q (fun hF3 ⟨x17,x18⟩ _ hr3=>bY [28] Q Q (dZ 0 2 (fun(p:Bool×Table)=>oN x17 p.1 p.2) [4,5,6,7] (fun(p:Bool×Table) (_:Unit)=>[(65,.b p.1)]) [12] (fun p _=>(zTb p.2 s3 [.box 1 (yTb p.2 s3)])) Q (jZ aD [11] Q<|mC oI 12 Q Q Q fun x22 h2 _ h3=>fun hG3=>kC 2 h3 h2 Q Q Q Q Q<|D4 oI 13 [] h2 () Q Q Q Q Q Q Q Q Q<|wi hG3<|mC oI 16 Q Q Q fun x23 h4 _ h5=>fun hG3=>kC 3 h5 h4 Q Q Q Q Q<|cQ Q Q (D4 oI 17 [] h4 () Q Q Q Q Q Q Q Q Q<|have hq1:=rb h2;ro oI 20 15 2 Q Q Q Q hq1 fun u1 h10 hq1 _=>match u1,hq1 with | _,rfl=>D4 oI 21 [] h10 () Q Q Q Q Q Q Q Q Q<|have hq2:=rb h4;ro oI 24 19 3 Q Q Q Q hq2 fun u2 h12 hq2 _=>match u2,hq2 with | _,rfl=>wi hG3<|iV [39,40] Q Q (fun hG3=>sF Q<|iB oI 25 [] h12 () Q Q Q Q Q Q Q<|fR Q Q<|jY (p:=(true,x18)) () [0,1,2,3,4,5,6,7,8,9,10,11,28] hG3 Q)<|fun hG3=>D4 oI 25 [] h12 () Q Q Q Q Q Q Q Q Q<|have hq3:=rb h2;wi hq3<|mC oI 28 Q Q Q fun u3 h14 _ h15=>fun hq3=>kC 4 h15 h14 Q Q Q Q Q<|match u3,hq3 with | _,rfl=>D4 oI 29 [] h14 () Q Q Q Q Q Q Q Q Q<|have hq4:=rb h4;wi hq4<|mC oI 32 Q Q Q fun u4 h16 _ h17=>fun hq4=>kC 5 h17 h16 Q Q Q Q Q<|match u4,hq4 with | _,rfl=>bd hG3 fun x24 hA1 hG3=>cQ Q Q (D4 oI 33 [] h16 () Q Q Q Q Q Q Q Q Q<|have hq5:=rb h14;ro oI 36 31 4 Q Q Q Q hq5 fun u5 h22 hq5 _=>match u5,hq5 with | _,rfl=>D4 oI 37 [] h22 () Q Q Q Q Q Q Q Q Q<|have hq6:=rb h16;ro oI 40 35 5 Q Q Q Q hq6 fun u6 h24 hq6 _=>match u6,hq6 with | _,rfl=>have hq7:=rb hA1;wi hq7<|c0 Q (fun h=>C3 (h.o 10 Q)) fun u7=>fun hq7=>match u7,hq7 with | _,rfl=>wi hG3<|iV [51,52,53] Q Q (fun hG3=>sF Q<|iB oI 41 [] h24 () Q Q Q Q Q Q Q<|fR Q Q<|jY (p:=(true,x18)) () [0,1,2,3,4,5,6,7,8,9,10,11,44] hG3 Q)<|fun hG3=>D4 oI 41 [] h24 () Q Q Q Q Q Q Q Q Q<|have hq8:=rb h14;wi hq8<|mC oI 44 Q Q Q fun u8 h26 _ h27=>fun hq8=>kC 6 h27 h26 Q Q Q Q Q<|match u8,hq8 with | _,rfl=>D4 oI 45 [] h26 () Q Q Q Q Q Q Q Q Q<|have hq9:=rb h16;wi hq9<|mC oI 48 Q Q Q fun u9 h28 _ h29=>fun hq9=>kC 7 h29 h28 Q Q Q Q Q<|match u9,hq9 with | _,rfl=>bd hG3 fun x25 hA2 hG3=>cQ Q Q (D4 oI 49 [] h28 () Q Q Q Q Q Q Q Q Q<|have hq10:=rb h26;ro oI 52 47 6 Q Q Q Q hq10 fun u10 h34 hq10 _=>match u10,hq10 with | _,rfl=>D4 oI 53 [] h34 () Q Q Q Q Q Q Q Q Q<|have hq11:=rb h28;ro oI 56 51 7 Q Q Q Q hq11 fun u11 h36 hq11 _=>match u11,hq11 with | _,rfl=>have hq12:=rb hA2;wi hq12<|c0 Q (fun h=>jN (h.o 10 Q)) fun u12=>fun hq12=>match u12,hq12 with | _,rfl=>sF Q<|iB oI 57 [] h36 () Q Q Q Q Q Q Q<|fR Q Q<|jY (p:=(x25,x18)) () [0,1,2,3,4,5,6,7,8,9,10,11,60] hG3 Q) (D4 oI 49 [] h28 () Q Q Q Q Q Q Q Q Q<|have hq13:=rb h26;ro oI 52 47 6 Q Q Q Q hq13 fun u13 h38 hq13 _=>match u13,hq13 with | _,rfl=>have hq14:=rb hA2;wi hq14<|c0 Q (fun h=>jN (h.o 10 Q)) fun u14=>fun hq14=>match u14,hq14 with | _,rfl=>sF Q<|iB oI 53 [] h38 () Q Q Q Q Q Q Q<|fR Q Q<|jY (p:=(x25,x18)) () [0,1,2,3,4,5,6,7,8,9,10,11,56] hG3 Q)) (D4 oI 33 [] h16 () Q Q Q Q Q Q Q Q Q<|have hq15:=rb h14;ro oI 36 31 4 Q Q Q Q hq15 fun u15 h40 hq15 _=>match u15,hq15 with | _,rfl=>have hq16:=rb hA1;wi hq16<|c0 Q (fun h=>C3 (h.o 10 Q)) fun u16=>fun hq16=>match u16,hq16 with | _,rfl=>wi hG3<|iV [51,52,53] Q Q (fun hG3=>sF Q<|iB oI 37 [] h40 () Q Q Q Q Q Q Q<|fR Q Q<|jY (p:=(true,x18)) () [0,1,2,3,4,5,6,7,8,9,10,11,40] hG3 Q)<|fun hG3=>D4 oI 37 [] h40 () Q Q Q Q Q Q Q Q Q<|have hq17:=rb h14;wi hq17<|mC oI 40 Q Q Q fun u17 h42 _ h43=>fun hq17=>kC 6 h43 h42 Q Q Q Q Q<|match u17,hq17 with | _,rfl=>D4 oI 41 [] h42 () Q Q Q Q Q Q Q Q Q<|have hq18:=rb h16;wi hq18<|mC oI 44 Q Q Q fun u18 h44 _ h45=>fun hq18=>kC 7 h45 h44 Q Q Q Q Q<|match u18,hq18 with | _,rfl=>bd hG3 fun x26 hA3 hG3=>cQ Q Q (D4 oI 45 [] h44 () Q Q Q Q Q Q Q Q Q<|have hq19:=rb h42;ro oI 48 43 6 Q Q Q Q hq19 fun u19 h50 hq19 _=>match u19,hq19 with | _,rfl=>D4 oI 49 [] h50 () Q Q Q Q Q Q Q Q Q<|have hq20:=rb h44;ro oI 52 47 7 Q Q Q Q hq20 fun u20 h52 hq20 _=>match u20,hq20 with | _,rfl=>have hq21:=rb hA3;wi hq21<|c0 Q (fun h=>jN (h.o 10 Q)) fun u21=>fun hq21=>match u21,hq21 with | _,rfl=>sF Q<|iB oI 53 [] h52 () Q Q Q Q Q Q Q<|fR Q Q<|jY (p:=(x26,x18)) () [0,1,2,3,4,5,6,7,8,9,10,11,56] hG3 Q) (D4 oI 45 [] h44 () Q Q Q Q Q Q Q Q Q<|have hq22:=rb h42;ro oI 48 43 6 Q Q Q Q hq22 fun u22 h54 hq22 _=>match u22,hq22 with | _,rfl=>have hq23:=rb hA3;wi hq23<|c0 Q (fun h=>jN (h.o 10 Q)) fun u23=>fun hq23=>match u23,hq23 with | _,rfl=>sF Q<|iB oI 49 [] h54 () Q Q Q Q Q Q Q<|fR Q Q<|jY (p:=(x26,x18)) () [0,1,2,3,4,5,6,7,8,9,10,11,52] hG3 Q))) (D4 oI 17 [] h4 () Q Q Q Q Q Q Q Q Q<|have hq24:=rb h2;ro oI 20 15 2 Q Q Q Q hq24 fun u24 h56 hq24 _=>match u24,hq24 with | _,rfl=>wi hG3<|iV [39,40] Q Q (fun hG3=>sF Q<|iB oI 21 [] h56 () Q Q Q Q Q Q Q<|fR Q Q<|jY (p:=(true,x18)) () [0,1,2,3,4,5,6,7,8,9,10,11,24] hG3 Q)<|fun hG3=>D4 oI 21 [] h56 () Q Q Q Q Q Q Q Q Q<|have hq25:=rb h2;wi hq25<|mC oI 24 Q Q Q fun u25 h58 _ h59=>fun hq25=>kC 4 h59 h58 Q Q Q Q Q<|match u25,hq25 with | _,rfl=>D4 oI 25 [] h58 () Q Q Q Q Q Q Q Q Q<|have hq26:=rb h4;wi hq26<|mC oI 28 Q Q Q fun u26 h60 _ h61=>fun hq26=>kC 5 h61 h60 Q Q Q Q Q<|match u26,hq26 with | _,rfl=>bd hG3 fun x27 hA4 hG3=>cQ Q Q (D4 oI 29 [] h60 () Q Q Q Q Q Q Q Q Q<|have hq27:=rb h58;ro oI 32 27 4 Q Q Q Q hq27 fun u27 h66 hq27 _=>match u27,hq27 with | _,rfl=>D4 oI 33 [] h66 () Q Q Q Q Q Q Q Q Q<|have hq28:=rb h60;ro oI 36 31 5 Q Q Q Q hq28 fun u28 h68 hq28 _=>match u28,hq28 with | _,rfl=>have hq29:=rb hA4;wi hq29<|c0 Q (fun h=>C3 (h.o 10 Q)) fun u29=>fun hq29=>match u29,hq29 with | _,rfl=>wi hG3<|iV [51,52,53] Q Q (fun hG3=>sF Q<|iB oI 37 [] h68 () Q Q Q Q Q Q Q<|fR Q Q<|jY (p:=(true,x18)) () [0,1,2,3,4,5,6,7,8,9,10,11,40] hG3 Q)<|fun hG3=>D4 oI 37 [] h68 () Q Q Q Q Q Q Q Q Q<|have hq30:=rb h58;wi hq30<|mC oI 40 Q Q Q fun u30 h70 _ h71=>fun hq30=>kC 6 h71 h70 Q Q Q Q Q<|match u30,hq30 with | _,rfl=>D4 oI 41 [] h70 () Q Q Q Q Q Q Q Q Q<|have hq31:=rb h60;wi hq31<|mC oI 44 Q Q Q fun u31 h72 _ h73=>fun hq31=>kC 7 h73 h72 Q Q Q Q Q<|match u31,hq31 with | _,rfl=>bd hG3 fun x28 hA5 hG3=>cQ Q Q (D4 oI 45 [] h72 () Q Q Q Q Q Q Q Q Q<|have hq32:=rb h70;ro oI 48 43 6 Q Q Q Q hq32 fun u32 h78 hq32 _=>match u32,hq32 with | _,rfl=>D4 oI 49 [] h78 () Q Q Q Q Q Q Q Q Q<|have hq33:=rb h72;ro oI 52 47 7 Q Q Q Q hq33 fun u33 h80 hq33 _=>match u33,hq33 with | _,rfl=>have hq34:=rb hA5;wi hq34<|c0 Q (fun h=>jN (h.o 10 Q)) fun u34=>fun hq34=>match u34,hq34 with | _,rfl=>sF Q<|iB oI 53 [] h80 () Q Q Q Q Q Q Q<|fR Q Q<|jY (p:=(x28,x18)) () [0,1,2,3,4,5,6,7,8,9,10,11,56] hG3 Q) (D4 oI 45 [] h72 () Q Q Q Q Q Q Q Q Q<|have hq35:=rb h70;ro oI 48 43 6 Q Q Q Q hq35 fun u35 h82 hq35 _=>match u35,hq35 with | _,rfl=>have hq36:=rb hA5;wi hq36<|c0 Q (fun h=>jN (h.o 10 Q)) fun u36=>fun hq36=>match u36,hq36 with | _,rfl=>sF Q<|iB oI 49 [] h82 () Q Q Q Q Q Q Q<|fR Q Q<|jY (p:=(x28,x18)) () [0,1,2,3,4,5,6,7,8,9,10,11,52] hG3 Q)) (D4 oI 29 [] h60 () Q Q Q Q Q Q Q Q Q<|have hq37:=rb h58;ro oI 32 27 4 Q Q Q Q hq37 fun u37 h84 hq37 _=>match u37,hq37 with | _,rfl=>have hq38:=rb hA4;wi hq38<|c0 Q (fun h=>C3 (h.o 10 Q)) fun u38=>fun hq38=>match u38,hq38 with | _,rfl=>wi hG3<|iV [51,52,53] Q Q (fun hG3=>sF Q<|iB oI 33 [] h84 () Q Q Q Q Q Q Q<|fR Q Q<|jY (p:=(true,x18)) () [0,1,2,3,4,5,6,7,8,9,10,11,36] hG3 Q)<|fun hG3=>D4 oI 33 [] h84 () Q Q Q Q Q Q Q Q Q<|have hq39:=rb h58;wi hq39<|mC oI 36 Q Q Q fun u39 h86 _ h87=>fun hq39=>kC 6 h87 h86 Q Q Q Q Q<|match u39,hq39 with | _,rfl=>D4 oI 37 [] h86 () Q Q Q Q Q Q Q Q Q<|have hq40:=rb h60;wi hq40<|mC oI 40 Q Q Q fun u40 h88 _ h89=>fun hq40=>kC 7 h89 h88 Q Q Q Q Q<|match u40,hq40 with | _,rfl=>bd hG3 fun x29 hA6 hG3=>cQ Q Q (D4 oI 41 [] h88 () Q Q Q Q Q Q Q Q Q<|have hq41:=rb h86;ro oI 44 39 6 Q Q Q Q hq41 fun u41 h94 hq41 _=>match u41,hq41 with | _,rfl=>D4 oI 45 [] h94 () Q Q Q Q Q Q Q Q Q<|have hq42:=rb h88;ro oI 48 43 7 Q Q Q Q hq42 fun u42 h96 hq42 _=>match u42,hq42 with | _,rfl=>have hq43:=rb hA6;wi hq43<|c0 Q (fun h=>jN (h.o 10 Q)) fun u43=>fun hq43=>match u43,hq43 with | _,rfl=>sF Q<|iB oI 49 [] h96 () Q Q Q Q Q Q Q<|fR Q Q<|jY (p:=(x29,x18)) () [0,1,2,3,4,5,6,7,8,9,10,11,52] hG3 Q) (D4 oI 41 [] h88 () Q Q Q Q Q Q Q Q Q<|have hq44:=rb h86;ro oI 44 39 6 Q Q Q Q hq44 fun u44 h98 hq44 _=>match u44,hq44 with | _,rfl=>have hq45:=rb hA6;wi hq45<|c0 Q (fun h=>jN (h.o 10 Q)) fun u45=>fun hq45=>match u45,hq45 with | _,rfl=>sF Q<|iB oI 45 [] h98 () Q Q Q Q Q Q Q<|fR Q Q<|jY (p:=(x29,x18)) () [0,1,2,3,4,5,6,7,8,9,10,11,48] hG3 Q)))) fun⟨x20,x21⟩ _=>bY [65] Q Q (U0 hr3 hF3<|U0 hr1 hF1<|eJ Q Q)<|QO [0,1,2,3,4,5,6,7,8,9,10,11,12] Q)<|OC [0,1,2,3,4,5,6,7,8,9,10,11,12] Q) fun x19 _=>QO [0,1,2,3,4,5,6,7,8,9,10,11,12] Q)<|OC [0,1,2,3,4,5,6,7,8,9,10,11,12] Q) fun x10 _=>fW 0 2 oL [] 2 [] Q (c0 Q (fun h=>aDD (h.o 10 Q)) fun x12=>iV [68,69] Q Q (c1 Q (fun h=>aF6 (h.o 10 Q)) fun x13 s5=>c0 Q (fun h=>YE (h.o 12 Q) (h.o 13 Q)) fun x14=>iV [74,75,76] Q Q (cY [] Q Q)<|cY [] Q Q)<|cY [] Q Q) fun x11=>eJ Q Q
end
end Go.Proofs.YtejjbceagmbdhaaGreat
end
noncomputable section
namespace Go.Gv
theorem gP{σ ρ:Type}{f:σ->Option (Step σ ρ)}(n:Nat)(S:Nat->σ)(r:ρ)(hs:∀k,k < n->f (S k)=some (.next (S (k+1))))(he:f (S n)=some (.stop r)):loop f (S 0)=some r:=by
  have key:∀d k,k+d=n->loop f (S k)=some r:=by
    intro d
    induction d with
    | zero => intro k hk; obtain rfl : k = n := by omega
              exact bI he
    | succ d ih=>intro k hk;rw [bL (hs k (by omega))];exact ih (k+1) (by omega)
  exact key n 0 (by omega)
theorem aOY{σ ρ:Type}{f:σ->Option (Step σ ρ)}(n:Nat)(S:Nat->σ)(g:Nat->ρ)
  (h:∀k,k<=n->f (S k)=some (.stop (g k))\/(k < n/\f (S k)=some (.next (S (k+1)))/\g k=g (k+1))):∀k,k<=n->loop f (S k)=some (g k):=by
 have key:∀d k,k+d=n->loop f (S k)=some (g k):=by
  intro d
  induction d with
  | zero =>
   intro k hk
   rcases h k (by omega) with h1 | ⟨h1,_⟩
   ·exact bI h1
   ·omega
  | succ d ih =>
   intro k hk
   rcases h k (by omega) with h1 | ⟨_,h2,h3⟩
   ·exact bI h1
   ·rw [bL h2,h3];exact ih (k+1) (by omega)
 intro k hk
 exact key (n - k) k (by omega)
theorem PY{σ ρ:Type}{f:σ->Option (Step σ ρ)}(n:Nat)(S:Nat->σ)(p:Nat->Prop)[DecidablePred p](yes no:ρ)
  (h1:∀k,k < n->p k->f (S k)=some (.next (S (k+1)))) (h2:∀k,k < n->¬p k->f (S k)=some (.stop no)) (h3:f (S n)=some (.stop yes)) :
  loop f (S 0)=some (if ∀k,k < n->p k then yes else no):=by
 classical
 have key:∀d k,k+d=n->loop f (S k)=some (if ∀j,k<=j->j < n->p j then yes else no):=by
  intro d
  induction d with
  | zero =>
   intro k hk;obtain rfl:k=n:=by omega
   rw [bI h3,if_pos (fun j a b=>by omega)]
  | succ d ih =>
   intro k hk
   by_cases hp:p k
   ·rw [bL (h1 k (by omega) hp),ih (k+1) (by omega)]
    by_cases h:∀j,k+1<=j->j < n->p j
    ·rw [if_pos h,if_pos]
     intro j a b
     by_cases e:j=k
     ·subst e;exact hp
     ·exact h j (by omega) b
    ·rw [if_neg h,if_neg]
     exact fun q=>h fun j a b=>q j (by omega) b
   ·rw [bI (h2 k (by omega) hp),if_neg]
    exact fun q=>hp (q k (iC _) (by omega))
 have:=key n 0 (by omega)
 rw [this]
 by_cases h:∀k,k < n->p k
 ·rw [if_pos h,if_pos (fun j _ b=>h j b)]
 ·rw [if_neg h,if_neg (fun q=>h fun k a=>q k (gR _) a)]
theorem FZ{α σ ρ:Type}{f:σ->Option (Step σ ρ)}(l:List α)(S:Nat->σ)(p:α->Prop)[DecidablePred p](yes no:ρ)
  (h1:∀k (h:k < l.length),p l[k]->f (S k)=some (.next (S (k+1)))) (h2:∀k (h:k < l.length),¬p l[k]->f (S k)=some (.stop no)) (h3:f (S l.length)=some (.stop yes)) :
  loop f (S 0)=some (if ∀x∈l,p x then yes else no):=by
 classical
 have:=PY (f:=f) l.length S (fun k=>∀h:k < l.length,p l[k]) yes no (fun k h hp=>h1 k h (hp h)) (fun k h hp=>h2 k h (fun q=>hp fun _=>q)) h3
 rw [this]
 by_cases h:∀x∈l,p x
 ·rw [if_pos h,if_pos (fun k hk _=>h _ (dJ hk))]
 ·rw [if_neg h,if_neg]
  intro q
  refine h fun x hx=>?_
  obtain⟨k,hk,rfl⟩:=WH.1 hx
  exact q k hk hk
theorem aM{x:Int}(h1:-9223372036854775808<=x)(h2:x<=9223372036854775807):aZ x=x:=GB ⟨h1,h2⟩
theorem gC{α:Type}{l:List α}{i:Int}(h0:0<=i)(h1:i < l.length):idx l i=some (l[i.toNat]'(by omega)):=idx_eq h0 h1
theorem wrap_i64{x:Int}(h1:-9223372036854775808<=x)(h2:x<=9223372036854775807):IntKind.i64.wrap x=x:=GB ⟨h1,h2⟩
theorem aIG{x y:Int}(h1:0<=x):x.tdiv y=x / y:=Int.tdiv_eq_ediv_of_nonneg h1
theorem LL{x y:Int}(h1:0<=x):x.tmod y=x % y:=Int.tmod_eq_emod_of_nonneg h1
theorem aNH{x:Int}{k:Nat}(h1:0<=x)(hk:k<=63):mN .i64 x k=x / 2 ^ k:=by
 unfold mN
 have:min ((k:Int).toNat) IntKind.i64.bits=k:=by simp [IntKind.bits];omega
 rw [this,Int.fdiv_eq_ediv_of_nonneg _ (by exact Int.le_of_lt (Int.pow_pos (by omega)))]
end Go.Gv
end
noncomputable section
namespace Go.Gv
noncomputable section
variable {α:Type} {p:α->Bool}
theorem LM{f:Int->Option (Step Int (Out Unit Int))}{s:List α}(hl:s.length<=4611686018427387904)
  (hf:∀k:Nat,f (k:Int)=if h:k < s.length then (if p s[k] then some (.stop (Out.ret (k:Int))) else some (.next ((k+1:Nat):Int))) else some (.stop (Out.brk ()))) :
  ∀d k,k+d=s.length->(∃j,∃h:j < s.length,k<=j/\(∀i (h:i < s.length),k<=i->i < j->p s[i]=false)/\p s[j]=true/\loop f (k:Int)=some (Out.ret (j:Int)))\/((∀i (h:i < s.length),k<=i->p s[i]=false)/\loop f (k:Int)=some (Out.brk ()))
 | 0,k,hk=>.inr ⟨fun i h h2=>by omega,bI (by grind)⟩
 | d + 1, k, hk => by
  have hks:k < s.length:=by omega
  by_cases hp:p s[k]=true
  ·exact .inl ⟨k,hks,iC _,fun i h h1 h2=>by omega,hp,bI (by rw [hf k,dif_pos hks,if_pos hp])⟩
  ·have hp:p s[k]=false:=by simpa using hp
   have hn:f (k:Int)=some (.next ((k+1:Nat):Int)):=by rw [hf k,dif_pos hks,if_neg (by simp [hp])]
   rcases LM hl hf d (k+1) (by omega) with ⟨j,h,h1,h2,h3,h4⟩ | ⟨h1,h2⟩
   ·refine .inl ⟨j,h,by omega,fun i hi a b=>?_,h3,by rw [bL hn];exact h4⟩
    by_cases e:i=k
    ·subst e;exact hp
    ·exact h2 i hi (by omega) b
   ·refine .inr ⟨fun i hi a=>?_,by rw [bL hn];exact h2⟩
    by_cases e:i=k
    ·subst e;exact hp
    ·exact h1 i hi (by omega)
theorem aF7{f:List α×Int×Int->Option (Step (List α×Int×Int) (List α×Int))}{n:Nat}(hl:n<=4611686018427387904)
  (hf:∀(L:List α) (i j:Nat) (h:j < L.length),L.length=n->i<=j->f (L,(i:Int),(j:Int))=if p L[j] then some (.next (L,(i:Int),((j+1:Nat):Int))) else some (.next (L.set i L[j],((i+1:Nat):Int),((j+1:Nat):Int))))
  (he:∀(L:List α) (i j:Nat),j=L.length->f (L,(i:Int),(j:Int))=some (.stop (L,(i:Int)))) :
  ∀d (L:List α) (i j:Nat),j+d=L.length->L.length=n->i<=j->∃(M:List α) (k:Nat),loop f (L,(i:Int),(j:Int))=some (M,(k:Int))/\M.length=n/\k<=n/\M.take k=L.take i++(L.drop j).filter (fun x=>!p x)
 | 0,L,i,j,hj,hn,hi=>⟨L,i,bI (he L i j (by omega)),hn,by omega,by grind⟩
 | d + 1, L, i, j, hj, hn, hi => by
  have hjl:j < L.length:=by omega
  have hd:L.drop j=L[j] :: L.drop (j+1):=HW hjl
  by_cases hp:p L[j]=true
  ·obtain⟨M,k,h1,h2,h3,h4⟩:=aF7 hl hf he d L i (j+1) (by omega) hn (by omega)
   refine⟨M,k,by rw [bL (by rw [hf L i j hjl hn hi,if_pos hp])];exact h1,h2,h3,by grind⟩
  ·have hp:p L[j]=false:=by grind
   obtain⟨M,k,h1,h2,h3,h4⟩:=aF7 hl hf he d (L.set i L[j]) (i+1) (j+1) (by simp;omega) (by grind) (by omega)
   refine⟨M,k,by rw [bL (by rw [hf L i j hjl hn hi,if_neg (by simp [hp])])];exact h1,h2,h3,?_⟩
   rw [h4,hd,List.filter_cons_of_pos (by simp [hp])]
   have e1:(L.set i L[j]).take (i+1)=L.take i ++ [L[j]]:=by
    rw [RC (by simp;omega),List.take_set_of_le (iC _)]
    simp
   grind [List.drop_set_of_lt]
end
theorem aOZ{α:Type}{l xs:List α}{a:Nat}(h:a<=l.length):((cA l a xs).take a).drop 0=l.take a:=by
 grind [cA]
theorem aS5{α:Type}{q:α->Bool}{s:List α}{j:Nat}(h:j < s.length)(h1:∀i (h:i < s.length),i < j->q s[i]=true)(h2:q s[j]=false):s.take j++(s.drop (j+1)).filter q=s.filter q:=by
 have e:s=s.take j++s[j] :: s.drop (j+1):=by simp
 have e3:(s.take j).filter q=s.take j:=by
  grind [List.filter_eq_self,SY]
 grind
theorem aKU{s:List Int}{p:Int->Bool}(hl:s.length<=4611686018427387904) :
  (∃j,∃h:j < s.length,(∀i (h:i < s.length),i < j->p s[i]=false)/\p s[j]=true/\fY s (fun y=>some (p y))=some (j:Int))\/((∀i (h:i < s.length),p s[i]=false)/\fY s (fun y=>some (p y))=some (-1)):=by
 rcases LM (f:=eS s (fun y=>some (p y))) (p:=p) hl (fun k=>by
  simp only [eS]
  by_cases h:k < s.length
  ·rw [dif_pos h,if_pos (by simp;omega),aT h,aH,aH,aM (by omega) (by omega)]
   rfl
  grind) s.length 0 (by omega) with ⟨j,h,_,h2,h3,h4⟩ | ⟨h1,h2⟩
 ·refine .inl ⟨j,h,fun i hi a=>h2 i hi (gR _) a,h3,?_⟩
  unfold fY
  rw [show(0:Int)=((0:Nat):Int) from rfl,h4];rfl
 ·refine .inr ⟨fun i hi=>h1 i hi (gR _),?_⟩
  unfold fY
  rw [show(0:Int)=((0:Nat):Int) from rfl,h2];rfl
theorem aIH(x y:Int):cmp_Less_int x y=some (decide (x < y)):=by
 simp [cmp_Less_int,cmp_isNaN_int,pZ]
theorem aF8{A B:List Int}{x:Int}{k:Int}(h:k=(A.length:Int)):idx (A++x :: B) k=some x:=by
 grind [aT]
theorem aII{data:List Int}(hd:data.length<=4611686018427387904):∀(j:Nat) (A B C:List Int) (x:Int),A.length=j->(A++x :: (B++C)).length=data.length->(A++B).Pairwise (·<=·)->(∀b∈B,x<=b) ->
  ∃M:List Int,loop (cS data 0) (A++x :: (B++C),(j:Int))=some (M++C)/\M.Perm (A++x :: B)/\M.Pairwise (·<=·)
 | 0, A, B, C, x, hj, hn, hs, hx => by
  obtain rfl:A=[]:=kZ hj
  refine⟨x :: B,bI ?_,.refl _,List.pairwise_cons.2 ⟨hx,hs⟩⟩
  simp only [cS,cR]
  rw [aK hn,if_neg (by simp),aK hn,if_neg (by simp)]
  rfl
 | j + 1, A, B, C, x, hj, hn, hs, hx => by
  obtain⟨A,y,rfl⟩:∃A' y,A=A' ++ [y]:=by
   rcases ZF A with h | ⟨A',y,h⟩
   ·rw [h] at hj;cases hj
   ·exact⟨A',y,by rw [h,ZE]⟩
  have hjA:A.length=j:=by grind
  have e0:A ++ [y]++x :: (B++C)=A++y :: (x :: (B++C)):=by simp
  have ew:aZ (((j+1:Nat):Int) - 1)=(j:Int):=by
   grind [aM]
  have i1:idx (A++y :: (x :: (B++C))) ((j+1:Nat):Int)=some x:=by
   grind [aF8]
  have i2:idx (A++y :: (x :: (B++C))) (j:Int)=some y:=aF8 (by omega)
  rw [e0] at hn ⊢
  have hyB:∀b∈B,y<=b:=fun b hb=>(List.pairwise_append.1 hs).2.2 y (by simp) b hb
  by_cases hlt:x < y
  ·have st:cS data 0 (A++y :: (x :: (B++C)),((j+1:Nat):Int))=some (.next (A++x :: ((y :: B)++C),(j:Int))):=by
    simp_all [cS,aK,aIH,cR,gW,aF8]
   obtain⟨M,h1,h2,h3⟩:=aII hd j A (y :: B) C x hjA (by grind) (by grind) (fun b hb=>by
    grind)
   refine⟨M,by grind [bL],h2.trans ?_,h3⟩
   grind
  ·refine⟨A ++ [y]++x :: B,bI ?_,.refl _,?_⟩
   ·simp_all [cS,aK,aIH,cR,if_neg]
   grind
theorem aD8{data:List Int}(hd:data.length<=4611686018427387904):∀d (S R:List Int),R.length=d->S≠[]->(S++R).length=data.length->S.Pairwise (·<=·) ->
  ∃M:List Int,loop (cC data 0 (data.length:Int)) (S++R,(S.length:Int))=some M/\M.Perm (S++R)/\M.Pairwise (·<=·)
 | 0, S, R, hR, h0, hn, hs => by
  simp_all [bI,cC,aK]
 | d+1,S,[],hR,h0,hn,hs=>by cases hR
 | d + 1, S, x :: R, hR, h0, hn, hs => by
  obtain⟨M,h1,h2,h3⟩:=aII hd S.length S [] R x rfl (by grind) (by grind) (fun b hb=>by cases hb)
  have hl:=h2.length_eq
  simp at hl
  have hn':=hn
  simp at hn'
  have st:cC data 0 (data.length:Int) (S++x :: R,(S.length:Int))=some (.next (M++R,((S.length+1:Nat):Int))):=by
   simp only [cC]
   rw [aK hn,if_pos (by simp;omega)]
   grind [lQ,lP,aK,aM]
  obtain⟨N,g1,g2,g3⟩:=aD8 hd d M R (by grind) (by grind) (by simp;omega) h3
  refine⟨N,by grind [bL],g2.trans ?_,g3⟩
  grind
theorem aS6{x:List Int}(h:x.length<=12)(hb:∃n,vO (IntKind.u64.wrap (x.length:Int))=some n):∃y:List Int,wT x=some y/\y.Perm x/\y.Pairwise (·<=·):=by
 have key:∃y:List Int,fT x 0 (x.length:Int)=some y/\y.Perm x/\y.Pairwise (·<=·):=by
  unfold fT
  rw [aM (by omega) (by omega)]
  cases x with
  | nil =>
   simp [bI,cC,aK,gX,gU]
  | cons a r =>
   obtain⟨M,h1,h2,h3⟩:=aD8 (data:=a :: r) (by omega) r.length [a] r rfl (by simp) (by simp) (List.pairwise_singleton _ _)
   refine⟨M,?_,by grind,h3⟩
   have h1':loop (cC (a :: r) 0 ((a :: r).length:Int)) (a :: r,(0:Int)+1)=some M:=h1
   rw [h1',aH]
   simp only [gX,gU]
   have h4:=h2.length_eq
   grind [aK]
 obtain⟨y,h1,h2,h3⟩:=key
 obtain⟨n,hn⟩:=hb
 refine⟨y,?_,h2,h3⟩
 unfold wT mA
 rw [hn,aH,bI (r:=y) (by
  simp only [p5]
  rw [aM (by omega) (by omega),if_pos (by simp;omega),h1];rfl),aH]
 rfl
def aY7(n:Nat):Bool:=(vO (IntKind.u64.wrap (n:Int))).isSome
theorem aS7:(List.range 13).all aY7=true:=by kernel_rfl
theorem aKV(n:Nat)(h:n<=12):∃m,vO (IntKind.u64.wrap (n:Int))=some m:=
 ZK.1 (SU.1 aS7 n (List.mem_range.2 (by omega)))
theorem aIJ{l:List Int}(h:l.Pairwise (·<=·)):(tH l).Pairwise (· < ·)/\∀a,a∈tH l↔a∈l:=by
 obtain⟨n,hn⟩:∃n,l.length=n:=⟨_,rfl⟩
 revert l
 induction n with
 | zero=>intro l h hn;obtain rfl:l=[]:=kZ hn;exact⟨.nil,fun a=>Iff.rfl⟩
 | succ n ih=>
 intro l h hn
 obtain⟨l,x,rfl⟩:∃L z,l=L ++ [z]:=by
  rcases ZF l with h0 | ⟨L,z,h0⟩
  ·rw [h0] at hn;cases hn
  ·exact⟨L,z,by rw [h0,ZE]⟩
 rw [List.pairwise_append] at h
 obtain⟨i1,i2⟩:=ih h.1 (by grind)
 rw [VC]
 split
 ·grind
 ·rename_i hx
  refine⟨List.pairwise_append.2 ⟨i1,List.pairwise_singleton _ _,fun a ha b hb=>?_⟩,fun a=>by grind⟩
  simp at hb;subst hb
  have hle:a<=b:=h.2.2 a ((i2 a).1 ha) b (by simp)
  by_cases e:a=b
  ·subst e
   exfalso
   obtain⟨L,z,hz⟩:∃L z,tH l=L ++ [z]:=by
    rcases ZF (tH l) with h0 | ⟨L,z,h0⟩
    ·rw [h0] at ha;cases ha
    ·exact⟨L,z,by rw [h0,ZE]⟩
   rw [hz] at ha hx i1
   have hz':z<=a:=h.2.2 z ((i2 z).1 (by grind)) a (by simp)
   rcases eX.1 ha with ha' | ha'
   ·have:=(List.pairwise_append.1 i1).2.2 a ha' z (by simp);omega
   grind
  ·omega
end Go.Gv
end
noncomputable section
namespace Go.Gv
theorem dY(n a b:Int):bQ n a b=some (decide (a<=n/\n<=b)):=by
 grind [bQ,nV]
theorem eI(n a b:Int):cG n a b=some (decide (a<=n/\n<=b)):=by
 grind [cG,E3]
end Go.Gv
end
noncomputable section
namespace Go.Gv
def lW(c:Int):Int:=if c=0 then 8 else if c=1 then 16 else if c=2 then 40 else 0
def bD(c:Int):Int:=if c=0 then 12 else if c=1 then 20 else if c=2 then 44 else 0
def cV(c:Int):Int:=if c=0 then 4 else if c=1 then 2 else if c=2 then 1 else 0
theorem uF{c:Int}(h:0<=c/\c<=2):c=0\/c=1\/c=2:=by omega
theorem aS8{c:Int}(h:¬(0<=c/\c<=2)):lW c=0:=by unfold lW;omega
theorem aA9{c:Int}(h:¬(0<=c/\c<=2)):bD c=0:=by unfold bD;omega
theorem aF9{c:Int}(h:¬(0<=c/\c<=2)):cV c=0:=by unfold cV;omega
theorem nP(c:Int):0<=cV c/\cV c<=4:=by grind [cV]
theorem aKW(c:Int):0<=bD c/\bD c<=44:=by grind [bD]
theorem sV{c:Int}:0 < cV c↔0<=c/\c<=2:=by
 grind [cV]
theorem PZ(c:Int):IU c=some (lW c):=by
 grind [IU,lW]
theorem iS(c:Int):jI c=some (decide (0<=c/\c<=2)):=by simp [jI,dY]
theorem P0(c:Int):yV c=some (lW c):=by
 unfold yV
 rw [iS]
 by_cases h:0<=c/\c<=2
 ·rcases uF h with rfl | rfl | rfl <;> rfl
 grind [aS8]
theorem VZ(c:Int):CT c=some (bD c):=by
 unfold CT
 rw [eI]
 by_cases h:0<=c/\c<=2
 ·rcases uF h with rfl | rfl | rfl <;> rfl
 grind [aA9]
theorem LN(c:Int):qK c=some (bD c):=by
 unfold qK
 rw [iS]
 by_cases h:0<=c/\c<=2
 ·rcases uF h with rfl | rfl | rfl <;> rfl
 grind [aA9]
theorem mK(c:Int):tU c=some (cV c):=by
 unfold tU
 rw [eI]
 by_cases h:0<=c/\c<=2
 ·rcases uF h with rfl | rfl | rfl <;> rfl
 grind [aF9]
theorem xI(c:Int):mQ c=some (cV c):=by
 unfold mQ
 rw [iS]
 by_cases h:0<=c/\c<=2
 ·rcases uF h with rfl | rfl | rfl <;> rfl
 grind [aF9]
theorem P1(s:Int):DL s=some (if 0<=s/\s<=23 then s / 4 else -1):=by
 grind [DL,eI,aM]
theorem N5(s:Int):AT s=some (if 0<=s/\s<=23 then s % 4 else -1):=by
 grind [AT,eI]
def iO(s c:Int):Int:=if (0<=s/\s<=23)/\s % 4 < cV c then s / 4 * 64+8+s % 4 * bD c else -1
theorem MY{i c:Int}(h0:0<=i)(h1:i < cV c):0<=i * bD c/\i * bD c+bD c<=56:=by
 unfold cV at h1;unfold bD
 grind
theorem wC(s c:Int):B4 s c=some (iO s c):=by
 unfold B4 JT iO
 rw [P1,N5,mK,VZ]
 by_cases h:0<=s/\s<=23
 ·have hp:=nP c
  have h1:¬s / 4 < 0:=by omega
  have h2:aZ (cV c - 1)=cV c - 1:=aM (by omega) (by omega)
  by_cases h3:s % 4 < cV c
  ·have hm:=MY (by omega) h3
   have hs:=aKW c
   have h4:0<=s % 4/\s % 4<=cV c - 1:=by omega
   have h5:¬cV c - 1 < s % 4:=by omega
   have e1:aZ (s / 4 * 64)=s / 4 * 64:=aM (by omega) (by omega)
   have e2:aZ (s / 4 * 64+8)=s / 4 * 64+8:=aM (by omega) (by omega)
   have e3:aZ (s % 4 * bD c)=s % 4 * bD c:=aM (by omega) (by omega)
   have e4:aZ (s / 4 * 64+8+s % 4 * bD c)=s / 4 * 64+8+s % 4 * bD c:=aM (by omega) (by omega)
   simp [h,h1,h2,h3,h4,h5,eI,e1,e2,e3,e4]
  grind [eI]
 ·simp [h]
theorem sW(s:Int):k9 s=some (decide (0<=s/\s<=23)):=by simp [k9,dY]
theorem wD(s c:Int):rW s c=some (iO s c):=by
 unfold rW vJ iO
 rw [sW,iS,xI,LN]
 by_cases h:0<=s/\s<=23
 ·have hp:=nP c
  rw [LL h.1,aIG h.1]
  grind [cV,aM,bD]
 ·simp [h]
end Go.Gv
end
noncomputable section
namespace Go.Gv
def ldF(l:List Int):Int:=l.foldl (fun n x=>n * 256+x) 0
def oZ(l:List Int):Prop:=∀x∈l,0<=x/\x<=255
instance (l:List Int):Decidable (oZ l):=by unfold oZ;infer_instance
theorem aBA{l:List Int}{k:Nat}(h:k < l.length):ldF (l.take (k+1))=ldF (l.take k) * 256+l[k]:=by
 grind [ldF,RC]
theorem aD9{l:List Int}(h:oZ l):∀k,k<=l.length->0<=ldF (l.take k)/\ldF (l.take k) < 256 ^ k:=by
 intro k
 induction k with
 | zero=>grind [ldF]
 | succ k ih =>
  intro hk
  have h1:=ih (by omega)
  have h2:=h _ (dJ (show k < l.length by omega))
  grind [aBA]
theorem aY8{k:Nat}(h:k<=6):(256:Int) ^ k<=281474976710656:=by
 have h1:(256:Nat) ^ k<=256 ^ 6:=Nat.pow_le_pow_right (by omega) h
 grind
def ld(b:List Int)(at_ w:Nat):Int:=ldF ((b.drop at_).take w)
theorem aNI{n x:Int}{k:Nat}(hk:k<=6)(h:0<=n/\n < 256 ^ k)(hx:0<=x/\x<=255):aZ (aZ (n * 256)+x)=n * 256+x/\aZ (aZ (256 * n)+x)=n * 256+x:=by
 have:=aY8 hk
 grind [aM]
theorem aKX{b:List Int}{a w:Nat}(h:a+w<=b.length):((b.drop a).take w).length=w:=by simp;omega
theorem aKY{b:List Int}{a w k:Nat}(h:k < ((b.drop a).take w).length)(h':a+k < b.length):((b.drop a).take w)[k]=b[a+k]:=by simp
theorem aGA{b:List Int}(hb:oZ b)(a w:Nat):oZ ((b.drop a).take w):=fun x hx=>hb x (ZH (List.mem_of_mem_take hx))
theorem aBB{b:List Int}(hb:oZ b){a w:Nat}(hw:w<=7)(h:a+w<=b.length)(hl:b.length<=100000):PB b (a:Int) (w:Int)=some (ld b a w):=by
 unfold PB
 have hlen:=aKX h
 have hbb:=aGA hb a w
 have key:loop (sH b (a:Int) (w:Int)) (0,0)=some (ld b a w):=by
  refine gP (f:=sH b (a:Int) (w:Int)) w (fun k=>(ldF (((b.drop a).take w).take k),(k:Int))) _ (fun k hk=>?_) ?_
  ·have hb1:=aD9 hbb k (by omega)
   have hk':k < ((b.drop a).take w).length:=by omega
   have hx:=hbb _ (dJ hk')
   have hs:=aNI (by omega) hb1 hx
   rw [aKY hk' (by omega)] at hs
   have e1:aZ ((a:Int)+k)=((a+k:Nat):Int):=by grind [aM]
   simp only [sH]
   rw [if_pos (by simp;omega),e1,aT (by omega)]
   simp only [aH,hs.1,aBA hk',aKY hk' (show a+k < b.length by omega)]
   grind [aM]
  grind [sH,ld]
 rw [key];rfl
theorem qE{b:List Int}(hb:oZ b){a w:Nat}(hw:w<=7)(h:a+w<=b.length)(hl:b.length<=100000):mR b (a:Int) (w:Int)=some (ld b a w):=by
 unfold mR
 have hlen:=aKX h
 have hbb:=aGA hb a w
 have e0:aZ ((a:Int)+w)=((a+w:Nat):Int):=by grind [aM]
 have e2:(b.take (a+w)).drop a=(b.drop a).take w:=by grind
 rw [aK (by omega)]
 have key:loop (pX b (a:Int) (w:Int)) (0,0)=some (ld b a w):=by
  refine gP (f:=pX b (a:Int) (w:Int)) w (fun k=>(ldF (((b.drop a).take w).take k),(k:Int))) _ (fun k hk=>?_) ?_
  ·have hb1:=aD9 hbb k (by omega)
   have hk':k < ((b.drop a).take w).length:=by omega
   have hx:=hbb _ (dJ hk')
   have hs:=aNI (by omega) hb1 hx
   simp only [pX,e0,I6,e2]
   rw [if_pos (by simp;omega),aT hk']
   simp only [aH,hs.2,aBA hk']
   rw [aM (x:=(k:Int)+1) (by omega) (by omega)];rfl
  ·have:((b.drop a).take w).take w=(b.drop a).take w:=by grind
   simp only [pX,e0,I6,e2,this,ld]
   grind
 rw [key];rfl
theorem MZ{l:List Int}(hl:l.length<=maxLen)(f:Int->Bool):dA l (fun x=>some (f x))=some (l.any f):=by
 unfold dA fY
 have key:∀k:Nat,k<=l.length->loop (eS l (fun x=>some (f x))) (k:Int)=some (if (l.drop k).any f then Out.ret ((k+(l.drop k).findIdx f:Nat):Int) else Out.brk ()):=by
  refine aE6 l.length _ fun k hk=>?_
  by_cases h3:k < l.length
  ·have hd:l.drop k=l[k] :: l.drop (k+1):=HW h3
   simp only [eS]
   rw [if_pos (by simp;omega),aT h3,o4 (OW h3 hl),hd]
   grind
  grind [eS]
 have t0:loop (eS l (fun x=>some (f x))) 0=_:=key 0 (by omega)
 rw [t0]
 simp only [NA]
 by_cases h:l.any f=true
 ·simp [h,nZ]
 grind [nZ,yW]
def BOk(b:List Int):Prop:=b.length<=1000/\oZ b
instance (b:List Int):Decidable (BOk b):=by unfold BOk;infer_instance
theorem aGB{α:Type}{p:α->Prop}[DecidablePred p](l:List α):(l.any fun x=>!decide (p x))=!decide (∀x∈l,p x):=by
 grind
theorem YG{b:List Int}(hl:b.length<=maxLen):FE b=some (decide (BOk b)):=by
 unfold FE wM
 have e:(fun y0=>zZ y0)=fun y:Int=>some (!decide (0<=y/\y<=255)):=by
  grind [zZ,O7,dY]
 rw [e,MZ hl,aGB]
 by_cases h:b.length<=1000
 ·have:BOk b↔∀x∈b,0<=x/\x<=255:=⟨fun q=>q.2,fun q=>⟨h,q⟩⟩
  grind
 grind [BOk]
def fN(h:Heap):Prop:=h.Bytes.length=384/\h.Class.length=6/\oZ h.Bytes/\∀c∈h.Class,-1<=c/\c<=2
instance (h:Heap):Decidable (fN h):=by unfold fN;infer_instance
theorem HA{h:Heap}(hl:h.Bytes.length<=maxLen):DD h=some (decide (fN h)):=by
 unfold DD oA
 by_cases h1:h.Bytes.length=384
 ·have n1:((h.Bytes.length:Int) == 384)=true:=by simp;omega
  rw [YG hl]
  by_cases h3:oZ h.Bytes
  ·have b1:BOk h.Bytes:=⟨by omega,h3⟩
   by_cases h2:h.Class.length=6
   ·have n2:((h.Class.length:Int) == 6)=true:=by simp;omega
    have e:(fun y0=>CL y0)=fun y:Int=>some (!decide (-1<=y/\y<=2)):=by
     grind [CL,dY]
    rw [e,MZ (by omega),aGB]
    grind [fN]
   grind [fN]
  grind [BOk,fN]
 grind [fN]
end Go.Gv
end
noncomputable section
namespace Go.Gv
def jG(h:Heap)(p:Nat):List Int:=(h.Bytes.drop (p * 64)).take 64
def cK(h:Heap)(p:Nat):Int:=h.Class.getD p 0
def A8(h:Heap)(p:Nat):Prop:=
 if cK h p < 0 then ∀x∈jG h p,x=0
 else ((jG h p).getD 0 0=171/\(jG h p).getD 1 0=cK h p/\(jG h p).getD 2 0=cV (cK h p))/\(∀x∈((jG h p).drop 3).take 5,x=0)/\∀i,i < (cV (cK h p)).toNat->1<=ld h.Bytes (p * 64+8+i * (bD (cK h p)).toNat) 4/\ld h.Bytes (p * 64+8+i * (bD (cK h p)).toNat) 4<=7
instance (h:Heap) (p:Nat):Decidable (A8 h p):=by unfold A8;infer_instance
noncomputable section
variable {h:Heap} (hs:fN h) {p:Nat} (hp:p < 6)
include hs hp
theorem P2:(jG h p).length=64:=aKX (by have:=hs.1;omega)
theorem aS9{k:Nat}(hk:k < 64):h.Bytes[p * 64+k]'(by have:=hs.1;omega)=(jG h p)[k]'(by grind [P2]):=(aKY (show k < ((h.Bytes.drop (p * 64)).take 64).length by have:=P2 hs hp;grind [jG]) _).symm
theorem aO0{k:Nat}(hk:k < 64):h.Bytes[p * 64+k]'(by have:=hs.1;omega)=(jG h p).getD k 0:=by
 grind [aS9]
theorem QQ:h.Class[p]'(by have:=hs.2.1;omega)=cK h p:=by
 grind [cK]
theorem aGC:idx h.Class (p:Int)=some (cK h p):=by rw [aT (by have:=hs.2.1;omega),QQ hs hp]
theorem aO1:oZ (jG h p):=aGA hs.2.2.1 _ _
theorem y7{c:Int}(hc:cK h p=c){i:Nat}(hi:i < (cV c).toNat):(8+i * (bD c).toNat)+4<=64/\0<=(i:Int) * bD c/\((8+i * (bD c).toNat:Nat):Int)=8+(i:Int) * bD c:=by
 grind [cV,bD]
end
end Go.Gv
end
noncomputable section
namespace Go.Gv
theorem P3{l:List Int}(hl:l.length<=maxLen):DE l=some (decide (∀x∈l,x=0)):=by
 unfold DE
 have e:(fun y0=>CM y0)=fun y:Int=>some (!decide (y=0)):=by
  grind [CM]
 simp_all [MZ,aGB]
noncomputable section
variable {h:Heap} (hs:fN h) {p:Nat} (hp:p < 6)
include hs hp
theorem aXH:(h.Bytes.take ((p+1) * 64)).drop (p * 64)=jG h p:=by
 grind [jG,List.drop_take]
theorem aV6{a:Nat}(ha:a+4<=64):ld (jG h p) a 4=ld h.Bytes (p * 64+a) 4:=by
 grind [ld,jG,List.drop_take,aDN]
theorem aKZ{k:Nat}(hk:k < 64):idx (jG h p) (k:Int)=some ((jG h p).getD k 0):=by
 grind [P2,aT]
theorem P4:IM h (p:Int)=some (decide (A8 h p)):=by
 have hb:=hs.1
 have hl:=P2 hs hp
 have hm:(jG h p).length<=maxLen:=by grind [maxLen]
 have e0:aZ ((p:Int) * 64)=((p * 64:Nat):Int):=by grind [aM]
 have e1:aZ (aZ ((p:Int)+1) * 64)=(((p+1) * 64:Nat):Int):=by grind [aM]
 have i0:=aKZ hs hp (show 0 < 64 by omega)
 have i1:=aKZ hs hp (show 1 < 64 by omega)
 have i2:=aKZ hs hp (show 2 < 64 by omega)
 rw [show((0:Nat):Int)=0 from rfl] at i0
 rw [show((1:Nat):Int)=1 from rfl] at i1
 rw [show((2:Nat):Int)=2 from rfl] at i2
 unfold IM
 rw [aGC hs hp]
 simp only [aH,e0,e1,I6,aXH hs hp]
 rw [aK (by omega)]
 by_cases hc:cK h p < 0
 ·simp_all [A8,P3]
 ·have hP:A8 h p↔((jG h p).getD 0 0=171/\(jG h p).getD 1 0=cK h p/\(jG h p).getD 2 0=cV (cK h p))/\(∀x∈((jG h p).drop 3).take 5,x=0)/\∀i,i < (cV (cK h p)).toNat->1<=ld h.Bytes (p * 64+8+i * (bD (cK h p)).toNat) 4/\ld h.Bytes (p * 64+8+i * (bD (cK h p)).toNat) 4<=7:=by simp_all [A8,if_neg]
  simp only [hc,decide_false,bG,if_false,i0,i1,i2,aH,xI]
  by_cases a0:(jG h p).getD 0 0=171
  ·by_cases a1:(jG h p).getD 1 0=cK h p
   ·by_cases a2:(jG h p).getD 2 0=cV (cK h p)
    ·have n0:((jG h p).getD 0 0 != 171)=false:=by grind
     have n1:((jG h p).getD 1 0 != cK h p)=false:=by grind
     have n2:((jG h p).getD 2 0 != cV (cK h p))=false:=by grind
     have t8:((jG h p).take (8:Int).toNat).drop (3:Int).toNat=((jG h p).drop 3).take 5:=by
      grind [List.drop_take]
     simp only [n0,n1,n2,bG,if_false,iJ,t8]
     rw [aK (by omega),P3 (by grind)]
     by_cases h4:∀x∈((jG h p).drop 3).take 5,x=0
     ·simp only [cT h4,aH,jH,bG,if_false,xI]
      have key2:loop (oB h (p:Int) (cK h p) (cV (cK h p))) 0=some (if ∀i,i < (cV (cK h p)).toNat->1<=ld h.Bytes (p * 64+8+i * (bD (cK h p)).toNat) 4/\ld h.Bytes (p * 64+8+i * (bD (cK h p)).toNat) 4<=7 then Out.brk () else Out.ret false):=by
       have hle:=nP (cK h p)
       have hst:∀k:Nat,k < (cV (cK h p)).toNat->oB h (p:Int) (cK h p) (cV (cK h p)) (k:Int)=if 1<=ld h.Bytes (p * 64+8+k * (bD (cK h p)).toNat) 4/\ld h.Bytes (p * 64+8+k * (bD (cK h p)).toNat) 4<=7 then some (.next ((k+1:Nat):Int)) else some (.stop (Out.ret false)):=by
        intro k hk
        have hz:=y7 hs hp rfl hk
        have e5:aZ (8+aZ ((k:Int) * bD (cK h p)))=((8+k * (bD (cK h p)).toNat:Nat):Int):=by
         grind [aM]
        have l1:=qE (aO1 hs hp) (a:=8+k * (bD (cK h p)).toNat) (w:=4) (by omega) (by omega) (by omega)
        rw [show((4:Nat):Int)=4 from rfl,aV6 hs hp (by omega)] at l1
        simp only [oB,LN,aH,e0,e1,I6,aXH hs hp,e5]
        rw [if_pos (by simp;omega),l1,ET,aM (x:=(k:Int)+1) (by omega) (by omega)]
        simp only [aH,dY]
        grind
       refine PY (f:=oB h (p:Int) (cK h p) (cV (cK h p))) (cV (cK h p)).toNat (fun k=>(k:Int)) (fun i=>1<=ld h.Bytes (p * 64+8+i * (bD (cK h p)).toNat) 4/\ld h.Bytes (p * 64+8+i * (bD (cK h p)).toNat) 4<=7) _ _ (fun k hk hx=>?_) (fun k hk hx=>?_) ?_
       ·grind
       ·simp_all
       ·simp only [oB]
        rw [if_neg (by simp;omega)]
      rw [key2]
      by_cases h5:∀i,i < (cV (cK h p)).toNat->1<=ld h.Bytes (p * 64+8+i * (bD (cK h p)).toNat) 4/\ld h.Bytes (p * 64+8+i * (bD (cK h p)).toNat) 4<=7
      ·rw [if_pos h5,cT (hP.2 ⟨⟨a0,a1,a2⟩,h4,h5⟩)];rfl
      ·rw [if_neg h5,fC (fun q=>h5 (hP.1 q).2.2)];rfl
     grind
    ·have n0:((jG h p).getD 0 0 != 171)=false:=by grind
     have n1:((jG h p).getD 1 0 != cK h p)=false:=by grind
     have n2:((jG h p).getD 2 0 != cV (cK h p))=true:=by grind
     simp_all [iJ]
   simp_all [iJ]
  simp_all [iJ]
end
instance (h:Heap):Decidable (∀p,p < 6->A8 h p):=Nat.decidableBallLT 6 fun p _=>A8 h p
def V1(h:Heap):Prop:=fN h/\∀p,p < 6->A8 h p
instance (h:Heap):Decidable (V1 h):=by unfold V1;infer_instance
theorem HB{h:Heap}(hl:h.Bytes.length<=maxLen):DF h=some (decide (V1 h)):=by
 unfold DF
 rw [HA hl]
 by_cases hs:fN h
 ·have key:loop (rX h) 0=some (if ∀p,p < 6->A8 h p then Out.brk () else Out.ret false):=by
   refine PY (f:=rX h) 6 (fun k=>(k:Int)) (fun p=>A8 h p) _ _ (fun k hk hx=>?_) (fun k hk hx=>?_) ?_
   ·simp only [rX]
    rw [if_pos (by simp;omega),P4 hs hk,aM (by omega) (by omega),cT hx];rfl
   ·simp only [rX]
    rw [if_pos (by simp;omega),P4 hs hk,fC hx];rfl
   ·rfl
  simp only [aH,cT hs,jH,bG,if_false]
  rw [key]
  by_cases h4:∀p,p < 6->A8 h p
  ·rw [if_pos h4,cT (show V1 h from ⟨hs,h4⟩)];rfl
  ·rw [if_neg h4,fC (fun q:V1 h=>h4 q.2)];rfl
 grind [V1]
def bS(h:Heap)(s:Int):Int:=if (0<=s/\s<=23)/\s % 4 < cV (cK h (s / 4).toNat) then cK h (s / 4).toNat else -1
theorem I2{h:Heap}{s:Int}(hc:0<=bS h s):(0<=s/\s<=23)/\s % 4 < cV (cK h (s / 4).toNat)/\bS h s=cK h (s / 4).toNat:=by
 unfold bS at hc ⊢
 omega
theorem xJ{h:Heap}(hs:fN h)(s:Int):AU h s=some (bS h s):=by
 unfold AU xB bS
 rw [P1,N5]
 by_cases h1:0<=s/\s<=23
 ·obtain⟨k,rfl⟩:=aUH h1.1
  have hk:k / 4 < 6:=by omega
  have e1:((k:Int) / 4)=((k / 4:Nat):Int):=by omega
  have hi:=aGC hs hk
  have n1:¬((k / 4:Nat):Int) < 0:=by omega
  simp only [h1,and_self,if_true,aH,e1,n1,decide_false,bG,if_false,hi,I6,true_and]
  grind [aF9,mK]
 ·simp [h1]
theorem iT{h:Heap}(hs:fN h)(s:Int):jK h s=some (bS h s):=by
 unfold jK wN bS
 rw [sW]
 by_cases h1:0<=s/\s<=23
 ·obtain⟨k,rfl⟩:=aUH h1.1
  have hk:k / 4 < 6:=by omega
  have e1:((k:Int) / 4)=((k / 4:Nat):Int):=by omega
  have hi:=aGC hs hk
  have e2:aZ (Int.tdiv (k:Int) 4)=((k / 4:Nat):Int):=by grind [aM]
  simp only [h1,and_self,decide_true,jH,bG,if_true,aH,e1,e2,if_false,hi,I6,true_and,wD]
  by_cases h3:(k:Int) % 4 < cV (cK h (k / 4))
  ·have hm:=MY (c:=cK h (k / 4)) (by omega) h3
   have hg:¬iO (k:Int) (cK h (k / 4)) < 0:=by
    unfold iO;omega
   grind
  simp_all [iO,if_neg]
 ·simp [h1]
def nD(h:Heap)(s:Int):Int:=ld h.Bytes (iO s (bS h s)).toNat 4
theorem QT{h:Heap}{s:Int}(hc:0<=bS h s):0<=iO s (bS h s)/\iO s (bS h s)+4<=384:=by
 obtain⟨h1,h2,h3⟩:=I2 hc
 rw [h3]
 have hm:=MY (c:=cK h (s / 4).toNat) (by omega) h2
 have hst:0 < bD (cK h (s / 4).toNat):=by
  have:0<=cK h (s / 4).toNat/\cK h (s / 4).toNat<=2:=sV.1 (by omega)
  rcases uF this with e | e | e <;> rw [e] <;> decide
 have:4<=bD (cK h (s / 4).toNat):=by
  have:0<=cK h (s / 4).toNat/\cK h (s / 4).toNat<=2:=sV.1 (by omega)
  rcases uF this with e | e | e <;> rw [e] <;> decide
 unfold iO;omega
theorem qQ{h:Heap}(hs:fN h){s:Int}(hc:0<=bS h s):B5 h s=some (nD h s):=by
 have hg:=QT hc
 unfold B5
 rw [xJ hs]
 simp only [aH,wC]
 have l1:=aBB hs.2.2.1 (a:=(iO s (bS h s)).toNat) (w:=4) (by omega) (by have:=hs.1;omega) (by have:=hs.1;omega)
 rw [show((4:Nat):Int)=4 from rfl,Int.toNat_of_nonneg hg.1] at l1
 rw [l1];rfl
theorem C4{h:Heap}(hs:fN h){s:Int}(hc:0<=bS h s):xT h s=some (nD h s):=by
 have hg:=QT hc
 have hm:h.Bytes.length<=maxLen:=by rw [hs.1];simp [maxLen]
 unfold xT z6
 rw [HA hm,iT hs]
 have l1:=qE hs.2.2.1 (a:=(iO s (bS h s)).toNat) (w:=4) (by omega) (by have:=hs.1;omega) (by have:=hs.1;omega)
 grind [wD,nD]
end Go.Gv
end
noncomputable section
namespace Go.Gv
def eD(l:List aO):List Int:=l.flatMap aO.aQ
def lX(l:aA):List Int:=eD l.Global++eD l.Own
def LOk(l:aA):Prop:=l.Global.length=3/\l.Own.length=9/\(∀s∈l.Own,s.aQ.length<=2)/\(∀x∈lX l,0<=x/\x<=23)/\(lX l).Nodup
instance (l:aA):Decidable (LOk l):=by unfold LOk;infer_instance
theorem LO{l:List aO}{k:Nat}(h:k < l.length):eD (l.take (k+1))=eD (l.take k)++l[k].aQ:=by
 grind [eD,RC]
theorem aGD(l:List aO)(k:Nat):(eD (l.take k)).length<=(eD l).length:=by
 grind [eD,RB]
theorem aBC(l:List aO){k:Nat}(h:k < l.length):l[k].aQ.length<=(eD l).length:=by
 have h1:=aGD l (k+1)
 grind [LO]
theorem aDE{l:aA}(h:(lX l).length<=1073741824)(hg:l.Global.length<=maxLen)(ho:l.Own.length<=maxLen):SB l=some (lX l):=by
 have hsum:(eD l.Global).length+(eD l.Own).length<=1073741824:=by grind [lX]
 unfold SB
 have k1:loop (vT l) ([],0)=some (eD l.Global):=by
  refine gP (f:=vT l) l.Global.length (fun k=>(eD (l.Global.take k),(k:Int))) _ (fun k hk=>?_) ?_
  ·have h1:=aGD l.Global (k+1)
   rw [LO hk] at h1
   simp only [vT]
   rw [if_pos (by simp;omega),aT hk]
   grind [aK,LO,o4]
  grind [vT]
 rw [k1]
 simp only [aH,RJ,RI]
 have k2:loop (vS l) (eD l.Global,0)=some (lX l):=by
  have:=gP (f:=vS l) l.Own.length (fun k=>(eD l.Global++eD (l.Own.take k),(k:Int))) (lX l) (fun k hk=>?_) ?_
  ·grind [eD]
  ·have h1:=aGD l.Own (k+1)
   rw [LO hk] at h1
   simp only [vS]
   rw [if_pos (by simp;omega),aT hk]
   grind [aK,LO,o4]
  grind [vS,lX]
 rw [k2];rfl
theorem RS{l:List Int}(hl:l.length<=maxLen)(x:Int):GQ l x=some (decide (x∈l)):=by
 unfold GQ
 have key:loop (qO l x) 0=some (if ∀y∈l,y≠x then Out.brk () else Out.ret true):=by
  refine FZ (f:=qO l x) l (fun k=>(k:Int)) (fun y=>y≠x) _ _ (fun k h hp=>?_) (fun k h hp=>?_) ?_
  ·simp only [qO]
   rw [if_pos (by simp;omega),aT h,o4 (OW h hl)]
   have:(l[k] == x)=false:=by simpa using hp
   simp only [aH,this,bG,if_false]
  ·simp only [qO]
   rw [if_pos (by simp;omega),aT h]
   have:(l[k] == x)=true:=by simpa using hp
   simp only [aH,this,if_true]
  ·simp [qO]
 rw [key]
 by_cases h:x∈l
 ·rw [if_neg (fun q=>q x h rfl),cT h];rfl
 ·rw [if_pos (fun y hy (e:y=x)=>h (e ▸ hy)),fC h];rfl
def wE:List Bool->List Int->Option (List Bool)
 | met,[]=>some met
 | met,x :: r=>if (0<=x/\x<=23)/\met.getD x.toNat true=false then wE (met.set x.toNat true) r else none
theorem aEA:∀{xs:List Int} {met m:List Bool},wE met xs=some m->m.length=met.length
 | [],met,m,h=>by grind [wE]
 | x :: r, met, m, h => by
  simp only [wE] at h
  split at h
  ·have:=aEA h;grind
  ·cases h
theorem UF:∀(a b:List Int) (met:List Bool),wE met (a++b)=(wE met a).bind fun m=>wE m b
 | [],b,met=>rfl
 | x :: r, b, met => by
  simp only [ON,wE]
  split
  ·exact UF r b _
  ·rfl
theorem SM:∀(xs:List Int) (met:List Bool),met.length=24->((wE met xs).isSome=true↔(∀x∈xs,0<=x/\x<=23)/\xs.Nodup/\∀x∈xs,met.getD x.toNat true=false)
 | [],met,hm=>by simp [wE]
 | x :: r, met, hm => by
  simp only [wE]
  by_cases h:(0<=x/\x<=23)/\met.getD x.toNat true=false
  ·rw [if_pos h,SM r _ (by grind)]
   grind
  grind
def aGE:Option (List Bool)->Out (List Bool) Bool
 | some m=>.brk m
 | none=>.ret false
theorem a04{s:aO}(hl:s.aQ.length<=maxLen):∀d k (met:List Bool),k+d=s.aQ.length->met.length=24->loop (kD s) ((k:Int),met)=some (aGE (wE met (s.aQ.drop k))):=by
 intro d
 induction d with
 | zero =>
  intro k met hk hm
  rw [bI (r:=Out.brk met) (by grind [kD]),List.drop_eq_nil_of_le (by omega)];rfl
 | succ d ih =>
  intro k met hk hm
  have hk':k < s.aQ.length:=by omega
  have hd:s.aQ.drop k=s.aQ[k] :: s.aQ.drop (k+1):=HW hk'
  have hst:kD s ((k:Int),met)=if (0<=s.aQ[k]/\s.aQ[k]<=23)/\met.getD s.aQ[k].toNat true=false then some (.next (((k+1:Nat):Int),met.set s.aQ[k].toNat true)) else some (.stop (Out.ret false)):=by
   simp only [kD]
   rw [if_pos (by simp;omega),aT hk']
   simp only [aH,sW]
   generalize s.aQ[k]=x
   by_cases q:0<=x/\x<=23
   ·obtain⟨j,rfl⟩:=aUH q.1
    have hj:j < met.length:=by omega
    have e:met.getD j true=met[j]:=by grind
    simp only [q,and_self,decide_true,jH,bG,if_false,mG,I6,true_and,e]
    rw [aK (by omega),aT hj]
    simp only [aH]
    cases met[j]
    ·simp only [bG,if_false,if_true]
     grind [aK,o4]
    ·simp
   ·rw [fC q];simp only [LW,if_true,mG];grind
  rw [hd,wE]
  by_cases q:(0<=s.aQ[k]/\s.aQ[k]<=23)/\met.getD s.aQ[k].toNat true=false
  ·rw [if_pos q] at hst ⊢
   grind [bL]
  ·rw [if_neg q] at hst ⊢
   rw [bI hst];rfl
def WU(l:List aO):Prop:=∀s∈l,s.aQ.length<=2
instance (l:List aO):Decidable (WU l):=by unfold WU;infer_instance
theorem a05{l:aA}(ho:l.Own.length=9)(hn:(l.Own++l.Global).length<=1000)(hs:∀s∈l.Own++l.Global,s.aQ.length<=maxLen):∀d k (met:List Bool),k+d=(l.Own++l.Global).length->met.length=24 ->
  loop (kG l) ((k:Int),met)=some (if WU (((l.Own++l.Global).drop k).take (9 - k))/\(wE met (eD ((l.Own++l.Global).drop k))).isSome=true then Out.brk () else Out.ret false):=by
 intro d
 induction d with
 | zero =>
  intro k met hk hm
  rw [List.drop_eq_nil_of_le (by omega),if_pos ⟨by simp [WU],rfl⟩]
  simp_all [bI,kG]
 | succ d ih =>
  intro k met hk hm
  have hk':k < (l.Own++l.Global).length:=by omega
  have hd:(l.Own++l.Global).drop k=(l.Own++l.Global)[k] :: (l.Own++l.Global).drop (k+1):=HW hk'
  have hsk:=hs _ (dJ hk')
  have hf:eD ((l.Own++l.Global).drop k)=(l.Own++l.Global)[k].aQ++eD ((l.Own++l.Global).drop (k+1)):=by grind [eD]
  have hin:∀b:Bool,kE (k:Int) met (l.Own++l.Global)[k] b=if b then some (.stop (Out.ret false)) else (match wE met (l.Own++l.Global)[k].aQ with | some m=>some (.next (((k+1:Nat):Int),m)) | none=>some (.stop (Out.ret false))):=by
   intro b
   have h4:=a04 hsk _ 0 met (yO _) hm
   rw [show((0:Nat):Int)=0 from rfl,NA] at h4
   unfold kE
   rw [h4]
   cases b
   ·simp only [bG,if_false,aH]
    cases wE met (l.Own++l.Global)[k].aQ with
    | none=>rfl
    | some m=>simp only [aGE,NQ,wJ];rw [aM (by omega) (by omega)];rfl
   ·rfl
  have hst:kG l ((k:Int),met)=kE (k:Int) met (l.Own++l.Global)[k] (decide (k < 9/\2 < (l.Own++l.Global)[k].aQ.length)):=by
   simp only [kG]
   rw [if_pos (by grind),aT hk']
   simp only [aH]
   by_cases h9:k < 9
   ·rw [if_pos (by simp;omega)]
    congr 1
    (simp_all;omega)
   grind
  rw [hin] at hst
  by_cases h2:k < 9/\2 < (l.Own++l.Global)[k].aQ.length
  ·rw [cT h2] at hst
   simp only [if_true] at hst
   rw [bI hst,if_neg]
   rintro⟨q,_⟩
   have e:9 - k=(9 - (k+1))+1:=by omega
   rw [hd,e,List.take_succ_cons] at q
   have:=q _ List.mem_cons_self
   omega
  ·rw [fC h2] at hst
   simp only [bG,if_false] at hst
   have hcond:WU (((l.Own++l.Global).drop k).take (9 - k))↔WU (((l.Own++l.Global).drop (k+1)).take (9 - (k+1))):=by
    unfold WU
    by_cases h9:k < 9
    ·have e:9 - k=(9 - (k+1))+1:=by omega
     simp_all
    ·have e:9 - k=0:=by omega
     have e':9 - (k+1)=0:=by omega
     simp_all
   rw [hf,UF]
   cases hg:wE met (l.Own++l.Global)[k].aQ with
   | none =>
    simp_all [bI]
   | some m =>
    rw [hg] at hst
    rw [bL hst,ih (k+1) m (by omega) (by grind [aEA])]
    simp_all
theorem N6{l:aA}(h:(lX l).length<=1073741824):jJ l=some (decide (LOk l)):=by
 unfold jJ pW
 by_cases hg:l.Global.length=3
 ·by_cases ho:l.Own.length=9
  ·have n1:((l.Global.length:Int) != 3)=false:=by simp;omega
   have n2:((l.Own.length:Int) != 9)=false:=by simp;omega
   simp only [n1,n2,bG,if_false]
   rw [aK (by omega)]
   have hsl:∀s∈l.Own++l.Global,s.aQ.length<=maxLen:=by
    grind [lX,maxLen,WH,aBC]
   have key:=a05 ho (by simp;omega) hsl (l.Own++l.Global).length 0 [false,false,false,false,false,false,false,false,false,false,false,false,false,false,false,false,false,false,false,false,false,false,false,false] (by omega) rfl
   rw [show((0:Nat):Int)=0 from rfl,NA,Nat.sub_zero] at key
   rw [key]
   have et:(l.Own++l.Global).take 9=l.Own:=by grind
   have ef:eD (l.Own++l.Global)=eD l.Own++eD l.Global:=by simp [eD]
   have hm0:∀j:Nat,j < 24->[false,false,false,false,false,false,false,false,false,false,false,false,false,false,false,false,false,false,false,false,false,false,false,false].getD j true=false:=by decide
   have hiff:LOk l↔WU ((l.Own++l.Global).take 9)/\(wE [false,false,false,false,false,false,false,false,false,false,false,false,false,false,false,false,false,false,false,false,false,false,false,false] (eD (l.Own++l.Global))).isSome=true:=by
    rw [SM _ _ rfl,et,ef]
    have hp:(eD l.Own++eD l.Global).Perm (lX l):=List.perm_append_comm
    constructor
    ·rintro⟨_,_,q1,q2,q3⟩
     exact⟨q1,fun x hx=>q2 x (hp.mem_iff.1 hx),hp.nodup_iff.2 q3,fun x hx=>hm0 _ (by grind)⟩
    ·rintro⟨q1,q2,q3,_⟩
     exact⟨hg,ho,q1,fun x hx=>q2 x (hp.mem_iff.2 hx),hp.nodup_iff.1 q3⟩
   by_cases q:LOk l
   ·rw [if_pos (hiff.1 q),cT q];rfl
   ·rw [if_neg (fun x=>q (hiff.2 x)),fC q];rfl
  ·have n1:((l.Global.length:Int) != 3)=false:=by simp;omega
   have n2:((l.Own.length:Int) != 9)=true:=by simp;omega
   simp_all [LOk]
 ·have n1:((l.Global.length:Int) != 3)=true:=by simp;omega
  simp_all [LOk]
end Go.Gv
end
noncomputable section
namespace Go.Gv
def LP(h:Heap)(l:List Int)(c:Int):Prop:=∀x∈l,bS h x=c/\nD h x<=6
instance (h:Heap) (l:List Int) (c:Int):Decidable (LP h l c):=by unfold LP;infer_instance
theorem LQ{h:Heap}(hs:fN h){s:aO}(hl:s.aQ.length<=maxLen){c:Int}(hc:0<=c):vP h s c=some (decide (LP h s.aQ c)):=by
 unfold vP
 have key:loop (lH h s c) 0=some (if ∀x∈s.aQ,bS h x=c/\nD h x<=6 then Out.brk () else Out.ret false):=by
  have hst:∀k (hk:k < s.aQ.length),lH h s c (k:Int)=if bS h s.aQ[k]=c/\nD h s.aQ[k]<=6 then some (.next ((k+1:Nat):Int)) else some (.stop (Out.ret false)):=by
   intro k hk
   simp only [lH]
   rw [if_pos (by simp;omega),aT hk]
   generalize s.aQ[k]=x
   simp only [aH,iT hs,tS]
   by_cases q:bS h x=c
   ·have n1:(bS h x != c)=false:=by simp only [bne_eq_false_iff_eq];exact q
    simp only [n1,bG,if_false,C4 hs (show 0<=bS h x by omega),aH,o4 (OW hk hl)]
    by_cases q2:nD h x<=6
    ·rw [if_neg (by simp;omega),if_pos ⟨q,q2⟩]
    ·rw [if_pos (by simp;omega),if_neg (fun x=>q2 x.2)]
   ·have n1:(bS h x != c)=true:=by simp only [bne_iff_ne];exact q
    simp only [n1,if_true]
    rw [if_neg (fun x=>q x.1)]
  refine FZ (f:=lH h s c) s.aQ (fun k=>(k:Int)) (fun x=>bS h x=c/\nD h x<=6) _ _ (fun k hk hp=>?_) (fun k hk hp=>?_) ?_
  ·rw [hst k hk,if_pos hp]
  ·rw [hst k hk,if_neg hp]
  ·simp [lH]
 rw [key]
 by_cases q:∀x∈s.aQ,bS h x=c/\nD h x<=6
 ·rw [if_pos q,cT (show LP h s.aQ c from q)];rfl
 ·rw [if_neg q,fC (show ¬LP h s.aQ c from q)];rfl
def gQ(l:List aO)(k:Nat):List Int:=(l.getD k ⟨[]⟩).aQ
theorem eM{l:List aO}{k:Nat}(h:k < l.length):l[k].aQ=gQ l k:=by
 grind [gQ]
def UG(m:Mem)(k:Nat):Prop:=LP m.Heap (gQ m.aA.Global k) (k:Int)
def Q6(m:Mem)(k:Nat):Prop:=LP m.Heap (gQ m.aA.Own k) ((k % 3:Nat):Int)
instance (m:Mem) (k:Nat):Decidable (UG m k):=by unfold UG;infer_instance
instance (m:Mem) (k:Nat):Decidable (Q6 m k):=by unfold Q6;infer_instance
instance (m:Mem):Decidable (∀k,k < 3->UG m k):=Nat.decidableBallLT 3 fun k _=>UG m k
instance (m:Mem):Decidable (∀k,k < 9->Q6 m k):=Nat.decidableBallLT 9 fun k _=>Q6 m k
instance (m:Mem) (c:Nat):Decidable (∀w,w < 3->Q6 m (w * 3+c)):=Nat.decidableBallLT 3 fun w _=>Q6 m (w * 3+c)
instance (m:Mem):Decidable (∀k,k < 3->UG m k/\∀w,w < 3->Q6 m (w * 3+k)):=Nat.decidableBallLT 3 fun k _=>UG m k/\∀w,w < 3->Q6 m (w * 3+k)
def qF(m:Mem):Prop:=(V1 m.Heap/\LOk m.aA)/\(∀k,k < 3->UG m k)/\∀k,k < 9->Q6 m k
instance (m:Mem):Decidable (qF m):=by unfold qF;infer_instance
theorem LOk.aIK{l:aA}(h:LOk l)(hb:(lX l).length<=1073741824):(∀s∈l.Global,s.aQ.length<=1073741824)/\∀s∈l.Own,s.aQ.length<=1073741824:=by
 grind [lX,WH,aBC]
theorem J5{m:Mem}(hb:m.Heap.Bytes.length<=maxLen)(hl:(lX m.aA).length<=1073741824):B3 m=some (decide (qF m)):=by
 unfold B3 CS
 rw [HB hb,N6 hl]
 by_cases h1:V1 m.Heap
 ·by_cases h2:LOk m.aA
  ·have hmx:(1073741824:Nat)<=maxLen:=by simp [maxLen]
   have hsl:=LOk.aIK h2 hl
   simp only [cT h1,cT h2,aH,jH,bG,if_false]
   have k3:loop (qM m) 0=some (if ∀k,k < 9->Q6 m k then Out.brk () else Out.ret false):=by
    have hst:∀w:Nat,w < 9->qM m (w:Int)=if Q6 m w then some (.next ((w+1:Nat):Int)) else some (.stop (Out.ret false)):=by
     intro w hw
     have hk:w < m.aA.Own.length:=by rw [h2.2.1];omega
     have hlen:=hsl.2 _ (dJ hk)
     have em:Int.tmod (w:Int) 3=((w % 3:Nat):Int):=by grind
     simp only [qM]
     rw [if_pos (by simp;omega)]
     simp only [aH,aT hk,em]
     rw [LQ h1.1 (by omega) (by omega),eM hk,aM (by omega) (by omega)]
     by_cases q:Q6 m w
     ·rw [if_pos q,cT (show LP m.Heap (gQ m.aA.Own w) ((w % 3:Nat):Int) from q)];rfl
     ·rw [if_neg q,fC (show ¬LP m.Heap (gQ m.aA.Own w) ((w % 3:Nat):Int) from q)];rfl
    refine PY (f:=qM m) 9 (fun k=>(k:Int)) (fun w=>Q6 m w) _ _ (fun k hk hx=>?_) (fun k hk hx=>?_) ?_
    ·grind
    ·grind
    ·simp [qM,h2.2.1]
   have k2:loop (qN m) 0=some (if ∀k,k < 3->UG m k then Out.brk () else Out.ret false):=by
    have hst:∀w:Nat,w < 3->qN m (w:Int)=if UG m w then some (.next ((w+1:Nat):Int)) else some (.stop (Out.ret false)):=by
     intro w hw
     have hk:w < m.aA.Global.length:=by rw [h2.1];omega
     have hlen:=hsl.1 _ (dJ hk)
     simp only [qN]
     rw [if_pos (by simp;omega)]
     simp only [aH,aT hk]
     rw [LQ h1.1 (by omega) (by omega),eM hk,aM (by omega) (by omega)]
     by_cases q:UG m w
     ·rw [if_pos q,cT (show LP m.Heap (gQ m.aA.Global w) (w:Int) from q)];rfl
     ·rw [if_neg q,fC (show ¬LP m.Heap (gQ m.aA.Global w) (w:Int) from q)];rfl
    refine PY (f:=qN m) 3 (fun k=>(k:Int)) (fun w=>UG m w) _ _ (fun k hk hx=>?_) (fun k hk hx=>?_) ?_
    ·grind
    ·grind
    ·simp [qN,h2.1]
   rw [k2]
   by_cases q:∀k,k < 3->UG m k
   ·rw [if_pos q]
    simp only [aH,RH,RG]
    rw [k3]
    by_cases q2:∀k,k < 9->Q6 m k
    ·rw [if_pos q2,cT (show qF m from ⟨⟨h1,h2⟩,q,q2⟩)];rfl
    ·rw [if_neg q2,fC (fun x:qF m=>q2 x.2.2)];rfl
   ·rw [if_neg q,fC (fun x:qF m=>q x.2.1)];rfl
  grind [qF]
 grind [qF]
end Go.Gv
end
noncomputable section
namespace Go.Gv
theorem DS{l:List aO}{s:aO}(h:s∈l):s.aQ.length<=(eD l).length:=by
 grind [WH,aBC]
theorem qG(l:aA):(lX l).length=(eD l.Global).length+(eD l.Own).length:=by simp [lX]
def A9(m:Mem):Prop:=m.Heap.Bytes.length<=1048576/\m.Heap.Class.length<=1048576/\m.aA.Global.length<=1048576/\m.aA.Own.length<=1048576/\(lX m.aA).length<=1048576
theorem A9.aIK{m:Mem}(h:A9 m):(∀s∈m.aA.Global,s.aQ.length<=1048576)/\∀s∈m.aA.Own,s.aQ.length<=1048576:=by
 have:=qG m.aA
 have h5:=h.2.2.2.2
 exact⟨fun s hm=>by have:=DS hm;omega,fun s hm=>by have:=DS hm;omega⟩
end Go.Gv
end
noncomputable section
namespace Go.Gv
def POk(e:Int)(p:qT):Prop:=(0<=p.aN/\p.aN<=e)/\(0<=p.Seen/\p.Seen<=2)/\(p.On=false->p=⟨false,0,false,0⟩)
instance (e:Int) (p:qT):Decidable (POk e p):=by unfold POk;infer_instance
def OM(c:aJ):Prop:=(0<=c.aN/\c.aN<=100000)/\c.cN.length=3/\∀p∈c.cN,POk c.aN p
instance (c:aJ):Decidable (OM c):=by unfold OM;infer_instance
theorem iU(c:aJ):tV c=some (decide (OM c)):=by
 unfold tV
 rw [eI]
 by_cases h1:0<=c.aN/\c.aN<=100000
 ·by_cases h2:c.cN.length=3
  ·simp only [aH,h1,h2,qB]
   have key:∀k:Nat,k<=3->loop (qA c) (k:Int)=some (if ∀p∈c.cN.drop k,POk c.aN p then Out.brk () else Out.ret false):=by
    refine aE6 3 _ fun k hk=>?_
    by_cases h3:k < 3
    ·have hd:c.cN.drop k=c.cN[k] :: c.cN.drop (k+1):=HW (by omega)
     simp only [qA]
     rw [if_pos (by simp;omega),aT (by omega)]
     simp only [aH,eI,mI,hd]
     rw [o4 (by simp [maxLen];omega)]
     generalize c.cN[k]=p
     have hp:POk c.aN p↔decide (0<=p.aN/\p.aN<=c.aN)=true/\decide (0<=p.Seen/\p.Seen<=2)=true/\(p.On=false->decide (p=⟨false,0,false,0⟩)=true):=by simp only [POk,decide_eq_true_eq]
     simp only [List.forall_mem_cons,hp]
     generalize decide (0<=p.aN/\p.aN<=c.aN)=b1
     generalize decide (0<=p.Seen/\p.Seen<=2)=b2
     generalize decide (p=⟨false,0,false,0⟩)=b3
     generalize p.On=b4
     cases b1 <;> cases b2 <;> cases b3 <;> cases b4 <;> simp [h3]
    ·left
     obtain rfl:k=3:=by omega
     simp [qA,List.drop_eq_nil_of_le (show c.cN.length<=3 by omega)]
   have:=key 0 (by omega)
   simp only [Int.ofNat_zero,NA] at this
   have e:decide (OM c)=if ∀p∈c.cN,POk c.aN p then true else false:=by
    have:OM c↔∀p∈c.cN,POk c.aN p:=⟨fun h=>h.2.2,fun h=>⟨h1,h2,h⟩⟩
    simp [this]
   rw [e]
   simp only [Int.cast_ofNat_Int] at *
   have t0:loop (qA c) 0=_:=this
   by_cases h5:∀p∈c.cN,POk c.aN p
   ·rw [if_pos h5] at t0 ⊢;rw [t0];simp [EF,NW]
   ·rw [if_neg h5] at t0 ⊢;rw [t0];simp [EF]
  grind [qB,OM]
 grind [qB,OM]
theorem aIM(p:qT)(c:aJ):sB p c=some (!decide (POk c.aN p)):=by
 unfold sB j7
 rw [dY,dY]
 have hp:decide (POk c.aN p)=(decide (0<=p.aN/\p.aN<=c.aN) && (decide (0<=p.Seen/\p.Seen<=2) && (p.On || decide (p=⟨false,0,false,0⟩)))):=by
  rw [LX];simp only [POk,decide_eq_true_eq,xM,Bool.or_eq_true]
  grind
 grind
theorem aGF{l:List qT}(hl:l.length<=maxLen)(f:qT->Bool):j6 l (fun x=>some (f x))=some (l.any f):=by
 unfold j6 sA
 have key:∀k:Nat,k<=l.length->loop (hO l (fun x=>some (f x))) (k:Int)=some (if (l.drop k).any f then Out.ret ((k+(l.drop k).findIdx f:Nat):Int) else Out.brk ()):=by
  refine aE6 l.length _ fun k hk=>?_
  by_cases h3:k < l.length
  ·have hd:l.drop k=l[k] :: l.drop (k+1):=HW h3
   simp only [hO]
   rw [if_pos (by simp;omega),aT h3,o4 (OW h3 hl),hd]
   grind
  grind [hO]
 have t0:loop (hO l (fun x=>some (f x))) 0=_:=key 0 (by omega)
 rw [t0]
 simp only [NA]
 by_cases h:l.any f=true
 ·simp [h,oD]
 grind [oD,yY]
theorem xK{c:aJ}(hc:c.cN.length<=maxLen):pB c=some (decide (OM c)):=by
 unfold pB pY
 rw [dY]
 have e:(fun y0=>sB y0 c)=fun y0=>some (!decide (POk c.aN y0)):=funext fun y=>aIM y c
 rw [e,aGF hc]
 by_cases h1:0<=c.aN/\c.aN<=100000
 ·by_cases h2:c.cN.length=3
  ·have:OM c↔∀p∈c.cN,POk c.aN p:=⟨fun h=>h.2.2,fun h=>⟨h1,h2,h⟩⟩
   grind
  grind [OM]
 grind [OM]
end Go.Gv
end
noncomputable section
namespace Go.Gv
def dV(l:List a8):List dI:=l.flatMap a8.Rows
theorem HC{l:List a8}{k:Nat}(h:k < l.length):dV (l.take (k+1))=dV (l.take k)++l[k].Rows:=by
 grind [dV,RC]
theorem aBD(l:List a8)(k:Nat):(dV (l.take k)).length<=(dV l).length:=by
 grind [dV,RB]
theorem aO2(l:List a8){k:Nat}(h:k < l.length):l[k].Rows.length<=(dV l).length:=by
 have h1:=aBD l (k+1)
 grind [HC]
theorem aEB{l:List a8}{s:a8}(h:s∈l):s.Rows.length<=(dV l).length:=by
 grind [WH,aO2]
theorem aBE{l:List a8}(h:(dV l).length<=1073741824)(hl:l.length<=maxLen):PC l=some (dV l):=by
 unfold PC
 have k1:loop (sI l) ([],0)=some (dV l):=by
  refine gP (f:=sI l) l.length (fun k=>(dV (l.take k),(k:Int))) _ (fun k hk=>?_) ?_
  ·have h1:=aBD l (k+1)
   rw [HC hk] at h1
   simp only [sI]
   rw [if_pos (by simp;omega),aT hk]
   grind [aK,HC,o4]
  grind [sI]
 rw [k1];rfl
def mB(h:Int):Prop:=(32<=h/\h<=223)/\h % 32 < 24
instance (h:Int):Decidable (mB h):=by unfold mB;infer_instance
theorem oS(h:Int):qP h=some (decide (mB h)):=by
 grind [qP,B6,mB,eI,LL]
theorem iA(h:Int):fF h=some (decide (mB h)):=by
 grind [fF,lG,mB,dY,LL]
theorem mB.mod{h:Int}(q:mB h):Int.tmod h 32=h % 32/\0<=h % 32/\h % 32<=23:=by
 grind [mB]
theorem gZ(h:Int):kK h=some (if mB h then h % 32 else -1):=by
 grind [kK,oS,mB]
def I3(r:dI):Prop:=mB r.Handle/\0<=r.aN/\r.aN<=100000
instance (r:dI):Decidable (I3 r):=by unfold I3;infer_instance
def DT(r:dI):Int:=r.Handle % 32
def y8(l:List a8):Prop:=l.length=3/\(dV l).length<=24/\(∀r∈dV l,I3 r)/\((dV l).map DT).Nodup
instance (l:List a8):Decidable (y8 l):=by unfold y8;infer_instance
def goR:List Bool->List dI->Option (List Bool)
 | met,[]=>some met
 | met,r :: t=>if I3 r/\met.getD (DT r).toNat true=false then goR (met.set (DT r).toNat true) t else none
theorem aNK:∀{xs:List dI} {met m:List Bool},goR met xs=some m->m.length=met.length
 | [],met,m,h=>by grind [goR]
 | x :: r, met, m, h => by
  simp only [goR] at h
  split at h
  ·have:=aNK h;grind
  ·cases h
theorem aBF:∀(a b:List dI) (met:List Bool),goR met (a++b)=(goR met a).bind fun m=>goR m b
 | [],b,met=>rfl
 | x :: r, b, met => by
  simp only [ON,goR]
  split
  ·exact aBF r b _
  ·rfl
theorem aIN:∀(xs:List dI) (met:List Bool),(goR met xs).isSome=true↔(∀r∈xs,I3 r)/\(wE met (xs.map DT)).isSome=true
 | [],met=>by simp [goR,wE]
 | x :: r, met => by
  simp only [goR,C7,wE]
  by_cases h:I3 x
  ·have hm:=h.1.mod
   have hs:0<=DT x/\DT x<=23:=hm.2
   by_cases h2:met.getD (DT x).toNat true=false
   ·rw [if_pos ⟨h,h2⟩,if_pos ⟨hs,h2⟩,aIN r _]
    simp [h]
   grind
  grind
theorem aO3{s:a8}(hl:s.Rows.length<=maxLen):∀d k (met:List Bool),k+d=s.Rows.length->met.length=24->loop (kI s) ((k:Int),met)=some (aGE (goR met (s.Rows.drop k))):=by
 intro d
 induction d with
 | zero =>
  intro k met hk hm
  rw [bI (r:=Out.brk met) (by grind [kI]),List.drop_eq_nil_of_le (by omega)];rfl
 | succ d ih =>
  intro k met hk hm
  have hk':k < s.Rows.length:=by omega
  have hd:s.Rows.drop k=s.Rows[k] :: s.Rows.drop (k+1):=HW hk'
  have hst:kI s ((k:Int),met)=if I3 s.Rows[k]/\met.getD (DT s.Rows[k]).toNat true=false then some (.next (((k+1:Nat):Int),met.set (DT s.Rows[k]).toNat true)) else some (.stop (Out.ret false)):=by
   simp only [kI]
   rw [if_pos (by simp;omega),aT hk']
   simp only [aH,iA,dY]
   generalize s.Rows[k]=x
   by_cases q:mB x.Handle
   ·by_cases q2:0<=x.aN/\x.aN<=100000
    ·have hm2:=q.mod
     obtain⟨j,hj0⟩:=aUH hm2.2.1
     have hj:j < met.length:=by omega
     have e:met.getD j true=met[j]:=by grind
     have hr:I3 x:=⟨q,q2⟩
     simp only [q,q2,and_self,decide_true,jH,bG,if_false,iQ,hm2.1,hj0,I6,hr,true_and,DT,e]
     rw [aK (by omega),aT hj]
     simp only [aH]
     cases met[j]
     ·simp only [bG,if_false,if_true]
      grind [aK,o4]
     ·simp
    ·rw [cT q,fC q2];simp only [jH,LW,bG,if_false,if_true,iQ];rw [if_neg (fun y:I3 x/\_=>q2 y.1.2)]
   simp_all [iQ,I3]
  rw [hd,goR]
  by_cases q:I3 s.Rows[k]/\met.getD (DT s.Rows[k]).toNat true=false
  ·rw [if_pos q] at hst ⊢
   grind [bL]
  ·rw [if_neg q] at hst ⊢
   rw [bI hst];rfl
theorem aO4{l:List a8}(hn:l.length<=1000)(hs:∀s∈l,s.Rows.length<=maxLen):∀d k (met:List Bool),k+d=l.length->met.length=24 ->
  loop (kJ l) ((k:Int),met)=some (if (goR met (dV (l.drop k))).isSome=true then Out.brk () else Out.ret false):=by
 intro d
 induction d with
 | zero =>
  simp_all [goR,dV,bI,kJ]
 | succ d ih =>
  intro k met hk hm
  have hk':k < l.length:=by omega
  have hd:l.drop k=l[k] :: l.drop (k+1):=HW hk'
  have hsk:=hs _ (dJ hk')
  have hf:dV (l.drop k)=l[k].Rows++dV (l.drop (k+1)):=by grind [dV]
  have h4:=aO3 hsk _ 0 met (yO _) hm
  rw [show((0:Nat):Int)=0 from rfl,NA] at h4
  have hst:kJ l ((k:Int),met)=(match goR met l[k].Rows with | some m=>some (.next (((k+1:Nat):Int),m)) | none=>some (.stop (Out.ret false))):=by
   simp only [kJ]
   rw [if_pos (by simp;omega),aT hk']
   simp only [aH]
   rw [h4]
   cases goR met l[k].Rows with
   | none=>rfl
   | some m=>simp only [aH,aGE,NR,wP];grind [aM]
  rw [hf,aBF]
  cases hg:goR met l[k].Rows with
  | none =>
   simp_all [bI]
  | some m =>
   rw [hg] at hst
   rw [bL hst,ih (k+1) m (by omega) (by grind [aNK])]
   simp
theorem UH{l:List a8}(hn:l.length<=1000)(h:(dV l).length<=1073741824):rZ l=some ((dV l).length:Int):=by
 unfold rZ
 have key:loop (iK l) (0,0)=some ((dV l).length:Int):=by
  refine gP (f:=iK l) l.length (fun k=>(((dV (l.take k)).length:Int),(k:Int))) _ (fun k hk=>?_) ?_
  ·have h1:=aBD l (k+1)
   rw [HC hk,pS] at h1
   simp only [iK]
   rw [if_pos (by simp;omega),aT hk]
   grind [aM,HC]
  grind [iK]
 rw [key];rfl
theorem EM{l:List a8}(h:(dV l).length<=1073741824):mS l=some (decide (y8 l)):=by
 unfold mS
 by_cases h3:l.length=3
 ·have n1:((l.length:Int) != 3)=false:=by simp;omega
  have hb:(1073741824:Nat)<=maxLen:=by simp [maxLen]
  simp only [n1,bG,if_false]
  have key:=aO4 (l:=l) (by omega) (fun s hs=>by have:=aEB hs;omega) l.length 0 [false,false,false,false,false,false,false,false,false,false,false,false,false,false,false,false,false,false,false,false,false,false,false,false] (by omega) rfl
  rw [show((0:Nat):Int)=0 from rfl,NA] at key
  rw [key]
  have hm0:∀j:Nat,j < 24->[false,false,false,false,false,false,false,false,false,false,false,false,false,false,false,false,false,false,false,false,false,false,false,false].getD j true=false:=by decide
  have hiff:y8 l↔(dV l).length<=24/\(goR [false,false,false,false,false,false,false,false,false,false,false,false,false,false,false,false,false,false,false,false,false,false,false,false] (dV l)).isSome=true:=by
   rw [aIN,SM _ _ rfl]
   have hr:(∀r∈dV l,I3 r)->∀x∈(dV l).map DT,0<=x/\x<=23:=by
    intro q x hx
    obtain⟨r,hr,rfl⟩:=List.mem_map.1 hx
    exact(q r hr).1.mod.2
   constructor
   ·rintro⟨_,q1,q2,q3⟩
    grind
   ·rintro⟨q1,q2,_,q3,_⟩
    exact⟨h3,q1,q2,q3⟩
  by_cases q:(goR [false,false,false,false,false,false,false,false,false,false,false,false,false,false,false,false,false,false,false,false,false,false,false,false] (dV l)).isSome=true
  ·rw [if_pos q]
   simp only [aH,NS,wO]
   rw [UH (by omega) h]
   grind
  ·rw [if_neg q,fC (fun x=>q (hiff.1 x).2)];rfl
 ·have n1:((l.length:Int) != 3)=true:=by simp;omega
  simp_all [y8]
def sY(h:Int):Prop:=h=0\/mB h
instance (h:Int):Decidable (sY h):=by unfold sY;infer_instance
def aK0(z:List Int):Prop:=z.length=3/\∀h∈z,sY h
instance (z:List Int):Decidable (aK0 z):=by unfold aK0;infer_instance
end Go.Gv
end
noncomputable section
namespace Go.Gv
theorem UI{α:Type}(l:List α)(f:α->Bool){body:Int->Option (Step Int (Out Unit Int))}(hb:∀k (hk:k < l.length),body (k:Int)=if f l[k] then some (.stop (.ret (k:Int))) else some (.next ((k+1:Nat):Int)))(he:body (l.length:Int)=some (.stop (.brk ()))) :
  ∃o,loop body 0=some o/\match o with | .brk _=>l.any f=false | .ret r=>0<=r/\l.any f=true:=by
 have key:=aOY (f:=body) l.length (fun k=>(k:Int)) (fun k=>if (l.drop k).any f then Out.ret ((k+(l.drop k).findIdx f:Nat):Int) else Out.brk ()) (fun k hk=>by
  by_cases h:k < l.length
  ·have hd:l.drop k=l[k] :: l.drop (k+1):=HW h
   grind
  grind) 0 (gR _)
 grind
theorem aDF{l:List dI}(hl:l.length<=maxLen)(f:dI->Bool):jM l (fun x=>some (f x))=some (l.any f):=by
 obtain⟨o,e,h⟩:=UI l f (body:=jL l (fun x=>some (f x))) (fun k hk=>by
  simp only [jL]
  rw [if_pos (by simp;omega),aT hk,o4 (OW hk hl)];rfl) (by simp [jL])
 grind [jM,qV,vM,vL]
theorem aBG{l:List a8}(hl:l.length<=maxLen)(f:a8->Bool)(g:a8->Option Bool)(hg:∀x∈l,g x=some (f x)):iY l g=some (l.any f):=by
 obtain⟨o,e,h⟩:=UI l f (body:=iX l g) (fun k hk=>by
  simp only [iX]
  rw [if_pos (by simp;omega),aT hk,o4 (OW hk hl)]
  grind) (by simp [iX])
 grind [iY,o9,uL,uK]
theorem P5{l:List aO}(hl:l.length<=maxLen)(f:aO->Bool)(g:aO->Option Bool)(hg:∀x∈l,g x=some (f x)):gJ l g=some (l.any f):=by
 obtain⟨o,e,h⟩:=UI l f (body:=iZ l g) (fun k hk=>by
  simp only [iZ]
  rw [if_pos (by simp;omega),aT hk,o4 (OW hk hl)]
  grind) (by simp [iZ])
 grind [gJ,pA,uN,uM]
theorem contains_eq{l:List Int}(hl:l.length<=maxLen)(v:Int):iN l v=some (decide (v∈l)):=by
 obtain⟨o,e,h⟩:=UI l (fun x=>v == x) (body:=dQ l v) (fun k hk=>by
  simp only [dQ]
  rw [if_pos (by simp;omega),aT hk,o4 (OW hk hl)];rfl) (by simp [dQ])
 have ha:l.any (fun x=>v == x)=decide (v∈l):=by
  grind
 grind [iN,lF,uU,EW]
theorem QU{l:List aO}{x:Int}:x∈eD l↔∃s∈l,x∈s.aQ:=aDO
noncomputable section
variable {m:Mem} (hsh:fN m.Heap) (hl:(lX m.aA).length<=1073741824) (hg:m.aA.Global.length<=maxLen) (ho:m.aA.Own.length<=maxLen)
include hl hg ho
theorem aBH(s:Int):PD m.aA s=some (decide (s∈lX m.aA)):=by
 grind [maxLen,PD,aDE,RS]
theorem P6(s:Int):DG m.aA s=some (decide (s∈lX m.aA)):=by
 have hb:(1073741824:Nat)<=maxLen:=by simp [maxLen]
 have hal:=qG m.aA
 have e1:∀x∈m.aA.Global,m7 x s=some (decide (s∈x.aQ)):=fun x hx=>by
  have:=DS hx
  grind [m7,contains_eq]
 have e2:∀x∈m.aA.Own,m7 x s=some (decide (s∈x.aQ)):=fun x hx=>by
  have:=DS hx
  grind [m7,contains_eq]
 unfold DG AA
 rw [P5 hg (fun x=>decide (s∈x.aQ)) _ e1,P5 ho (fun x=>decide (s∈x.aQ)) _ e2]
 have a1:(m.aA.Global.any fun x=>decide (s∈x.aQ))=decide (s∈eD m.aA.Global):=by
  rw [LX];simp [QU]
 have a2:(m.aA.Own.any fun x=>decide (s∈x.aQ))=decide (s∈eD m.aA.Own):=by
  rw [LX];simp [QU]
 grind [lX]
def nE(m:Mem)(s:Int):Int:=if bS m.Heap s < 0 then 0 else if s∈lX m.aA then 1 else if 6 < nD m.Heap s then 2 else 3
include hsh
theorem YH(s:Int):MI m s=some (nE m s):=by
 grind [MI,nE,xJ,aBH,qQ]
theorem YI(s:Int):FG m s=some (nE m s):=by
 grind [FG,nE,iT,P6,C4]
def oT(m:Mem)(h:Int):Prop:=mB h/\nE m (h % 32)=3/\nD m.Heap (h % 32)=h / 32
instance (m:Mem) (h:Int):Decidable (oT m h):=by unfold oT;infer_instance
omit hl hg ho hsh in
theorem lB{m:Mem}{s:Int}(h:nE m s=3):0<=bS m.Heap s:=by
 grind [nE]
theorem N7(h:Int):MJ m h=some (decide (oT m h)):=by
 unfold MJ xC
 rw [oS,gZ]
 by_cases q:mB h
 ·have hm:=q.mod
  rw [cT q,if_pos q]
  simp only [aH,if_true,YH hsh hl hg ho]
  by_cases q2:nE m (h % 32)=3
  ·have n:(nE m (h % 32) == 3)=true:=by grind
   have eg:GR h=some (h / 32):=by
    grind [GR,mB,oS,aM]
   rw [n,qQ hsh (lB q2),eg]
   simp only [if_true,aH]
   congr 1;rw [LX];simp only [beq_iff_eq,decide_eq_true_eq]
   exact⟨fun a=>⟨q,q2,a⟩,fun a=>a.2.2⟩
  grind [oT]
 grind [oT]
theorem HD(h:Int):yX m h=some (decide (oT m h)):=by
 unfold yX rY
 rw [iA]
 by_cases q:mB h
 ·have hm:=q.mod
  rw [cT q,hm.1]
  simp only [aH,if_true,YI hsh hl hg ho]
  by_cases q2:nE m (h % 32)=3
  ·have n:(nE m (h % 32) == 3)=true:=by grind
   have eg:aZ (Int.tdiv h 32)=h / 32:=by
    grind [mB,aM]
   rw [n,C4 hsh (lB q2),eg]
   simp only [if_true,aH]
   congr 1;rw [LX];simp only [beq_iff_eq,decide_eq_true_eq]
   exact⟨fun a=>⟨q,q2,a⟩,fun a=>a.2.2⟩
  grind [oT]
 grind [oT]
end
def Y7(b:aB)(r:dI):Prop:=oT b.Mem r.Handle/\r.aN<=b.aJ.aN
instance (b:aB) (r:dI):Decidable (Y7 b r):=by unfold Y7;infer_instance
def yJ(b:aB):Prop:=(qF b.Mem/\OM b.aJ/\y8 b.bO/\aK0 b.BW)/\∀r∈dV b.bO,Y7 b r
instance (b:aB):Decidable (yJ b):=by unfold yJ;infer_instance
def aK1(b:aB):Prop:=A9 b.Mem/\b.aJ.cN.length<=1048576/\b.bO.length<=1048576/\(dV b.bO).length<=1048576/\b.BW.length<=1048576
end Go.Gv
end
noncomputable section
namespace Go.Gv
theorem M0{s:List aU}{p:aU->Bool}(hl:s.length<=4611686018427387904) :
  (∃j,∃h:j < s.length,(∀i (h:i < s.length),i < j->p s[i]=false)/\p s[j]=true/\cB s (fun y=>some (p y))=some (j:Int))\/((∀i (h:i < s.length),p s[i]=false)/\cB s (fun y=>some (p y))=some (-1)):=by
 rcases LM (f:=l9 s (fun y=>some (p y))) (p:=p) hl (fun k=>by
  simp only [l9]
  by_cases h:k < s.length
  ·rw [dif_pos h,if_pos (by simp;omega),aT h,aH,aH,aM (by omega) (by omega)]
   rfl
  grind) s.length 0 (by omega) with ⟨j,h,_,h2,h3,h4⟩ | ⟨h1,h2⟩
 ·refine .inl ⟨j,h,fun i hi a=>h2 i hi (gR _) a,h3,?_⟩
  unfold cB
  rw [show(0:Int)=((0:Nat):Int) from rfl,h4];rfl
 ·refine .inr ⟨fun i hi=>h1 i hi (gR _),?_⟩
  unfold cB
  rw [show(0:Int)=((0:Nat):Int) from rfl,h2];rfl
theorem WV{s:List Seen}{p:Seen->Bool}(hl:s.length<=4611686018427387904) :
  (∃j,∃h:j < s.length,(∀i (h:i < s.length),i < j->p s[i]=false)/\p s[j]=true/\dM s (fun y=>some (p y))=some (j:Int))\/((∀i (h:i < s.length),p s[i]=false)/\dM s (fun y=>some (p y))=some (-1)):=by
 rcases LM (f:=m9 s (fun y=>some (p y))) (p:=p) hl (fun k=>by
  simp only [m9]
  by_cases h:k < s.length
  ·rw [dif_pos h,if_pos (by simp;omega),aT h,aH,aH,aM (by omega) (by omega)]
   rfl
  grind) s.length 0 (by omega) with ⟨j,h,_,h2,h3,h4⟩ | ⟨h1,h2⟩
 ·refine .inl ⟨j,h,fun i hi a=>h2 i hi (gR _) a,h3,?_⟩
  unfold dM
  rw [show(0:Int)=((0:Nat):Int) from rfl,h4];rfl
 ·refine .inr ⟨fun i hi=>h1 i hi (gR _),?_⟩
  unfold dM
  rw [show(0:Int)=((0:Nat):Int) from rfl,h2];rfl
theorem aDG{s:List aU}{p:aU->Bool}(hl:s.length<=4611686018427387904):hQ s (fun y=>some (p y))=some (s.filter fun x=>!p x):=by
 unfold hQ
 rcases M0 (p:=p) hl with ⟨j,h,h1,h2,h3⟩ | ⟨h1,h3⟩
 ·have ne:¬(((j:Int) == -1)=true):=by simp
  rw [h3,aH,if_neg ne,aM (by omega) (by omega)]
  obtain⟨M,k,g1,g2,g3,g4⟩:=aF7 (p:=p) (n:=s.length) (f:=iL (fun y=>some (p y))) hl (fun L i j h hn hi=>by
   simp only [iL]
   rw [if_pos (by simp;omega),aT h,aH,aH]
   by_cases hp:p L[j]=true
   ·rw [if_pos hp,if_neg (by simp [hp])]
    grind [fZ,aM]
   ·rw [if_neg hp,if_pos (by grind),aT (by omega),aH]
    grind [fZ,aM]) (fun L i j h=>by
   simp_all [iL]) (s.length - (j+1)) s j (j+1) (by omega) rfl (by omega)
  grind [sD,sC,aK,eG,aOZ,aS5]
 ·rw [h3,aH,if_pos (by rfl),List.filter_eq_self.2]
  grind [SY]
theorem aNL{α:Type}{q:α->Bool}:∀{s:List α} {j:Nat} (h:j < s.length),(∀i (h:i < s.length),i < j->q s[i]=true)->q s[j]=false->s.takeWhile q=s.take j/\s.dropWhile q=s.drop j
 | [],j,h,_,_=>by cases h
 | x :: r, 0, h, _, h2 => by
  simp_all
 | x :: r, j + 1, h, h1, h2 => by
  have hx:q x=true:=h1 0 (Nat.zero_lt_succ _) (Nat.zero_lt_succ _)
  have:=aNL (s:=r) (j:=j) (by grind) (fun i hi hj=>h1 (i+1) (by omega) (by omega)) h2
  simp_all
theorem aZA{α:Type}{q:α->Bool}{s:List α}(h:∀i (h:i < s.length),q s[i]=true):s.takeWhile q=s/\s.dropWhile q=[]:=by
 have h':∀x∈s,q x=true:=fun x hx=>by grind [SY]
 clear h
 induction s with
 | nil=>simp
 | cons x r ih =>
  simp_all
def aBI(l:List aU)(x:aU):List aU:=
 (l.filter fun y=>!(y.Key == x.Key)).takeWhile (fun y=>!decide (x.Key < y.Key)) ++ [x]++(l.filter fun y=>!(y.Key == x.Key)).dropWhile (fun y=>!decide (x.Key < y.Key))
theorem V2{l:List aU}(hl:l.length<=1000)(x:aU):CR l x=some (aBI l x):=by
 unfold CR xV aBI
 rw [aK (by simp;omega)]
 simp only [aH,ZJ]
 have hd:hQ l (fun y0=>D9 y0 x)=some (l.filter fun y=>!(y.Key == x.Key)):=aDG (p:=fun y=>y.Key == x.Key) (by omega)
 rw [hd,aH]
 have hlen:(l.filter fun y=>!(y.Key == x.Key)).length<=1000:=qZ (List.length_filter_le _ _) hl
 generalize (l.filter fun y=>!(y.Key == x.Key))=o at hlen ⊢
 have hi:(∃j,∃h:j < o.length,(∀i (h:i < o.length),i < j->decide (x.Key < o[i].Key)=false)/\decide (x.Key < o[j].Key)=true/\cB o (fun y0=>wR y0 x)=some (j:Int))\/((∀i (h:i < o.length),decide (x.Key < o[i].Key)=false)/\cB o (fun y0=>wR y0 x)=some (-1)):=M0 (p:=fun y=>decide (x.Key < y.Key)) (by omega)
 rcases hi with ⟨j,h,h1,h2,h3⟩ | ⟨h1,h3⟩
 ·obtain⟨t1,t2⟩:=aNL (q:=fun y:aU=>!decide (x.Key < y.Key)) h (fun i hi a=>by grind) (by simp [h2])
  rw [h3,aH,if_neg (by simp),t1,t2]
  grind [oF,nL,aK]
 ·obtain⟨t1,t2⟩:=aZA (s:=o) (q:=fun y:aU=>!decide (x.Key < y.Key)) (fun i hi=>by grind)
  rw [h3,aH,if_pos (by decide),t1,t2]
  grind [oF,nL,aK,List.drop_length]
def aDH(l:List aU)(k:Int):aU×Bool:=match l.find? (fun y=>y.Key == k) with | some x=>(x,true) | none=>(⟨0,false,0⟩,false)
theorem aBJ{α:Type}{p:α->Bool}{s:List α}{j:Nat}(h:j < s.length)(h1:∀i (h:i < s.length),i < j->p s[i]=false)(h2:p s[j]=true):s.find? p=some s[j]:=by
 grind [List.find?_eq_some_iff_getElem]
theorem aNM{α:Type}{p:α->Bool}{s:List α}(h1:∀i (h:i < s.length),p s[i]=false):s.find? p=none:=by
 grind [SY]
theorem YJ{l:List aU}(hl:l.length<=1000)(k:Int):FJ l k=some (aDH l k):=by
 unfold FJ aDH
 have hi:(∃j,∃h:j < l.length,(∀i (h:i < l.length),i < j->(l[i].Key == k)=false)/\(l[j].Key == k)=true/\cB l (fun y0=>AI y0 k)=some (j:Int))\/((∀i (h:i < l.length),(l[i].Key == k)=false)/\cB l (fun y0=>AI y0 k)=some (-1)):=M0 (p:=fun y=>y.Key == k) (by omega)
 rcases hi with ⟨j,h,h1,h2,h3⟩ | ⟨h1,h3⟩
 ·rw [h3,aH,if_neg (by simp),aT h,aBJ (p:=fun y:aU=>y.Key == k) h h1 h2];rfl
 simp_all [aNM]
def EZ(l:List Seen)(b v:Int):List Seen×Bool:=match l.find? (fun y=>y.bV == b) with | some x=>(l,x.fX == v) | none=>(l ++ [⟨b,v⟩],true)
theorem YK{l:List Seen}(hl:l.length<=1000)(b v:Int):FL l b v=some (EZ l b v):=by
 unfold FL AN EZ
 rw [aK (by simp;omega)]
 simp only [aH,ZJ]
 have hi:(∃j,∃h:j < l.length,(∀i (h:i < l.length),i < j->(l[i].bV == b)=false)/\(l[j].bV == b)=true/\dM l (fun y0=>AO y0 b)=some (j:Int))\/((∀i (h:i < l.length),(l[i].bV == b)=false)/\dM l (fun y0=>AO y0 b)=some (-1)):=WV (p:=fun y=>y.bV == b) (by omega)
 rcases hi with ⟨j,h,h1,h2,h3⟩ | ⟨h1,h3⟩
 ·rw [h3,aH,if_neg (by simp),aT h,aBJ (p:=fun y:Seen=>y.bV == b) h h1 h2];rfl
 ·rw [h3,aH,if_pos (by decide),aK (by simp;omega),aNM (p:=fun y:Seen=>y.bV == b) h1]
def DU(l:List aU)(n:Int):Int:=(((l.take n.toNat).filter fun x=>!x.HJ).length:Int)
theorem aK2(l:List aU)(n:Int):(l.take ((if (if (l.length:Int) < n then (l.length:Int) else n) < 0 then 0 else (if (l.length:Int) < n then (l.length:Int) else n)).toNat)).drop 0=l.take n.toNat:=by
 (simp_all;omega)
theorem UJ{l:List aU}(hl:l.length<=1000)(n:Int):K8 l n=some (DU l n):=by
 unfold K8 DU
 rw [aK (by omega)]
 have hc:=aK2 l n
 obtain⟨s,hs⟩:∃s,s=l.take n.toNat:=⟨_,rfl⟩
 have hsl:s.length<=1000:=by grind
 rw [show((0:Int),(0:Int))=((((s.take 0).filter fun x=>!x.HJ).length:Int),((0:Nat):Int)) from rfl,
  gP s.length (fun k=>((((s.take k).filter fun x=>!x.HJ).length:Int),(k:Int))) (((s.filter fun x=>!x.HJ).length:Nat):Int) (fun k hk=>by
   have ht:s.take (k+1)=s.take k ++ [s[k]]:=RC hk
   have hle:((s.take k).filter fun x=>!x.HJ).length<=1000:=qZ (List.length_filter_le _ _) (by grind)
   simp only [MF,hc,<-hs]
   rw [if_pos (by simp;omega),aT hk,aH,ht,List.filter_append]
   cases hd:s[k].HJ
   ·rw [if_pos (by rfl),aM (by omega) (by omega)]
    simp only [AP]
    rw [aM (by omega) (by omega)]
    simp [hd]
   ·rw [if_neg (by simp)]
    grind [AP,aM]) (by
   simp only [MF,hc,<-hs]
   simp)]
 rw [hs];rfl
def HE(k:Int):Int:=if 0<=k/\k<=99 then k % 2 else -1
theorem J6(k:Int):BZ k=some (HE k):=by
 unfold BZ HE
 rw [dY,aH]
 grind
def DV(l:List aU):List Int:=(if l.any (fun x=>x.Key % 2 == 0) then [0] else [])++(if l.any (fun x=>x.Key % 2 == 1) then [1] else [])
theorem aK3{l:List Int}(hs:l.Pairwise (· < ·))(hm:∀x∈l,x=0\/x=1):l=(if 0∈l then [0] else [])++(if 1∈l then [1] else []):=by
 match l,hs,hm with
 | [],_,_=>rfl
 | [x],_,hm=>rcases hm x (by simp) with rfl | rfl <;> rfl
 | [x, y], hs, hm =>
  have hxy:x < y:=by grind
  rcases hm x (by simp) with rfl | rfl <;> rcases hm y (by simp) with rfl | rfl <;> first | omega | rfl
 | x :: y :: z :: r, hs, hm =>
  (simp_all;omega)
theorem YL{l:List aU}(hl:l.length<=12)(hk:∀x∈l,0<=x.Key/\x.Key<=99):FM l=some (DV l):=by
 unfold FM
 rw [show(([]:List Int),(0:Int))=((l.take 0).map (fun x=>x.Key % 2),((0:Nat):Int)) from rfl,
  gP l.length (fun k=>((l.take k).map (fun x=>x.Key % 2),(k:Int))) (l.map fun x=>x.Key % 2) (fun k hlt=>by
   have ht:l.take (k+1)=l.take k ++ [l[k]]:=RC hlt
   have hkk:=hk l[k] (dJ hlt)
   simp only [EC]
   rw [if_pos (by simp;omega),aT hlt,aH,J6,aH]
   unfold HE
   rw [if_pos hkk,if_pos (by simp;omega),aK (by simp;omega),ht,uI]
   grind [wU,aM]) (by
   simp [EC]),aH]
 simp only [NU,EB]
 obtain⟨y,h1,h2,h3⟩:=aS6 (x:=l.map fun x=>x.Key % 2) (by grind) (by grind [aKV])
 rw [h1,aH]
 obtain⟨c1,c2⟩:=aIJ h3
 have hmem:∀a,a∈tH y↔∃x∈l,x.Key % 2=a:=fun a=>by grind
 have h01:∀a∈tH y,a=0\/a=1:=fun a ha=>by grind
 show some (tH y)=_
 rw [aK3 c1 h01]
 grind [DV]
theorem aV7(l:List aU):(DV l).length<=2:=by grind [DV]
theorem aIO{l:List aU}{b:Int}(h:b∈DV l):b=0\/b=1:=by
 grind [DV]
end Go.Gv
end
noncomputable section
namespace Go.Gv
theorem aBK{α:Type}{f:(List α×Int)->Option (Step (List α×Int) (List α))}(l:List α)
  (h:∀k (hk:k < l.length),f (l.take k,(k:Int))=some (.next (l.take k ++ [l[k]],((k+1:Nat):Int)))) (he:f (l,(l.length:Int))=some (.stop l)):loop f ([],0)=some l:=by
 have:=gP (f:=f) l.length (fun k=>(l.take k,(k:Int))) l (fun k hk=>by simp_all) (by grind)
 grind
theorem QV{α:Type}{f:(Int×List α)->Option (Step (Int×List α) (List α))}(l:List α)
  (h:∀k (hk:k < l.length),f ((k:Int),l.take k)=some (.next (((k+1:Nat):Int),l.take k ++ [l[k]]))) (he:f ((l.length:Int),l)=some (.stop l)):loop f (0,[])=some l:=by
 have:=gP (f:=f) l.length (fun k=>((k:Int),l.take k)) l (fun k hk=>by simp_all) (by grind)
 grind
theorem FV{l:List Int}(h:l.length<=1073741824):jD l=some l:=by
 grind [jD,aK]
theorem aGG{l:List qT}(h:l.length<=1073741824):tN l=some l:=by
 grind [tN,aK]
theorem aDI{l:List dI}(h:l.length<=1073741824):rF l=some l:=by
 grind [rF,aK]
theorem J7{l:aA}(h1:l.Global.length<=1048576)(h2:l.Own.length<=1048576)(h3:∀s∈l.Global,s.aQ.length<=1048576)(h4:∀s∈l.Own,s.aQ.length<=1048576):gN l=some l:=by
 unfold gN
 rw [QV l.Global]
 ·simp only [aH,IL,IK]
  rw [QV l.Own]
  ·rfl
  ·intro k hk
   have:=h4 _ (dJ hk)
   simp only [zV]
   rw [if_pos (by simp;omega),aT hk]
   simp only [aH]
   rw [FV (by omega),aH,aK (by simp;omega),zU,aM (by omega) (by omega)];rfl
  grind [zV]
 ·intro k hk
  have:=h3 _ (dJ hk)
  simp only [zX]
  rw [if_pos (by simp;omega),aT hk]
  simp only [aH]
  rw [FV (by omega),aH,aK (by simp;omega),zW,aM (by omega) (by omega)];rfl
 grind [zX]
theorem M1{h:Heap}(h1:h.Bytes.length<=1048576)(h2:h.Class.length<=1048576):qL h=some h:=by
 unfold qL;rw [FV (by omega),FV (by omega)];rfl
theorem P7{m:Mem}(h:A9 m):pJ m=some m:=by
 have a:=M1 h.1 h.2.1
 have b:=J7 h.2.2.1 h.2.2.2.1 h.aIK.1 h.aIK.2
 simp_all [pJ]
theorem lC{c:aJ}(h:c.cN.length<=1048576):tZ c=some c:=by
 unfold tZ;rw [aK (by simp;omega)];rfl
theorem C5{c:aJ}(h:c.cN.length<=1048576):lO c=some c:=by
 unfold lO;rw [aGG (by omega)];rfl
theorem RT{l:List a8}(hl:l.length<=1048576)(hs:∀s∈l,s.Rows.length<=1048576):lN l=some l:=by
 unfold lN
 rw [aBK l]
 ·rfl
 ·intro k hk
  have:=hs _ (dJ hk)
  simp only [AD]
  rw [if_pos (by simp;omega),aT hk]
  simp only [aH]
  rw [aDI (by omega),aH,aK (by simp;omega),aM (by omega) (by omega)];rfl
 grind [AD]
end Go.Gv
end
noncomputable section
namespace Go.Gv
theorem lD(w:Int):fE w=some (decide (0<=w/\w<=2)):=by
 grind [fE,dY]
noncomputable section
variable {c:aJ} (hc:OM c) {w:Int} (hw:0<=w/\w<=2)
include hc
theorem OM.small:c.cN.length<=1048576/\c.cN.length<=maxLen:=by
 have:=hc.2.1;grind [maxLen]
theorem OM.aGH{k:Nat}{p:qT}(hp:POk c.aN p):OM ⟨c.aN,c.cN.set k p⟩:=⟨hc.1,by simpa using hc.2.1,fun q hq=>(qY hq).elim (hc.2.2 q) (fun e=>e ▸ hp)⟩
theorem OM.later(h:c.aN+1<=100000):OM ⟨c.aN+1,c.cN⟩:=by
 have h1:=hc.1
 exact⟨⟨by grind,h⟩,hc.2.1,fun q hq=>by
  obtain⟨a,b,d⟩:=hc.2.2 q hq
  exact⟨⟨a.1,by grind⟩,b,d⟩⟩
include hw
theorem aK4:∃p,idx c.cN w=some p/\POk c.aN p:=by
 have h3:=hc.2.1
 rw [gC hw.1 (by omega)]
 exact⟨_,rfl,hc.2.2 _ (dJ _)⟩
theorem aO5(e:Int):∃r,DO c w e=some r/\IP c w e=some r/\OM r.1/\r.1.aN=c.aN:=by
 obtain⟨p,hp,h1,⟨hs0,hs1⟩,h2⟩:=aK4 hc hw
 have h3:=hc.2.1
 unfold DO IP
 rw [lC hc.small.1,C5 hc.small.1,iU,xK hc.small.2,lD,eI,cT hc,cT hw]
 simp only [aH,jH,bG,if_false,AZ,AE,hp]
 cases h4:p.On
 ·exact⟨_,rfl,rfl,hc,rfl⟩
 ·cases h5:p.gG
  ·by_cases h6:p.aN=e
   ·simp_all [oP,oE]
   ·have h6':(p.aN == e)=false:=by grind
    simp only [oP,oE,h6',jH,bG,if_false,hp,aH]
    by_cases h7:p.Seen=2
    ·simp only [h7,beq_self_eq_true,if_true,show ¬((2:Int) < 2) by omega,decide_false,bG,if_false]
     exact⟨_,rfl,rfl,hc.aGH ⟨h1,by simp,fun q=>by grind⟩,rfl⟩
    ·have h7':(p.Seen == 2)=false:=by grind
     simp only [h7',show p.Seen < 2 by omega,decide_true,if_true,bG,if_false]
     have hw7:aZ (p.Seen+1)=p.Seen+1:=aM (by omega) (by omega)
     exact⟨_,rfl,rfl,hc.aGH ⟨h1,by grind,fun q=>by grind⟩,rfl⟩
  ·exact⟨_,rfl,rfl,hc,rfl⟩
theorem aTA(e:Int):∃r,GX c w e=some r/\ME c w e=some r/\(OM r.1/\r.1.aN=c.aN)/\(r.2=false->r.1=c):=by
 obtain⟨p,hp,hpk⟩:=aK4 hc hw
 have h3:=hc.2.1
 unfold GX ME
 rw [lC hc.small.1,C5 hc.small.1,iU,xK hc.small.2,lD,eI,eI,dY,cT hc,cT hw]
 simp only [aH,jH,bG,if_false,v7,vN,hp]
 by_cases h:0<=e/\e<=c.aN
 ·simp only [cT h,jH,bG,if_false]
  exact⟨_,rfl,rfl,⟨hc.aGH ⟨h,by simp,fun q=>by cases q⟩,rfl⟩,fun q=>by cases q⟩
 simp_all [fC]
omit hw in
theorem aV8(e:Int):∃r,LF c e=some r/\QP c e=some r/\OM r.1/\c.aN<=r.1.aN:=by
 have h3:=hc.2.1
 unfold LF QP
 rw [lC hc.small.1,C5 hc.small.1,iU,xK hc.small.2,cT hc]
 simp only [aH,jH,bG,if_false,A0,AF]
 by_cases h:c.aN=e
 ·subst h
  simp only [bne_self_eq_false,bG,if_false]
  by_cases h:c.aN=100000
  ·simp_all
  ·have h':(c.aN == 100000)=false:=by grind
   have hE:=hc.1
   have hw7:aZ (c.aN+1)=c.aN+1:=aM (by omega) (by omega)
   simp only [h',bG,if_false,hw7];exact⟨_,rfl,rfl,hc.later (by omega),by grind⟩
 simp_all
end
theorem aZB{b:aB}(hc:OM b.aJ){w:Int}(hw:0<=w/\w<=2)(s:Sub) :
  ∃x y,DP b w s=some (x,y)/\tP s b w=some (y,x)/\∃cl,x=⟨b.Mem,cl,b.bO,b.BW⟩/\OM cl/\b.aJ.aN<=cl.aN:=by
 obtain⟨r,e1,e2,h3,h4⟩:=aTA hc hw s.E
 unfold DP tP
 rw [e1,e2]
 simp only [bB,aX,uV,aH]
 by_cases p0:s.Pc=0
 ·simp only [p0,beq_self_eq_true,if_true];exact⟨_,_,rfl,rfl,_,rfl,hc,by omega⟩
 ·have p0':(s.Pc == 0)=false:=by grind
  simp only [p0',bG,if_false]
  by_cases p1:s.Pc=1
  ·simp only [p1,beq_self_eq_true,if_true]
   cases h:r.2
   ·rw [h4 h];exact⟨_,_,rfl,rfl,_,rfl,hc,by omega⟩
   ·exact⟨_,_,rfl,rfl,_,rfl,h3.1,by omega⟩
  ·have p1':(s.Pc == 1)=false:=by grind
   simp only [p1',bG,if_false]
   by_cases p2:s.Pc=2
   ·simp only [p2,beq_self_eq_true,if_true]
    by_cases q:b.aJ.aN=s.E
    ·simp only [q,beq_self_eq_true,if_true];exact⟨_,_,rfl,rfl,_,rfl,hc,by omega⟩
    ·have q':(b.aJ.aN == s.E)=false:=by grind
     simp only [q',bG,if_false];exact⟨_,_,rfl,rfl,_,rfl,hc,by omega⟩
   ·have p2':(s.Pc == 2)=false:=by grind
    simp only [p2',bG,if_false];exact⟨_,_,rfl,rfl,_,rfl,hc,by omega⟩
theorem aK5{b:aB}(hc:OM b.aJ)(s:Sub) :
  ∃x y,qC b s=some (x,y)/\mT s b=some (y,x)/\∃cl,x=⟨b.Mem,cl,b.bO,b.BW⟩/\OM cl/\b.aJ.aN<=cl.aN:=by
 obtain⟨r2,e3,e4,h4⟩:=aV8 hc s.E
 unfold qC mT j9
 rw [e3,e4,eI,lD]
 simp only [bB,aX,pN,pO,j8,aH]
 by_cases p0:s.Pc=0
 ·simp only [p0,beq_self_eq_true,if_true];exact⟨_,_,rfl,rfl,_,rfl,hc,by omega⟩
 ·have p0':(s.Pc == 0)=false:=by grind
  simp only [p0',bG,if_false]
  by_cases p1:s.Pc=1
  ·simp only [p1,beq_self_eq_true,if_true,show((1:Int) == 2)=false from rfl,bG,if_false]
   by_cases hB:0<=s.B/\s.B<=2
   ·obtain⟨r,e1,e2,h3,h3'⟩:=aO5 hc hB s.E
    simp only [cT hB,jH,bG,if_false,if_true,e1,e2,aH]
    cases h:r.2
    ·exact⟨_,_,rfl,rfl,_,rfl,h3,by omega⟩
    ·by_cases q:aZ (s.B+1)=3
     ·simp only [q,beq_self_eq_true,if_true,jH,bG,if_false];exact⟨_,_,rfl,rfl,_,rfl,h3,by omega⟩
     ·have q':(aZ (s.B+1) == 3)=false:=by grind
      simp only [q',jH,bG,if_false];exact⟨_,_,rfl,rfl,_,rfl,h3,by omega⟩
   ·simp only [fC hB,LW,bG,if_false,if_true]
    exact⟨_,_,rfl,rfl,_,rfl,hc,by omega⟩
  ·have p1':(s.Pc == 1)=false:=by grind
   simp only [p1',bG,if_false]
   by_cases p2:s.Pc=2
   ·simp only [p2,beq_self_eq_true,if_true]
    cases h:r2.2
    ·simp only [bG,if_false];exact⟨_,_,rfl,rfl,_,rfl,h4⟩
    ·simp only [if_true];exact⟨_,_,rfl,rfl,_,rfl,h4⟩
   ·have p2':(s.Pc == 2)=false:=by grind
    simp only [p2',bG,if_false];exact⟨_,_,rfl,rfl,_,rfl,hc,by omega⟩
end Go.Gv
end
noncomputable section
namespace Go.Gv
theorem aK6:∀(n:Nat) (l:List Int),l.Nodup->(∀x∈l,0<=x/\x < (n:Int))->l.length<=n
 | 0, l, _, h => by
  cases l with
  | nil=>simp
  | cons a t=>(simp_all;omega)
 | n + 1, l, hn, h => by
  have ih:=aK6 n (l.erase (n:Int)) (hn.erase _) (fun x hx=>by
   grind)
  grind
theorem LR{l:List a8}{k:Nat}(hk:k < l.length)(x:a8):dV (l.set k x)=dV (l.take k)++(x.Rows++dV (l.drop (k+1))):=by
 simp_all [List.set_eq_take_append_cons_drop,dV]
theorem I4{l:List a8}{k:Nat}(hk:k < l.length):dV l=dV (l.take k)++(l[k].Rows++dV (l.drop (k+1))):=by
 grind [aDP,LR]
theorem F5{l:List aO}{k:Nat}(hk:k < l.length)(x:aO):eD (l.set k x)=eD (l.take k)++(x.aQ++eD (l.drop (k+1))):=by
 simp_all [List.set_eq_take_append_cons_drop,eD]
theorem DW{l:List aO}{k:Nat}(hk:k < l.length):eD l=eD (l.take k)++(l[k].aQ++eD (l.drop (k+1))):=by
 grind [aDP,F5]
def bR(l:List a8)(s:Int):Prop:=∃r∈dV l,mB r.Handle/\r.Handle % 32=s
instance (l:List a8) (s:Int):Decidable (bR l s):=by unfold bR;infer_instance
noncomputable section
variable {l:List a8} (hl:y8 l)
include hl
theorem y8.small:(dV l).length<=1073741824/\l.length<=maxLen/\l.length<=1048576/\∀s∈l,s.Rows.length<=24:=by
 have:=hl.1;have h2:=hl.2.1
 refine⟨by omega,by grind [maxLen],by omega,fun s hs=>?_⟩
 have:=aEB hs;omega
theorem N8(s:Int):ML l s=some (decide (bR l s)):=by
 have hm:=hl.small
 unfold ML
 rw [aBE hm.1 hm.2.1,aH]
 have key:=FZ (f:=mJ s (dV l)) (dV l) (fun k=>(k:Int)) (fun r=>¬(mB r.Handle/\r.Handle % 32=s)) (Out.brk ()) (Out.ret true)
  (fun k hk hp=>by
   have hk':=hl.2.1
   simp only [mJ,xE]
   rw [if_pos (by simp;omega),aT hk,o4 (show k < maxLen by grind [maxLen])]
   grind [oS,gZ])
  (fun k hk hp=>by
   simp_all [mJ,xE,aT,oS,gZ])
  (by simp [mJ])
 have key':loop (mJ s (dV l)) 0=_:=key
 rw [key']
 by_cases q:bR l s
 ·rw [if_neg (fun a=>by obtain⟨r,hr,e⟩:=q;grind),cT q];rfl
 ·rw [if_pos (fun r hr e=>q ⟨r,hr,e⟩),fC q];rfl
theorem N9(s:Int):z8 l s=some (decide (bR l s)):=by
 have hm:=hl.small
 unfold z8
 have e1:∀(r:dI),oC r s=some (decide (mB r.Handle/\r.Handle % 32=s)):=by
  intro r
  unfold oC nJ
  rw [iA]
  by_cases q:mB r.Handle
  ·rw [q.mod.1];grind
  ·simp [q]
 have e2:∀x∈l,z7 x s=some (x.Rows.any fun r=>decide (mB r.Handle/\r.Handle % 32=s)):=by
  intro x hx
  unfold z7
  have:x.Rows.length<=maxLen:=by grind [maxLen]
  rw [show(fun y0=>oC y0 s)=fun r=>some (decide (mB r.Handle/\r.Handle % 32=s)) from funext e1,aDF this];rfl
 rw [aBG hm.2.1 (fun x=>x.Rows.any fun r=>decide (mB r.Handle/\r.Handle % 32=s)) _ e2]
 simp only [aH]
 congr 1
 rw [LX,decide_eq_true_iff]
 simp only [List.any_eq_true,decide_eq_true_eq,bR,dV,aDO]
 grind
theorem y8.more{k:Nat}(hk:k < l.length){r:dI}(hr:I3 r)(hn:¬bR l (r.Handle % 32)):y8 (l.set k ⟨l[k].Rows ++ [r]⟩):=by
 have e:=LR hk (⟨l[k].Rows ++ [r]⟩:a8)
 have p:(dV (l.set k ⟨l[k].Rows ++ [r]⟩)).Perm (r :: dV l):=by
  grind [I4]
 have h1:∀x∈dV (l.set k ⟨l[k].Rows ++ [r]⟩),I3 x:=fun x hx=>by
  rcases gI.1 (p.mem_iff.1 hx) with rfl | h
  ·exact hr
  ·exact hl.2.2.1 x h
 have h2:((dV (l.set k ⟨l[k].Rows ++ [r]⟩)).map DT).Nodup:=by
  refine(List.Perm.nodup_iff (p.map DT)).2 ?_
  rw [C7,List.nodup_cons]
  refine⟨fun h=>hn ?_,hl.2.2.2⟩
  obtain⟨x,hx,e⟩:=List.mem_map.1 h
  exact⟨x,hx,(hl.2.2.1 x hx).1,e⟩
 refine⟨by simpa using hl.1,?_,h1,h2⟩
 have:=aK6 24 _ h2 (fun x hx=>by
  obtain⟨y,hy,rfl⟩:=List.mem_map.1 hx
  have:=(h1 y hy).1.mod
  grind [DT])
 grind
end
theorem aO6{b:aB}(hb:yJ b)(hs:aK1 b){w:Int}(hw:0<=w/\w<=2)(s:Sub) :
  ∃x y,sN b w s=some (x,y)/\nK s b w=some (y,x)/\∃L,x=⟨b.Mem,b.aJ,L,b.BW⟩/\y8 L/\∀r∈dV L,Y7 b r:=by
 have hL:=hb.1.2.2.1
 have hm:=hb.1.1
 have hlen:w.toNat < b.bO.length:=by have:=hL.1;omega
 have hx:idx b.bO w=some b.bO[w.toNat]:=gC hw.1 (by omega)
 have hg:b.Mem.aA.Global.length<=maxLen:=by rw [hm.1.2.1];simp [maxLen]
 have ho:b.Mem.aA.Own.length<=maxLen:=by rw [hm.1.2.2.1];simp [maxLen]
 have hall:(lX b.Mem.aA).length<=1073741824:=by have:=hs.1.2.2.2.2;omega
 have hrow:=hL.small.2.2.2 _ (dJ hlen)
 have he:=hb.1.2.1.1
 unfold sN nK kY
 rw [eI,dY,N7 hm.1.1.1 hall hg ho,HD hm.1.1.1 hall hg ho,gZ]
 simp only [bB,aX,aH,rL,AY,kX]
 by_cases p0:s.Pc=0
 ·simp only [p0,beq_self_eq_true,if_true];exact⟨_,_,rfl,rfl,_,rfl,hL,hb.2⟩
 ·have p0' : (s.Pc == 0) = false := by grind
  simp only [p0',bG,if_false]
  by_cases p1:s.Pc=1
  ·simp only [p1,beq_self_eq_true,bne_self_eq_false,bG,if_false,if_true]
   by_cases q1:0<=s.E/\s.E<=b.aJ.aN
   ·simp only [cT q1,jH,bG,if_false]
    by_cases q2:oT b.Mem s.A
    ·have hh:=q2.1
     simp only [cT q2,jH,bG,if_false,if_pos hh,hh.mod.1,N8 hL,N9 hL,aH]
     by_cases q3:bR b.bO (s.A % 32)
     ·simp only [cT q3,if_true];exact⟨_,_,rfl,rfl,_,rfl,hL,hb.2⟩
     ·have hmore:=hL.more hlen (r:=⟨s.A,s.E⟩) ⟨hh,q1.1,by grind⟩ q3
      have e:CQ b.bO w s.A s.E=some (b.bO.set w.toNat ⟨b.bO[w.toNat].Rows ++ [⟨s.A,s.E⟩]⟩,true):=by
       unfold CQ tM
       rw [EM hL.small.1,lD,RT hL.small.2.2.1 (fun s h=>by have:=hL.small.2.2.2 s h;omega)]
       simp only [cT hL,cT hw,aH,jH,bG,if_false,hx]
       rw [aK (by simp;omega),EM hmore.small.1,cT hmore];rfl
      simp only [fC q3,bG,if_false,hx,e,aH]
      rw [aK (by simp;omega)]
      refine⟨_,_,rfl,rfl,_,rfl,hmore,fun r hr=>?_⟩
      rw [LR hlen] at hr
      have hsp:=I4 hlen
      rcases eX.1 hr with h | h
      ·exact hb.2 r (by grind)
      ·rcases eX.1 h with h | h
       ·rcases eX.1 h with h | h
        ·exact hb.2 r (by grind)
        ·simp at h;subst h;exact⟨q2,q1.2⟩
       ·exact hb.2 r (by grind)
    ·simp only [fC q2,LW,if_true];exact⟨_,_,rfl,rfl,_,rfl,hL,hb.2⟩
   ·simp only [fC q1,LW,if_true];exact⟨_,_,rfl,rfl,_,rfl,hL,hb.2⟩
  ·have p1':(s.Pc == 1)=false:=by grind
   have p1'':(s.Pc != 1)=true:=by grind
   simp only [p1',p1'',bG,if_false,if_true];exact⟨_,_,rfl,rfl,_,rfl,hL,hb.2⟩
end Go.Gv
end
