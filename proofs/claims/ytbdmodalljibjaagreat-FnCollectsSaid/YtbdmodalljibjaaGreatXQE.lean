import Derived.Test.YtbdmodalljibjaaGreatXQD
set_option linter.unusedVariables false
set_option linter.unusedSimpArgs false
set_option linter.unusedSectionVars false
set_option linter.constructorNameAsVariable false
set_option linter.unnecessarySimpa false
noncomputable section
set_option maxHeartbeats 4000000
set_option maxRecDepth 100000
namespace Go.Proofs.YtbdmodalljibjaaGreat
open Go.Gv
noncomputable section
variable {κ:Ctx}
theorem V4{h:aB}{slot gen:Int}{s1 s2:AC}(h1:bS κ s1 h.Bytes)(h2:bS κ s2 h.Class):VS Tryz.prog κ 427 (ID h slot gen) [.g [.h s1 h.Bytes.length,.h s2 h.Class.length],I slot,I gen] [] [] (fun r (y:AC×AC)=>.t [.g [.h y.1 r.1.Bytes.length,.h y.2 r.1.Class.length],.b r.2]) (fun r y=>[ow y.1 r.1.Bytes,ow y.2 r.1.Class]):=
 cM tok Tryz.call427 Tryz.func427 Tryz.results427 Q Q<|dL 0 3 (fun(p:Int×(List Int)×(List Int))=>B4 slot gen p.1 p.2.1 p.2.2) [1,2,6] (fun(p:Int×(List Int)×(List Int)) (u:AC×AC)=>[(8,.p 2 0),(9,I p.1)]) [1] (fun p u=>[ow u.1 (p.2.1:List Int),ow u.2 (p.2.2:List Int),.box 2 [.h u.1 p.2.1.length,.h u.2 p.2.2.length]]) Q (eY aC [0,1] Q<|fun hF=>bd hF fun x10 hA4 hF=>bd hF fun x11 hA5 hF=>cY Q Q (have hq9:=rb hA4;wi hq9<|c1 Q (fun h=>tL (h.a h1) (h.a h2)) fun u9 s6=>fun hq9=>match u9,hq9 with | _,rfl=>cY Q Q (have hq10:=rb hA5;wi hq10<|c0 Q (fun h=>wQ (h.a h1) (h.a h2)) fun u10=>fun hq10=>match u10,hq10 with | _,rfl=>wi hF<|fN (p:=(x11,x10.Bytes,x10.Class)) (s6.1,s6.2) [2,3,4,1] Q Q) (have hq11:=rb hA5;wi hq11<|c0 Q (fun h=>wQ (h.a h1) (h.a h2)) fun u11=>fun hq11=>match u11,hq11 with | _,rfl=>wi hF<|fN (p:=(x11,x10.Bytes,x10.Class)) (s6.1,s6.2) [2,3,4,1] Q Q)) (have hq12:=rb hA4;wi hq12<|c1 Q (fun h=>tL (h.a h1) (h.a h2)) fun u12 s7=>fun hq12=>match u12,hq12 with | _,rfl=>have hq13:=rb hA5;wi hq13<|c0 Q (fun h=>wQ (h.a h1) (h.a h2)) fun u13=>fun hq13=>match u13,hq13 with | _,rfl=>wi hF<|fN (p:=(x11,x10.Bytes,x10.Class)) (s7.1,s7.2) [3,4,2,1] Q Q)) fun⟨x1,x2,x3⟩ ⟨s3,s4⟩=>dF 0 3 (v7 slot gen x1 x2 x3) [1,2,6,8,9] 21 [3,0,1,2] Q (dZ [16,17] Q Q (b8 [3,0,1,2] Q Q)<|c0 Q (fun _=>cN) fun x9=>b8 [3,0,1,2] Q Q) fun x4=>bN [21] Q Q (eB (s3,s4) [1,2] Q Q)<|dL 0 3 (B3 x3) [6,8] (fun(x5:(List Int)) (_:Unit)=>[]) [0,2] (fun x5 _=>[ow s3 (x5:List Int),.box 2 [.h s3 x5.length,.h s4 x3.length]]) Q (eY aC [0] Q<|fun hF=>bd hF fun x6 hA1 hF=>bd hF fun x7 hA2 hF=>bd hF fun x8 hA3 hF=>cY Q Q (have hq1:=rb hA1;wi hq1<|c0 Q (fun _=>rB) fun u1=>fun hq1=>match u1,hq1 with | _,rfl=>have hq2:=rb hA2;wi hq2<|c0 Q (fun _=>rC) fun u2=>fun hq2=>match u2,hq2 with | _,rfl=>have hq3:=rb hA3;wi hq3<|o4 [1] Q Q Q Q (fun _=>oN) fun u3 _=>fun hq3=>un 4 [24] [] [(3,0)] Q Q Q Q Q Q fun hl2=>match u3,hq3 with | _,rfl=>wi hF<|b8 (p:=(x8)) [4,3,0,2] Q Q) (have hq4:=rb hA1;wi hq4<|c0 Q (fun _=>rB) fun u4=>fun hq4=>match u4,hq4 with | _,rfl=>cY Q Q (have hq5:=rb hA2;wi hq5<|c0 Q (fun _=>rC) fun u5=>fun hq5=>match u5,hq5 with | _,rfl=>have hq6:=rb hA3;wi hq6<|o4 [1] Q Q Q Q (fun _=>oN) fun u6 _=>fun hq6=>un 4 [24] [] [(3,0)] Q Q Q Q Q Q fun hl3=>match u6,hq6 with | _,rfl=>wi hF<|b8 (p:=(x8)) [4,3,0,2] Q Q) (have hq7:=rb hA2;wi hq7<|c0 Q (fun _=>rC) fun u7=>fun hq7=>match u7,hq7 with | _,rfl=>have hq8:=rb hA3;wi hq8<|o4 [1] Q Q Q Q (fun _=>oN) fun u8 _=>fun hq8=>un 4 [24] [] [(3,0)] Q Q Q Q Q Q fun hl4=>match u8,hq8 with | _,rfl=>wi hF<|b8 (p:=(x8)) [4,3,0,2] Q Q))) fun x5 _=>eB (s3,s4) [0,3] Q Q
theorem aAA{l:aA}{w_ c slot:Int}{s1 s2:AC}(h1:bS κ s1 l.Global)(h2:bS κ s2 l.bD):VS Tryz.prog κ 428 (N4 l w_ c slot) [.g [.h s1 l.Global.length,.h s2 l.bD.length],I w_,I c,I slot] [] [] (fun r (y:AC×AC)=>.t [.g [.h y.1 r.1.Global.length,.h y.2 r.1.bD.length],.b r.2]) (fun r y=>[ow y.1 r.1.Global,ow y.2 r.1.bD]):=
 cM tok Tryz.call428 Tryz.func428 Tryz.results428 Q Q<|c1 Q (fun h=>fK (h.a h1) (h.a h2)) fun x1 s3=>c0 Q (fun _=>M7) fun x2=>dF 0 3 (qY c slot x1 x2) [2,3,8,10,11] 34 [1,2,3,4] Q (c0 Q (fun h=>wO (h.a h1) (h.a h2)) fun x6=>dZ [20,21] Q Q (b8 [1,2,3,4] Q Q)<|dZ [23,24,25] Q Q (b8 [1,2,3,4] Q Q)<|c0 Q (fun _=>yZ) fun x7=>dZ [28,29,30] Q Q (b8 [1,2,3,4] Q Q)<|c0 Q (fun h=>K2 (h.a h1) (h.a h2)) fun x8=>b8 [1,2,3,4] Q Q) fun x3=>bN [34] Q Q (eB (s3.1,s3.2) [1,2] Q Q)<|jI cW 2 Q Q Q fun x4 h3 s4 h4=>fun hF=>eV 3 h4 h3 Q Q Q Q Q<|wi hF<|bN [45] Q Q (jI cW 1 Q Q Q fun x5 h5 s5 h6=>fun hF=>eV 4 h6 h5 Q Q Q Q Q<|WT Q aT Q Q Q Q fun s6=>ap 11 aT Q Q Q Q Q Q Q (fun h=>(h.o 12 Q)) Q Q hF fun hF s7=>sR Q<|uW cW 8 [11] [47] (⟨x5.aL++([slot])⟩:aE) s7 Q Q Q Q Q Q Q Q<|C4 s3.1 List.length_set.symm [(60,0)] [(0,0),(3,0)] Q Q Q<|fF cW 4 [7] h3 s4 Q Q Q Q Q Q Q<|fR Q Q<|J0 (hT:=tok) (s3.1,s3.2) [13,14] hF Q Tryz.results428 Q Q Q Q)<|fun hF=>WT Q aT Q Q Q Q fun s8=>ap 7 aT Q Q Q Q Q Q Q (fun h=>(h.o 8 Q)) Q Q hF fun hF s9=>sR Q<|uW cW 4 [7] [37] (⟨x4.aL++([slot])⟩:aE) s9 Q Q Q Q Q Q Q Q<|C4 s3.2 List.length_set.symm [(60,1)] [(0,1),(3,1)] Q Q Q<|fR Q Q<|J0 (hT:=tok) (s3.1,s3.2) [1,9] hF Q Tryz.results428 Q Q Q Q
theorem YI{m:Mem}{w_ h:Int}{s1 s2 s3 s4:AC}(h1:bS κ s1 m.aB.Bytes)(h2:bS κ s2 m.aB.Class)(h3:bS κ s3 m.aA.Global)(h4:bS κ s4 m.aA.bD):VS Tryz.prog κ 364 (F5 m w_ h) [.g (gM m s1 s2 s3 s4),I w_,I h] [] [] (fun r (y:U1)=>.g (yM r y)) (fun r y=>(zM r y [])):=
 cM tok Tryz.call364 Tryz.func364 Tryz.results364 Q Q<|c1 Q (fun h=>V4 (h.a h1) (h.a h2)) fun x1 s5=>dL 0 4 (D8 m w_ h) [1,3,6,7,8] (fun(x2:Mem) (u:AC×AC)=>[(11,.p 3 0)]) [0,1] (fun x2 u=>(oM x2 s5.1 s5.2 u.1 u.2 [.box 3 (gM x2 s5.1 s5.2 u.1 u.2)])) Q (eY aC [0,1,4] Q<|fun hF=>bd hF fun x6 hA1 hF=>cY Q Q (have hq1:=rb hA1;wi hq1<|c1 Q (fun h=>fK (h.a h3) (h.a h4)) fun u1 s12=>fun hq1=>match u1,hq1 with | _,rfl=>wi hF<|fN (p:=((⟨x1.1,x6⟩:Mem))) (s12.1,s12.2) [2,3,5,6,7,0,1] Q Q) (have hq2:=rb hA1;wi hq2<|c1 Q (fun h=>fK (h.a h3) (h.a h4)) fun u2 s13=>fun hq2=>match u2,hq2 with | _,rfl=>wi hF<|fN (p:=((⟨x1.1,x6⟩:Mem))) (s13.1,s13.2) [2,3,6,7,5,0,1] Q Q)) fun x2 ⟨s6,s7⟩=>dL 0 4 D7 [6,11] (fun(x3:Mem) (u:AC×AC)=>[]) [6] (fun x3 u=>(oM x3 s5.1 s5.2 u.1 u.2 [.box 3 (gM x3 s5.1 s5.2 u.1 u.2)])) Q (bN [31] Q Q (eY aC [5,6] Q<|c0 Q (fun h=>wP (h.a h1) (h.a h2)) fun x4=>c1 Q (fun h=>aAA (h.a h3) (h.a h4)) fun x5 s10=>fN (s10.1,s10.2) [0,1,7,8,4,6] Q Q)<|fN (s6,s7) [0,1,2,3,4,6] Q Q) fun x3 ⟨s8,s9⟩=>eB (s5.1,s5.2,s8,s9) [0,1,2,3] Q Q
theorem GL{s:Sub}{b:aG}{w_:Int}{s1 s2 s3 s4 s5 s6 s7:AC}{b0 b1:Nat×Nat}:VS Tryz.prog κ 237 (lA s b w_) [.p 0 0,.p 1 0,I w_] [b0,b1] ([.box 0 [I s.Kind,I s.A,I s.Pc,I s.E,I s.Row,I s.B,I s.H,I s.Out,I s.Code,.b s.dV],.box 1 (gB b s1 s2 s3 s4 s5 s6 s7)]++(oB b s1 s2 s3 s4 s5 s6 s7 [])) (fun(r:Sub×aG) (y:A5C)=>.t []) (fun(r:Sub×aG) (y:A5C)=>([.box 0 [I r.1.Kind,I r.1.A,I r.1.Pc,I r.1.E,I r.1.Row,I r.1.B,I r.1.H,I r.1.Out,I r.1.Code,.b r.1.dV],.box 1 (gB r.2 y.1 y.2.1 y.2.2.1 y.2.2.2.1 s5 y.2.2.2.2 s7)]++(oB r.2 y.1 y.2.1 y.2.2.1 y.2.2.2.1 s5 y.2.2.2.2 s7 []))):=
 cM tok Tryz.call237 Tryz.func237 Tryz.results237 Q Q<|dF 0 2 (dR s b w_) [0,1,2] 6 [0,2,3,4,5,6,7,8,1] Q (eY aC [0,1] Q<|c0 Q (fun h=>K4 (h.o 7 Q)) fun x13=>dZ [16,17] Q Q (jI cL 7 Q Q Q fun x14 h7 s11 h8=>fun hF=>eV 2 h8 h7 Q Q Q Q Q<|wi hF<|jI fM 12 Q Q Q fun x15 h9 _ h10=>fun hF=>eV 3 h10 h9 Q Q Q Q Q<|sF Q<|fF fM 13 [] h9 () Q Q Q Q Q Q Q<|fF cL 9 [16] h7 s11 Q Q Q Q Q Q Q<|eX () [0,2,3,4,5,6,17,8,1] hF Q)<|b8 [0,2,3,4,5,6,7,8,1] Q Q) fun x1=>bN [41,46] Q Q (MQ (s1,s2,s3,s4,s6) [0,8,1,2,3,4,5,6,7] Q Q)<|bN [61,66] Q Q (aBJ 0 0 0 10 8 1 0 8 [1,2,3,4,5,6,7] Q Q Q Q Q (fun _=>KD) fun x2 _=>MQ (s1,s2,s3,s4,s6) [0,8,9,10,11,12,13,14,15] Q Q)<|dF 0 2 (dB s b w_ x1) [0,1,2,6] 71 [0,1,2,3,4,5,6,7,8] Q (dZ [76,77] Q Q (c0 Q (fun _=>gC) fun x12=>dZ [82,83,84] Q Q (b8 [0,1,2,3,4,5,6,7,8] Q Q)<|b8 [0,1,2,3,4,5,6,7,8] Q Q)<|b8 [0,1,2,3,4,5,6,7,8] Q Q) fun x3=>bN [71] Q Q (eY aC [0,8] Q<|jI oI 7 Q Q Q fun x4 h1 _ h2=>fun hF=>eV 2 h2 h1 Q Q Q Q Q<|wi hF<|bN [101] Q Q (fun hF=>sR Q<|fF oI 9 [] h1 () Q Q Q Q Q Q Q<|J0 (hT:=tok) (s1,s2,s3,s4,s6) [0,8,1,2,3,4,5,6,12] hF Q Tryz.results237 Q Q Q Q)<|bN [124] Q Q (fun hF=>sF Q<|fF oI 9 [] h1 () Q Q Q Q Q Q Q<|J0 (hT:=tok) (s1,s2,s3,s4,s6) [0,8,1,2,3,4,5,6,12] hF Q Tryz.results237 Q Q Q Q)<|fun hF=>sF Q<|fF oI 9 [] h1 () Q Q Q Q Q Q Q<|J0 (hT:=tok) (s1,s2,s3,s4,s6) [0,8,1,2,3,4,5,6,12] hF Q Tryz.results237 Q Q Q Q)<|dF 0 2 (cG s b w_) [0,1,2] 128 [0,1,2,3,4,5,6,7,8] Q (eY aC [0,8] Q<|dZ [133,134] Q Q (dZ [6,135,136,137] Q Q (jI cL 6 Q Q Q fun x9 h3 s10 h4=>fun hF=>eV 2 h4 h3 Q Q Q Q Q<|wi hF<|jI fM 12 Q Q Q fun x10 h5 _ h6=>fun hF=>eV 3 h6 h5 Q Q Q Q Q<|wi hF<|c0 Q (fun _=>O2) fun x11=>fun hF=>sF Q<|fF fM 13 [] h5 () Q Q Q Q Q Q Q<|fF cL 9 [16] h3 s10 Q Q Q Q Q Q Q<|eX () [0,1,2,3,4,5,17,7,8] hF Q)<|b8 [0,1,2,3,4,5,6,7,8] Q Q)<|b8 [0,1,2,3,4,5,6,7,8] Q Q) fun x5=>bN [128] Q Q (eY aC [0] Q<|c1 Q (fun h=>TZ (h.o 6 Q)) fun x6 s8=>eY aC [0] Q<|c1 Q (fun h=>YI (h.o 1 Q) (h.o 2 Q) (h.o 3 Q) (h.o 4 Q)) fun x7 s9=>MQ (s9.1,s9.2.1,s9.2.2.1,s9.2.2.2,s8) [0,8,10,11,12,13,5,9,7] Q Q)<|bZ 0 0 0 10 [] Q Q Q Q Q (fun _=>b7) fun x8 _=>MQ (s1,s2,s3,s4,s6) [0,8,1,2,3,4,5,6,7] Q Q
theorem M9{c:aK}{w_ e_:Int}{s1:AC}(h1:bS κ s1 c.bM):VS Tryz.prog κ 365 (F6 c w_ e_) [.g [I c.aI,.h s1 c.bM.length],I w_,I e_] [] [] (fun r (y:AC)=>.t [.g [I r.1.aI,.h y r.1.bM.length],.b r.2]) (fun r y=>[ow y r.1.bM]):=
 cM tok Tryz.call365 Tryz.func365 Tryz.results365 Q Q<|c1 Q (fun h=>rA (h.a h1)) fun x1 s2=>dF 0 3 (sA w_ e_ x1) [1,2,6,8] 25 [1,2,3] Q (c0 Q (fun h=>wN (h.a h1)) fun x4=>dZ [13,14] Q Q (b8 [1,2,3] Q Q)<|c0 Q (fun _=>gC) fun x5=>dZ [17,18,19] Q Q (b8 [1,2,3] Q Q)<|c0 Q (fun _=>cN) fun x6=>b8 [1,2,3] Q Q) fun x2=>bN [25] Q Q (eB s2 [1] Q Q)<|jI AE 1 Q Q Q fun x3 h2 _ h3=>fun hF=>eV 3 h3 h2 Q Q Q Q Q<|sR Q<|uW AE 3 [] [28] (⟨true,e_,false,0⟩:gQ) () Q Q Q Q Q Q Q Q<|C4 s2 List.length_set.symm [(33,1)] [(0,1),(2,1)] Q Q Q<|fR Q Q<|J0 (hT:=tok) s2 [6] hF Q Tryz.results365 Q Q Q Q
theorem LS{s:Sub}{b:aG}{w_:Int}{s1 s2 s3 s4 s5 s6 s7:AC}{b0 b1:Nat×Nat}:VS Tryz.prog κ 238 (qZ s b w_) [.p 0 0,.p 1 0,I w_] [b0,b1] ([.box 0 [I s.Kind,I s.A,I s.Pc,I s.E,I s.Row,I s.B,I s.H,I s.Out,I s.Code,.b s.dV],.box 1 (gB b s1 s2 s3 s4 s5 s6 s7)]++(oB b s1 s2 s3 s4 s5 s6 s7 [])) (fun(r:Sub×aG) (y:AC)=>.t []) (fun(r:Sub×aG) (y:AC)=>([.box 0 [I r.1.Kind,I r.1.A,I r.1.Pc,I r.1.E,I r.1.Row,I r.1.B,I r.1.H,I r.1.Out,I r.1.Code,.b r.1.dV],.box 1 (gB r.2 s1 s2 s3 s4 y s6 s7)]++(oB r.2 s1 s2 s3 s4 y s6 s7 []))):=
 cM tok Tryz.call238 Tryz.func238 Tryz.results238 Q Q<|bN [14,15] Q Q (MQ s5 [0,1,2,3,4,5,6,7,8] Q Q)<|bN [27,28] Q Q (dL 0 3 (fun(p:Bool×Int×(List gQ))=>rM s b p.1 p.2.1 p.2.2) [0,1] (fun(p:Bool×Int×(List gQ)) (s8:AC)=>[(6,.p 2 0),(7,.b p.1)]) [0,2,3,4,5,6,7,8,1] (fun p s8=>[ow s8 (p.2.2:List gQ),.box 2 [I p.2.1,.h s8 p.2.2.length]]) Q (eY aC [0,1] Q<|fun hF=>bd hF fun x5 hA1 hF=>cY Q Q (have hq1:=rb hA1;wi hq1<|c1 Q (fun h=>M9 (h.o 6 Q)) fun u1 s10=>fun hq1=>match u1,hq1 with | _,rfl=>wi hF<|fN (p:=(x5.2,x5.1.aI,x5.1.bM)) s10 [9,10,0,2,3,4,5,6,7,8,1] Q Q) (have hq2:=rb hA1;wi hq2<|c1 Q (fun h=>M9 (h.o 6 Q)) fun u2 s11=>fun hq2=>match u2,hq2 with | _,rfl=>wi hF<|fN (p:=(x5.2,x5.1.aI,x5.1.bM)) s11 [10,9,0,2,3,4,5,6,7,8,1] Q Q)) fun⟨x1,x2,x3⟩ s8=>bN [43] Q Q (bZ 2 0 0 10 [] Q Q Q Q Q (fun _=>b7) fun x4 _=>eB s5 [2,10,3,4,5,6,7,8,9] Q Q)<|MQ s8 [2,10,3,4,5,6,0,8,9] Q Q)<|bN [53,54] Q Q (eY aC [0,1] Q<|bN [64] Q Q (bZ 0 0 0 10 [] Q Q Q Q Q (fun _=>b7) fun x6 _=>MQ s5 [0,1,2,3,4,5,6,7,8] Q Q)<|MQ s5 [0,1,2,3,4,5,6,7,8] Q Q)<|bZ 0 0 0 10 [] Q Q Q Q Q (fun _=>b7) fun x7 _=>MQ s5 [0,1,2,3,4,5,6,7,8] Q Q
theorem QH{s:Sub}{b:aG}{w_:Int}{s1 s2 s3 s4 s5 s6 s7:AC}{b0 b1:Nat×Nat}:VS Tryz.prog κ 130 (lG s b w_) [.p 0 0,.p 1 0,I w_] [b0,b1] ([.box 0 [I s.Kind,I s.A,I s.Pc,I s.E,I s.Row,I s.B,I s.H,I s.Out,I s.Code,.b s.dV],.box 1 (gB b s1 s2 s3 s4 s5 s6 s7)]++(oB b s1 s2 s3 s4 s5 s6 s7 [])) (fun(r:Sub×aG) (y:A6C)=>.t []) (fun(r:Sub×aG) (y:A6C)=>([.box 0 [I r.1.Kind,I r.1.A,I r.1.Pc,I r.1.E,I r.1.Row,I r.1.B,I r.1.H,I r.1.Out,I r.1.Code,.b r.1.dV],.box 1 (gB r.2 y.1 y.2.1 y.2.2.1 y.2.2.2.1 y.2.2.2.2.1 y.2.2.2.2.2 s7)]++(oB r.2 y.1 y.2.1 y.2.2.1 y.2.2.2.1 y.2.2.2.2.1 y.2.2.2.2.2 s7 []))):=
 cM tok Tryz.call130 Tryz.func130 Tryz.results130 Q Q<|bN [9] Q Q (eB (s1,s2,s3,s4,s5,s6) [0,1,2,3,4,5,6,7,8] Q Q)<|bN [16,17] Q Q (aBJ 0 0 0 10 1 1 0 8 [2,3,4,5,6,7,8] Q Q Q Q Q (fun _=>I2) fun x1 s8=>MQ (s8.1,s8.2.1,s8.2.2.1,s8.2.2.2,s5,s6) [0,1,9,10,11,12,13,14,15] Q Q)<|bN [22,23] Q Q (aBJ 0 0 0 10 1 1 0 8 [2,3,4,5,6,7,8] Q Q Q Q Q (fun _=>HN) fun x2 s9=>MQ (s1,s2,s3,s4,s5,s9) [0,1,9,10,11,12,13,14,15] Q Q)<|bN [28,29] Q Q (aBJ 0 0 0 10 1 1 0 8 [2,3,4,5,6,7,8] Q Q Q Q Q (fun _=>GK) fun x3 s10=>MQ (s1,s2,s3,s4,s10,s6) [0,1,9,10,11,12,13,14,15] Q Q)<|bN [33,34] Q Q (aBJ 0 0 0 10 1 1 0 8 [2,3,4,5,6,7,8] Q Q Q Q Q (fun _=>GL) fun x4 s11=>MQ (s11.1,s11.2.1,s11.2.2.1,s11.2.2.2.1,s5,s11.2.2.2.2) [0,1,9,10,11,12,13,14,15] Q Q)<|bN [39,40] Q Q (aBJ 0 0 0 10 1 1 0 8 [2,3,4,5,6,7,8] Q Q Q Q Q (fun _=>LS) fun x5 s12=>MQ (s1,s2,s3,s4,s12,s6) [0,1,9,10,11,12,13,14,15] Q Q)<|bZ 0 0 0 10 [] Q Q Q Q Q (fun _=>b7) fun x6 _=>MQ (s1,s2,s3,s4,s5,s6) [0,1,2,3,4,5,6,7,8] Q Q
theorem aBO{code:List UInt8}{s1:AC}(h1:bS κ s1 code):V0 Tryz.prog κ 20 (S6 code) [.h s1 code.length] .b:=
 cM tok Tryz.call20 Tryz.func20 Tryz.results20 Q Q<|cV Q Q
theorem YJ{code:List UInt8}{s1:AC}(h1:bS κ s1 code):VP Tryz.prog κ 93 (F8 code) [.h s1 code.length] (fun r=>[.h s1 code.length,I r.1,I r.2]):=
 cM tok Tryz.call93 Tryz.func93 Tryz.results93 Q Q<|J1 () [0] (fun(p:Int×Int) (_:Unit)=>[(3,I p.1),(4,I p.2)]) [] [] (fun p _=>[]) id [0] (fun(x5:Int) (_:Unit)=>[(3,I x5)]) [] (fun x5 _=>[]) Q Q (fun hF1 ⟨x3,x4⟩ _ hr1=>dF 0 0 (yL code x3 x4) [0,3,4] 15 [] Q (dZ [11,12] Q Q (b8 [] Q Q)<|b8 [] Q Q) fun x6=>bN [15] Q Q (OW cU Q h1 Q fun x7 _ _=>EV [] Q)<|FR [] Q) fun x5 _=>rtP [0] Q Q Q Q
theorem sI{c:aM}{s1:AC}{b0:Nat×Nat}(h1:bS κ s1 c.b):VS Tryz.prog κ 208 (mW c) [.p 0 0] [b0] [.box 0 [.h s1 c.b.length,I c.i,I c.h]] (fun(r:Int×(Int×Int)) (y:Unit)=>I r.1) (fun(r:Int×(Int×Int)) (y:Unit)=>[.box 0 [.h s1 c.b.length,I r.2.1,I r.2.2]]):=
 cM tok Tryz.call208 Tryz.func208 Tryz.results208 Q Q<|eY aC [0] Q<|dL 1 1 (fun(p:Int×Int)=>v8 c p.1 p.2) [0] (fun(p:Int×Int) (_:Unit)=>[(3,I p.1)]) [] (fun p _=>[.box 0 [.h s1 c.b.length,I p.2,I (aW ((aW (c.h * 6364136223846793005))+1442695040888963407))]]) Q (eY aC [0] Q<|bN [34] Q Q (eY aC [0] Q<|OW cU Q h1 Q fun x3 _ _=>b8 (p:=(eG .and .i64 (aW ((eG .and .i64 (eG .xor .i64 (oY .i64 (aW ((aW (c.h * 6364136223846793005))+1442695040888963407)) 33) (oY .i64 (aW ((aW (c.h * 6364136223846793005))+1442695040888963407)) 45)) 255)+(x3.toNat:Int))) 255,aW (c.i+1))) [0] Q Q)<|b8 (p:=(eG .and .i64 (eG .xor .i64 (oY .i64 (aW ((aW (c.h * 6364136223846793005))+1442695040888963407)) 33) (oY .i64 (aW ((aW (c.h * 6364136223846793005))+1442695040888963407)) 45)) 255,c.i)) [0] Q Q) fun⟨x1,x2⟩ _=>eB () [0] Q Q
theorem aD{c:aM}{n:Int}{s1:AC}{b0:Nat×Nat}(h1:bS κ s1 c.b):VS Tryz.prog κ 117 (aQ c n) [.p 0 0,I n] [b0] [.box 0 [.h s1 c.b.length,I c.i,I c.h]] (fun(r:Int×(Int×Int)) (y:Unit)=>I r.1) (fun(r:Int×(Int×Int)) (y:Unit)=>[.box 0 [.h s1 c.b.length,I r.2.1,I r.2.2]]):=
 cM tok Tryz.call117 Tryz.func117 Tryz.results117 Q Q<|bN [10] Q Q (eB () [0] Q Q)<|bN [12] Q Q (bZ 0 0 0 3 [] Q Q Q Q Q (fun h=>sI (h.a h1)) fun x1 _=>fun hF=>aN9 Q Q Q Q hF fun hF=>wi hF<|eB () [0] Q Q)<|bZ 0 0 0 3 [] Q Q Q Q Q (fun h=>sI (h.a h1)) fun x2 _=>bZ 0 0 0 3 [] Q Q Q Q Q (fun h=>sI (c:=(⟨c.b,x2.2.1,x2.2.2⟩:aM)) (h.a h1)) fun x3 _=>bZ 0 0 0 3 [] Q Q Q Q Q (fun h=>sI (c:=(⟨c.b,x3.2.1,x3.2.2⟩:aM)) (h.a h1)) fun x4 _=>bZ 0 0 0 3 [] Q Q Q Q Q (fun h=>sI (c:=(⟨c.b,x4.2.1,x4.2.2⟩:aM)) (h.a h1)) fun x5 _=>fun hF=>aN9 Q Q Q Q hF fun hF=>wi hF<|eB () [0] Q Q
theorem d8{c:aM}{list:List Int}{s1:AC}{s2:AC}{b0:Nat×Nat}(h1:bS κ s1 c.b)(h2:bS κ s2 list):VS Tryz.prog κ 106 (hU c list) [.p 0 0,.h s2 list.length] [b0] [.box 0 [.h s1 c.b.length,I c.i,I c.h]] (fun(r:Int×(Int×Int)) (y:Unit)=>I r.1) (fun(r:Int×(Int×Int)) (y:Unit)=>[.box 0 [.h s1 c.b.length,I r.2.1,I r.2.2]]):=
 cM tok Tryz.call106 Tryz.func106 Tryz.results106 Q Q<|bZ 0 0 0 3 [] Q Q Q Q Q (fun h=>aD (h.a h1)) fun x1 _=>L7 Q h2 Q fun x2=>eB () [0] Q Q
theorem sJ{c:aM}{n:Int}{s1:AC}{b0:Nat×Nat}(h1:bS κ s1 c.b):VS Tryz.prog κ 176 (pW c n) [.p 0 0,I n] [b0] [.box 0 [.h s1 c.b.length,I c.i,I c.h]] (fun(r:Bool×(Int×Int)) (y:Unit)=>.b r.1) (fun(r:Bool×(Int×Int)) (y:Unit)=>[.box 0 [.h s1 c.b.length,I r.2.1,I r.2.2]]):=
 cM tok Tryz.call176 Tryz.func176 Tryz.results176 Q Q<|bZ 0 0 0 3 [] Q Q Q Q Q (fun h=>aD (h.a h1)) fun x1 _=>eB () [0] Q Q
theorem I5:VS Tryz.prog κ 405 v9 [] [] [] (fun r (y:AC×AC)=>.g [.h y.1 r.Bytes.length,.h y.2 r.Class.length]) (fun r y=>[ow y.1 r.Bytes,ow y.2 r.Class]):=
 cM tok Tryz.call405 Tryz.func405 Tryz.results405 Q Q<|fun hF=>mks (0:Int) aT (fun w=>aHE Q w) Q Q Q Q Q Q Q hF fun hF s1=>nw Int Q<|wi hF<|J1 ⟨none,0⟩ [0,1] (fun(p:Int×(List Int)) (s3:AC)=>[(2,I p.1)]) [3,2,0,1] [0,1] (fun p s3=>[ow s3 (p.2:List Int),.box 1 [.h s1 (List.replicate ((384:Int).toNat) 0).length,.h s3 p.2.length]]) id [0,1] (fun(x5:(List Int)) (s4:AC)=>[]) [0,1] (fun x5 s4=>[ow s4 (x5:List Int),.box 1 [.h s1 (List.replicate ((384:Int).toNat) 0).length,.h s4 x5.length]]) Q Q (fun hF1 ⟨x3,x4⟩ s3 hr1=>bN [6] Q Q (fun hG1=>WT Q aT Q Q Q Q fun s5=>ap 0 aT Q Q Q Q Q Q Q (fun h=>(h.o 4 Q)) Q Q hG1 fun hG1 s6=>wi hG1<|Q9 s6 [0,1,2,3] Q)<|SI s3 [0,1,2,3] Q) fun x5 s4=>eB (s1,s4) [3,0] Q Q
theorem HC:VS Tryz.prog κ 406 oJ [] [] [] (fun r (y:AC×AC)=>.g [.h y.1 r.Global.length,.h y.2 r.bD.length]) (fun r y=>[ow y.1 r.Global,ow y.2 r.bD]):=
 cM tok Tryz.call406 Tryz.func406 Tryz.results406 Q Q<|dL 0 1 (fun(_:Unit)=>q5) [0] (fun(_:Unit) (u:AC×AC)=>[]) [] (fun _ u=>[ow u.1 (List.replicate ((3:Int).toNat) (⟨[]⟩:aE):List aE),ow u.2 (List.replicate ((9:Int).toNat) (⟨[]⟩:aE):List aE),.box 0 [.h u.1 (List.replicate ((3:Int).toNat) (⟨[]⟩:aE)).length,.h u.2 (List.replicate ((9:Int).toNat) (⟨[]⟩:aE)).length]]) Q (eY aC [] Q<|fun hF=>nd hF fun hA1 hF=>nd hF fun hA2 hF=>cY Q Q (have hq1:=rn hA1;mks ((⟨[]⟩:aE):aE) cK (fun _=>(MD (H5 (⟨[]⟩:aE)) (ZC aFU))) Q Q Q Q Q Q Q hq1 fun hq1 s5=>have hq2:=rn hA2;mks ((⟨[]⟩:aE):aE) cK (fun _=>(MD (H5 (⟨[]⟩:aE)) (ZC aFU))) Q Q Q Q Q Q Q hq2 fun hq2 s6=>wi hF<|fN (p:=()) (s5,s6) [1,2,0] Q Q) (have hq3:=rn hA2;mks ((⟨[]⟩:aE):aE) cK (fun _=>(MD (H5 (⟨[]⟩:aE)) (ZC aFU))) Q Q Q Q Q Q Q hq3 fun hq3 s7=>have hq4:=rn hA1;mks ((⟨[]⟩:aE):aE) cK (fun _=>(MD (H5 (⟨[]⟩:aE)) (ZC aFU))) Q Q Q Q Q Q Q hq4 fun hq4 s8=>wi hF<|fN (p:=()) (s8,s7) [2,1,0] Q Q)) fun _ ⟨s1,s2⟩=>eB (s1,s2) [0,1] Q Q
theorem K5:VS Tryz.prog κ 320 zK [] [] [] (fun r (y:U1)=>.g (yM r y)) (fun r y=>(zM r y [])):=
 cM tok Tryz.call320 Tryz.func320 Tryz.results320 Q Q<|c1 Q (fun _=>I5) fun x1 s1=>c1 Q (fun _=>HC) fun x2 s2=>eB (s1.1,s1.2,s2.1,s2.2) [1,2,3,4] Q Q
theorem HD:VS Tryz.prog κ 321 sB [] [] [] (fun r (y:AC)=>.g [I r.aI,.h y r.bM.length]) (fun r y=>[ow y r.bM]):=
 cM tok Tryz.call321 Tryz.func321 Tryz.results321 Q Q<|fun hF=>mks ((⟨false,0,false,0⟩:gQ):gQ) zO (fun w=>aHE (aMX (⟨false,0,false,0⟩:gQ)) w) Q Q Q Q Q Q Q hF fun hF s1=>wi hF<|eB s1 [1] Q Q
theorem HE:VS Tryz.prog κ 322 sC [] [] [] (fun r (y:AC)=>.h y r.length) (fun r y=>[ow y r]):=
 cM tok Tryz.call322 Tryz.func322 Tryz.results322 Q Q<|fun hF=>mks ((⟨[]⟩:aN):aN) p8 (fun _=>(MD (Z6 (⟨[]⟩:aN)) (ZC aFU))) Q Q Q Q Q Q Q hF fun hF s1=>wi hF<|eB s1 [0] Q Q
theorem K6:VS Tryz.prog κ 323 zL [] [] [] (fun r (y:AC)=>.h y r.length) (fun r y=>[ow y r]):=
 cM tok Tryz.call323 Tryz.func323 Tryz.results323 Q Q<|fun hF=>mks (0:Int) aT (fun w=>aHE Q w) Q Q Q Q Q Q Q hF fun hF s1=>wi hF<|eB s1 [0] Q Q
theorem T0:VS Tryz.prog κ 209 BF [] [] [] (fun r (y:LP)=>.g (yB r y)) (fun r y=>(zB r y [])):=
 cM tok Tryz.call209 Tryz.func209 Tryz.results209 Q Q<|c1 Q (fun _=>K5) fun x1 s1=>c1 Q (fun _=>HD) fun x2 s2=>c1 Q (fun _=>HE) fun x3 s3=>c1 Q (fun _=>K6) fun x4 s4=>eB (s1.1,s1.2.1,s1.2.2.1,s1.2.2.2,s2,s3,s4) [1,2,3,4,5,6,7] Q Q
theorem bU{b:aG}{w_:Int}{s:Sub}{s1 s2 s3 s4 s5 s6 s7:AC}(h1:bS κ s1 b.Mem.aB.Bytes)(h2:bS κ s2 b.Mem.aB.Class)(h3:bS κ s3 b.Mem.aA.Global)(h4:bS κ s4 b.Mem.aA.bD)(h5:bS κ s5 b.aK.bM)(h6:bS κ s6 b.aP)(h7:bS κ s7 b.nZ):VS Tryz.prog κ 342 (lB b w_ s) [.g (gB b s1 s2 s3 s4 s5 s6 s7),I w_,.g [I s.Kind,I s.A,I s.Pc,I s.E,I s.Row,I s.B,I s.H,I s.Out,I s.Code,.b s.dV]] [] [] (fun r (y:LP)=>.t [.g (yB r.1 y),.g [I r.2.Kind,I r.2.A,I r.2.Pc,I r.2.E,I r.2.Row,I r.2.B,I r.2.H,I r.2.Out,I r.2.Code,.b r.2.dV]]) (fun r y=>(zB r.1 y [])):=
 cM tok Tryz.call342 Tryz.func342 Tryz.results342 Q Q<|c1 Q (fun h=>TL (h.a h1) (h.a h2) (h.a h3) (h.a h4) (h.a h5) (h.a h6) (h.a h7)) fun x1 s8=>dL 0 5 (fun(p:Bool×aG)=>wA w_ s p.1 p.2) [1,5,6,7,8] (fun(p:Bool×aG) (_:Unit)=>[(19,.b p.1)]) [1,2,3] (fun p _=>(zB p.2 s8 [.box 4 (yB p.2 s8)])) Q (c0 Q (fun h=>yW (h.a h1) (h.a h2) (h.a h3) (h.a h4) (h.a h5) (h.a h6) (h.a h7)) fun x15=>dZ [14,15] Q Q (b8 (p:=(true,x1)) [4,5,6,7,8,9,10,11,1,2,3] Q Q)<|c0 Q (fun _=>a8) fun x16=>b8 (p:=(!x16,x1)) [4,5,6,7,8,9,10,11,1,2,3] Q Q) fun⟨x2,x3⟩ _=>bN [19] Q Q (eY aC [7,8] Q<|eB s8 [0,1,2,3,4,5,6] Q Q)<|J1 s8 [1,5,6,7,8] (fun(p:Int×Sub×aG) (u:LP)=>[(9,I p.1)]) [8,0,1,2,3,4,5,6,7,9,10] [9,10] (fun p u=>([.box 1 [I p.2.1.Kind,I p.2.1.A,I p.2.1.Pc,I p.2.1.E,I p.2.1.Row,I p.2.1.B,I p.2.1.H,I p.2.1.Out,I p.2.1.Code,.b p.2.1.dV]]++(zB p.2.2 u [.box 4 (yB p.2.2 u)]))) id [5,6,7,8] (fun(p:Sub×aG) (u:LP)=>[]) [9,10] (fun p u=>([.box 1 [I p.1.Kind,I p.1.A,I p.1.Pc,I p.1.E,I p.1.Row,I p.1.B,I p.1.H,I p.1.Out,I p.1.Code,.b p.1.dV]]++(zB p.2 u [.box 4 (yB p.2 u)]))) Q Q (fun hF2 ⟨x7,x8,x9⟩ ⟨s16,s17,s18,s19,s20,s21,s22⟩ hr2=>dL 0 5 (fun(p:Bool×aG)=>mF w_ x7 x8 p.1 p.2) [1,5,6,7,8,9] (fun(p:Bool×aG) (_:Unit)=>[(28,.b p.1)]) [0,9,10] (fun p _=>(oB p.2 s16 s17 s18 s19 s20 s21 s22 [.box 4 (gB p.2 s16 s17 s18 s19 s20 s21 s22)])) Q (dZ [23,24] Q Q (b8 (p:=(!x8.dV,x9)) [1,2,3,4,5,6,7,8,0,9,10] Q Q)<|b8 (p:=(false,x9)) [1,2,3,4,5,6,7,8,0,9,10] Q Q) fun⟨x12,x13⟩ _=>bN [28] Q Q (o4 [0,1,2,3,4,5,6] Q Q Q Q (fun _=>YC) fun x14 s30=>Q9 s30 [8,11,12,13,14,15,16,17,7,9,10] Q)<|SI (s16,s17,s18,s19,s20,s21,s22) [8,0,1,2,3,4,5,6,7,9,10] Q) fun⟨x10,x11⟩ ⟨s23,s24,s25,s26,s27,s28,s29⟩=>eY aC [0,8] Q<|eB (s23,s24,s25,s26,s27,s28,s29) [1,2,3,4,5,6,7] Q Q
theorem T1{c:aM}{most:Int}{s1:AC}{b0:Nat×Nat}(h1:bS κ s1 c.b):VS Tryz.prog κ 226 (BG c most) [.p 0 0,I most] [b0] [.box 0 [.h s1 c.b.length,I c.i,I c.h]] (fun(r:aG×Int×(Int×Int)) (y:LP)=>.t [.g (yB r.1 y),I r.2.1]) (fun(r:aG×Int×(Int×Int)) (y:LP)=>([.box 0 [.h s1 c.b.length,I r.2.2.1,I r.2.2.2]]++(zB r.1 y []))):=
 cM tok Tryz.call226 Tryz.func226 Tryz.results226 Q Q<|c1 Q (fun _=>T0) fun x1 s2=>fun hF=>WT Q aT Q Q Q Q fun s3=>wi hF<|bZ 0 0 0 3 [] Q Q Q Q Q (fun h=>aD (h.a h1)) fun x2 _=>J1 (s3,s2.1,s2.2.1,s2.2.2.1,s2.2.2.2.1,s2.2.2.2.2.1,s2.2.2.2.2.2.1,s2.2.2.2.2.2.2) [0,4,6] (fun(p:(List Int)×Int×Int×Int×aG) (u:A8C)=>[(7,.h u.1 p.1.length),(8,I p.2.1)]) [10,0,2,3,4,5,6,7,8,9,1] [1] (fun p u=>([ow u.1 (p.1:List Int),.box 0 [.h s1 c.b.length,I p.2.2.1,I p.2.2.2.1]]++(zB p.2.2.2.2 u.2 [.box 2 (yB p.2.2.2.2 u.2)]))) id [0,4,6] (fun(p:(List Int)×Int×Int×aG) (u:A8C)=>[(7,.h u.1 p.1.length)]) [1] (fun p u=>([ow u.1 (p.1:List Int),.box 0 [.h s1 c.b.length,I p.2.1,I p.2.2.1]]++(zB p.2.2.2 u.2 [.box 2 (yB p.2.2.2 u.2)]))) Q Q (fun hF1 ⟨x8,x9,x10,x11,x12⟩ ⟨s12,s13,s14,s15,s16,s17,s18,s19⟩ hr1=>bN [21] Q Q (dL 2 3 (fun(p:(List Int)×Int×Int×aG)=>dJ x9 p.1 p.2.1 p.2.2.1 p.2.2.2) [0,4,6,8] (fun(p:(List Int)×Int×Int×aG) (u:A8C)=>[(7,.h u.1 p.1.length)]) [10] (fun p u=>([ow u.1 (p.1:List Int),.box 0 [.h s1 c.b.length,I p.2.1,I p.2.2.1]]++(zB p.2.2.2 u.2 [.box 2 (yB p.2.2.2 u.2)]))) Q (bZ 1 0 0 3 [] Q Q Q Q Q (fun h=>aD (c:=(⟨c.b,x10,x11⟩:aM)) (h.a h1)) fun x27 _=>bZ 1 0 0 3 [] Q Q Q Q Q (fun h=>aD (c:=(⟨c.b,x27.2.1,x27.2.2⟩:aM)) (h.a h1)) fun x28 _=>jI oI 0 Q Q Q fun x29 h4 _ h5=>fun hG1=>eV 3 h5 h4 Q Q Q Q Q<|wi hG1<|bZ 1 0 0 3 [] Q Q Q Q Q (fun h=>aD (c:=(⟨c.b,x28.2.1,x28.2.2⟩:aM)) (h.a h1)) fun x30 _=>dL 0 4 (fun(p:Bool×aG)=>iT c x8 x9 x27 x29 x30 p.1 p.2) [0,4,6,7,8,9,10,34] (fun(p:Bool×aG) (_:Unit)=>[(54,.b p.1)]) [1,10] (fun p _=>([ow s12 (x8:List Int)]++(oB p.2 s13 s14 s15 s16 s17 s18 s19 [.box 2 (gB p.2 s13 s14 s15 s16 s17 s18 s19)]))) Q (bN [54,55] Q Q (fun hG1=>sF Q<|fF oI 11 [] h4 () Q Q Q Q Q Q Q<|eX (p:=(true,x12)) () [14,2,3,4,5,6,7,8,9,1,10] hG1 Q)<|bN [54,56] Q Q (fun hG1=>sF Q<|fF oI 11 [] h4 () Q Q Q Q Q Q Q<|eX (p:=(true,x12)) () [14,2,3,4,5,6,7,8,9,1,10] hG1 Q)<|bN [54,57] Q Q (fun hG1=>sF Q<|fF oI 11 [] h4 () Q Q Q Q Q Q Q<|eX (p:=(true,x12)) () [14,2,3,4,5,6,7,8,9,1,10] hG1 Q)<|fun hG1=>sF Q<|fF oI 11 [] h4 () Q Q Q Q Q Q Q<|eX (p:=(x30.1 == 3,x12)) () [14,2,3,4,5,6,7,8,9,1,10] hG1 Q) fun⟨x31,x32⟩ _=>bN [54] Q Q (dL 0 6 (fun(p:Int×Int×aG×aG×Sub)=>z8 c x8 x9 p.1 p.2.1 p.2.2.1 p.2.2.2.1 p.2.2.2.2) [0,4,6,7,8] (fun(p:Int×Int×aG×aG×Sub) (u:LP)=>[(11,.p 4 0),(12,.p 5 0)]) [0,10] (fun p u=>([.box 0 [.h s1 c.b.length,I p.1,I p.2.1]]++(oB p.2.2.1 s13 s14 s15 s16 s17 s18 s19 ([.box 2 (gB p.2.2.1 s13 s14 s15 s16 s17 s18 s19)]))++(zB p.2.2.2.1 u [.box 4 (yB p.2.2.2.1 u),.box 5 [I p.2.2.2.2.Kind,I p.2.2.2.2.A,I p.2.2.2.2.Pc,I p.2.2.2.2.E,I p.2.2.2.2.Row,I p.2.2.2.2.B,I p.2.2.2.2.H,I p.2.2.2.2.Out,I p.2.2.2.2.Code,.b p.2.2.2.2.dV]]))) Q (eY aC [8,10] Q<|fun hG1=>bd hG1 fun x44 hA3 hG1=>bd hG1 fun x45 hA4 hG1=>bd hG1 fun x46 hA5 hG1=>aD5 Q Q (have hq6:=rb hA3;wi hq6<|bZ 9 0 0 3 [] Q Q Q Q Q (fun h=>aD (c:=(⟨c.b,x30.2.1,x30.2.2⟩:aM)) (h.a h1)) fun u6 _=>fun hq6=>match u6,hq6 with | _,rfl=>aD5 Q Q (have hq7:=rb hA4;wi hq7<|c0 Q (fun _=>cJ) fun u7=>fun hq7=>match u7,hq7 with | _,rfl=>aD5 Q Q (have hq8:=rb hA5;wi hq8<|c1 Q (fun h=>bU (h.o 1 Q) (h.o 2 Q) (h.o 3 Q) (h.o 4 Q) (h.o 5 Q) (h.o 6 Q) (h.o 7 Q)) fun u8 s54=>fun hq8=>match u8,hq8 with | _,rfl=>cY Q Q (wi hG1<|fN (p:=(x44.2.1,x44.2.2,x32,x46.1,x46.2)) s54 [9,1,2,3,4,5,6,7,8,11,12,13,14,15,16,17,18,19,0,10] Q Q) (sF Q<|Y8 5 4 Q<|fD Q Q<|eX (p:=(x44.2.1,x44.2.2,x32,x46.1,x46.2)) s54 [9,1,2,3,4,5,6,7,8,11,12,13,14,15,16,17,19,18,0,10] hG1 Q)) (cY Q Q (have hq9:=rb hA5;wi hq9<|c1 Q (fun h=>bU (h.o 1 Q) (h.o 2 Q) (h.o 3 Q) (h.o 4 Q) (h.o 5 Q) (h.o 6 Q) (h.o 7 Q)) fun u9 s55=>fun hq9=>match u9,hq9 with | _,rfl=>wi hG1<|fN (p:=(x44.2.1,x44.2.2,x32,x46.1,x46.2)) s55 [9,1,2,3,4,5,6,7,8,12,13,14,15,16,17,18,11,19,0,10] Q Q) (have hq10:=rb hA5;wi hq10<|c1 Q (fun h=>bU (h.o 1 Q) (h.o 2 Q) (h.o 3 Q) (h.o 4 Q) (h.o 5 Q) (h.o 6 Q) (h.o 7 Q)) fun u10 s56=>fun hq10=>match u10,hq10 with | _,rfl=>wi hG1<|fN (p:=(x44.2.1,x44.2.2,x32,x46.1,x46.2)) s56 [9,1,2,3,4,5,6,7,8,13,14,15,16,17,18,19,11,12,0,10] Q Q)) (cY Q Q (have hq11:=rb hA5;wi hq11<|c1 Q (fun h=>bU (h.o 1 Q) (h.o 2 Q) (h.o 3 Q) (h.o 4 Q) (h.o 5 Q) (h.o 6 Q) (h.o 7 Q)) fun u11 s57=>fun hq11=>match u11,hq11 with | _,rfl=>sF Q<|Y8 5 4 Q<|fD Q Q<|eX (p:=(x44.2.1,x44.2.2,x32,x46.1,x46.2)) s57 [9,1,2,3,4,5,6,7,8,12,13,14,15,16,17,18,19,11,0,10] hG1 Q) (have hq12:=rb hA5;wi hq12<|c1 Q (fun h=>bU (h.o 1 Q) (h.o 2 Q) (h.o 3 Q) (h.o 4 Q) (h.o 5 Q) (h.o 6 Q) (h.o 7 Q)) fun u12 s58=>fun hq12=>match u12,hq12 with | _,rfl=>sF Q<|Y8 5 4 Q<|fD Q Q<|eX (p:=(x44.2.1,x44.2.2,x32,x46.1,x46.2)) s58 [9,1,2,3,4,5,6,7,8,13,14,15,16,17,18,19,12,11,0,10] hG1 Q))) (cY Q Q (have hq13:=rb hA4;wi hq13<|c0 Q (fun _=>cJ) fun u13=>fun hq13=>match u13,hq13 with | _,rfl=>cY Q Q (have hq14:=rb hA5;wi hq14<|c1 Q (fun h=>bU (h.o 1 Q) (h.o 2 Q) (h.o 3 Q) (h.o 4 Q) (h.o 5 Q) (h.o 6 Q) (h.o 7 Q)) fun u14 s59=>fun hq14=>match u14,hq14 with | _,rfl=>wi hG1<|fN (p:=(x44.2.1,x44.2.2,x32,x46.1,x46.2)) s59 [9,1,2,3,4,5,6,7,8,12,13,14,15,16,17,18,11,19,0,10] Q Q) (have hq15:=rb hA5;wi hq15<|c1 Q (fun h=>bU (h.o 1 Q) (h.o 2 Q) (h.o 3 Q) (h.o 4 Q) (h.o 5 Q) (h.o 6 Q) (h.o 7 Q)) fun u15 s60=>fun hq15=>match u15,hq15 with | _,rfl=>wi hG1<|fN (p:=(x44.2.1,x44.2.2,x32,x46.1,x46.2)) s60 [9,1,2,3,4,5,6,7,8,13,14,15,16,17,18,19,11,12,0,10] Q Q)) (have hq16:=rb hA4;wi hq16<|c0 Q (fun _=>cJ) fun u16=>fun hq16=>match u16,hq16 with | _,rfl=>have hq17:=rb hA5;wi hq17<|c1 Q (fun h=>bU (h.o 1 Q) (h.o 2 Q) (h.o 3 Q) (h.o 4 Q) (h.o 5 Q) (h.o 6 Q) (h.o 7 Q)) fun u17 s61=>fun hq17=>match u17,hq17 with | _,rfl=>wi hG1<|fN (p:=(x44.2.1,x44.2.2,x32,x46.1,x46.2)) s61 [9,1,2,3,4,5,6,7,8,13,14,15,16,17,18,19,11,12,0,10] Q Q)) (cY Q Q (have hq18:=rb hA4;wi hq18<|c0 Q (fun _=>cJ) fun u18=>fun hq18=>match u18,hq18 with | _,rfl=>cY Q Q (have hq19:=rb hA5;wi hq19<|c1 Q (fun h=>bU (h.o 1 Q) (h.o 2 Q) (h.o 3 Q) (h.o 4 Q) (h.o 5 Q) (h.o 6 Q) (h.o 7 Q)) fun u19 s62=>fun hq19=>match u19,hq19 with | _,rfl=>sF Q<|Y8 5 4 Q<|fD Q Q<|eX (p:=(x44.2.1,x44.2.2,x32,x46.1,x46.2)) s62 [9,1,2,3,4,5,6,7,8,12,13,14,15,16,17,18,19,11,0,10] hG1 Q) (have hq20:=rb hA5;wi hq20<|c1 Q (fun h=>bU (h.o 1 Q) (h.o 2 Q) (h.o 3 Q) (h.o 4 Q) (h.o 5 Q) (h.o 6 Q) (h.o 7 Q)) fun u20 s63=>fun hq20=>match u20,hq20 with | _,rfl=>sF Q<|Y8 5 4 Q<|fD Q Q<|eX (p:=(x44.2.1,x44.2.2,x32,x46.1,x46.2)) s63 [9,1,2,3,4,5,6,7,8,13,14,15,16,17,18,19,12,11,0,10] hG1 Q)) (have hq21:=rb hA4;wi hq21<|c0 Q (fun _=>cJ) fun u21=>fun hq21=>match u21,hq21 with | _,rfl=>have hq22:=rb hA5;wi hq22<|c1 Q (fun h=>bU (h.o 1 Q) (h.o 2 Q) (h.o 3 Q) (h.o 4 Q) (h.o 5 Q) (h.o 6 Q) (h.o 7 Q)) fun u22 s64=>fun hq22=>match u22,hq22 with | _,rfl=>sF Q<|Y8 5 4 Q<|fD Q Q<|eX (p:=(x44.2.1,x44.2.2,x32,x46.1,x46.2)) s64 [9,1,2,3,4,5,6,7,8,13,14,15,16,17,18,19,12,11,0,10] hG1 Q))) (cY Q Q (have hq23:=rb hA3;wi hq23<|bZ 9 0 0 3 [] Q Q Q Q Q (fun h=>aD (c:=(⟨c.b,x30.2.1,x30.2.2⟩:aM)) (h.a h1)) fun u23 _=>fun hq23=>match u23,hq23 with | _,rfl=>cY Q Q (have hq24:=rb hA4;wi hq24<|c0 Q (fun _=>cJ) fun u24=>fun hq24=>match u24,hq24 with | _,rfl=>cY Q Q (have hq25:=rb hA5;wi hq25<|c1 Q (fun h=>bU (h.o 1 Q) (h.o 2 Q) (h.o 3 Q) (h.o 4 Q) (h.o 5 Q) (h.o 6 Q) (h.o 7 Q)) fun u25 s65=>fun hq25=>match u25,hq25 with | _,rfl=>wi hG1<|fN (p:=(x44.2.1,x44.2.2,x32,x46.1,x46.2)) s65 [9,1,2,3,4,5,6,7,8,12,13,14,15,16,17,18,11,19,0,10] Q Q) (have hq26:=rb hA5;wi hq26<|c1 Q (fun h=>bU (h.o 1 Q) (h.o 2 Q) (h.o 3 Q) (h.o 4 Q) (h.o 5 Q) (h.o 6 Q) (h.o 7 Q)) fun u26 s66=>fun hq26=>match u26,hq26 with | _,rfl=>wi hG1<|fN (p:=(x44.2.1,x44.2.2,x32,x46.1,x46.2)) s66 [9,1,2,3,4,5,6,7,8,13,14,15,16,17,18,19,11,12,0,10] Q Q)) (have hq27:=rb hA4;wi hq27<|c0 Q (fun _=>cJ) fun u27=>fun hq27=>match u27,hq27 with | _,rfl=>have hq28:=rb hA5;wi hq28<|c1 Q (fun h=>bU (h.o 1 Q) (h.o 2 Q) (h.o 3 Q) (h.o 4 Q) (h.o 5 Q) (h.o 6 Q) (h.o 7 Q)) fun u28 s67=>fun hq28=>match u28,hq28 with | _,rfl=>wi hG1<|fN (p:=(x44.2.1,x44.2.2,x32,x46.1,x46.2)) s67 [9,1,2,3,4,5,6,7,8,13,14,15,16,17,18,19,11,12,0,10] Q Q)) (have hq29:=rb hA3;wi hq29<|bZ 9 0 0 3 [] Q Q Q Q Q (fun h=>aD (c:=(⟨c.b,x30.2.1,x30.2.2⟩:aM)) (h.a h1)) fun u29 _=>fun hq29=>match u29,hq29 with | _,rfl=>have hq30:=rb hA4;wi hq30<|c0 Q (fun _=>cJ) fun u30=>fun hq30=>match u30,hq30 with | _,rfl=>have hq31:=rb hA5;wi hq31<|c1 Q (fun h=>bU (h.o 1 Q) (h.o 2 Q) (h.o 3 Q) (h.o 4 Q) (h.o 5 Q) (h.o 6 Q) (h.o 7 Q)) fun u31 s68=>fun hq31=>match u31,hq31 with | _,rfl=>wi hG1<|fN (p:=(x44.2.1,x44.2.2,x32,x46.1,x46.2)) s68 [9,1,2,3,4,5,6,7,8,13,14,15,16,17,18,19,11,12,0,10] Q Q)) (cY Q Q (have hq32:=rb hA3;wi hq32<|bZ 9 0 0 3 [] Q Q Q Q Q (fun h=>aD (c:=(⟨c.b,x30.2.1,x30.2.2⟩:aM)) (h.a h1)) fun u32 _=>fun hq32=>match u32,hq32 with | _,rfl=>cY Q Q (have hq33:=rb hA4;wi hq33<|c0 Q (fun _=>cJ) fun u33=>fun hq33=>match u33,hq33 with | _,rfl=>cY Q Q (have hq34:=rb hA5;wi hq34<|c1 Q (fun h=>bU (h.o 1 Q) (h.o 2 Q) (h.o 3 Q) (h.o 4 Q) (h.o 5 Q) (h.o 6 Q) (h.o 7 Q)) fun u34 s69=>fun hq34=>match u34,hq34 with | _,rfl=>sF Q<|Y8 5 4 Q<|fD Q Q<|eX (p:=(x44.2.1,x44.2.2,x32,x46.1,x46.2)) s69 [9,1,2,3,4,5,6,7,8,12,13,14,15,16,17,18,19,11,0,10] hG1 Q) (have hq35:=rb hA5;wi hq35<|c1 Q (fun h=>bU (h.o 1 Q) (h.o 2 Q) (h.o 3 Q) (h.o 4 Q) (h.o 5 Q) (h.o 6 Q) (h.o 7 Q)) fun u35 s70=>fun hq35=>match u35,hq35 with | _,rfl=>sF Q<|Y8 5 4 Q<|fD Q Q<|eX (p:=(x44.2.1,x44.2.2,x32,x46.1,x46.2)) s70 [9,1,2,3,4,5,6,7,8,13,14,15,16,17,18,19,12,11,0,10] hG1 Q)) (have hq36:=rb hA4;wi hq36<|c0 Q (fun _=>cJ) fun u36=>fun hq36=>match u36,hq36 with | _,rfl=>have hq37:=rb hA5;wi hq37<|c1 Q (fun h=>bU (h.o 1 Q) (h.o 2 Q) (h.o 3 Q) (h.o 4 Q) (h.o 5 Q) (h.o 6 Q) (h.o 7 Q)) fun u37 s71=>fun hq37=>match u37,hq37 with | _,rfl=>sF Q<|Y8 5 4 Q<|fD Q Q<|eX (p:=(x44.2.1,x44.2.2,x32,x46.1,x46.2)) s71 [9,1,2,3,4,5,6,7,8,13,14,15,16,17,18,19,12,11,0,10] hG1 Q)) (have hq38:=rb hA3;wi hq38<|bZ 9 0 0 3 [] Q Q Q Q Q (fun h=>aD (c:=(⟨c.b,x30.2.1,x30.2.2⟩:aM)) (h.a h1)) fun u38 _=>fun hq38=>match u38,hq38 with | _,rfl=>have hq39:=rb hA4;wi hq39<|c0 Q (fun _=>cJ) fun u39=>fun hq39=>match u39,hq39 with | _,rfl=>have hq40:=rb hA5;wi hq40<|c1 Q (fun h=>bU (h.o 1 Q) (h.o 2 Q) (h.o 3 Q) (h.o 4 Q) (h.o 5 Q) (h.o 6 Q) (h.o 7 Q)) fun u40 s72=>fun hq40=>match u40,hq40 with | _,rfl=>sF Q<|Y8 5 4 Q<|fD Q Q<|eX (p:=(x44.2.1,x44.2.2,x32,x46.1,x46.2)) s72 [9,1,2,3,4,5,6,7,8,13,14,15,16,17,18,19,12,11,0,10] hG1 Q))) fun⟨x33,x34,x35,x36,x37⟩ ⟨s36,s37,s38,s39,s40,s41,s42⟩=>bN [72] Q Q (fun hG1=>WT Q aT Q Q Q Q fun s43=>ap 18 aT Q Q Q Q Q Q Q (fun h=>(h.o 20 Q)) Q Q hG1 fun hG1 s44=>wi hG1<|dL 0 7 (fun(p:Int×Int×aG×Mem)=>z7 x8 x9 x37 p.1 p.2.1 p.2.2.1 p.2.2.2) [0,4,6,7,8] (fun(p:Int×Int×aG×Mem) (u:U1)=>[(13,.p 6 0)]) [18,19] (fun p u=>([.box 0 [.h s1 c.b.length,I p.1,I p.2.1]]++(oB p.2.2.1 s36 s37 s38 s39 s40 s41 s42 ([.box 2 (gB p.2.2.1 s36 s37 s38 s39 s40 s41 s42)]++(zM p.2.2.2 u [.box 6 (yM p.2.2.2 u)]))))) Q (eY aC [8,16,17,19] Q<|fun hG1=>bd hG1 fun x42 hA1 hG1=>bd hG1 fun x43 hA2 hG1=>cY Q Q (have hq1:=rb hA1;wi hq1<|bZ 0 0 0 3 [] Q Q Q Q Q (fun h=>aD (c:=(⟨c.b,x33,x34⟩:aM)) (h.a h1)) fun u1 _=>fun hq1=>match u1,hq1 with | _,rfl=>cY Q Q (have hq2:=rb hA2;wi hq2<|c1 Q (fun h=>iB (h.o 9 Q) (h.o 10 Q) (h.o 11 Q) (h.o 12 Q)) fun u2 s50=>fun hq2=>match u2,hq2 with | _,rfl=>wi hG1<|fN (p:=(x42.2.1,x42.2.2,x36,x43.1)) s50 [0,9,10,11,12,13,14,15,8,21,22,23,24,25,18,19] Q Q) (have hq3:=rb hA2;wi hq3<|c1 Q (fun h=>iB (h.o 9 Q) (h.o 10 Q) (h.o 11 Q) (h.o 12 Q)) fun u3 s51=>fun hq3=>match u3,hq3 with | _,rfl=>wi hG1<|fN (p:=(x42.2.1,x42.2.2,x36,x43.1)) s51 [0,9,10,11,12,13,14,15,8,22,23,24,25,21,18,19] Q Q)) (have hq4:=rb hA1;wi hq4<|bZ 0 0 0 3 [] Q Q Q Q Q (fun h=>aD (c:=(⟨c.b,x33,x34⟩:aM)) (h.a h1)) fun u4 _=>fun hq4=>match u4,hq4 with | _,rfl=>have hq5:=rb hA2;wi hq5<|c1 Q (fun h=>iB (h.o 9 Q) (h.o 10 Q) (h.o 11 Q) (h.o 12 Q)) fun u5 s52=>fun hq5=>match u5,hq5 with | _,rfl=>wi hG1<|fN (p:=(x42.2.1,x42.2.2,x36,x43.1)) s52 [0,9,10,11,12,13,14,15,8,22,23,24,25,21,18,19] Q Q)) fun⟨x38,x39,x40,x41⟩ ⟨s45,s46,s47,s48⟩=>fN (p:=(x8++([x37.Out]),x38,x39,({x40 with Mem:=x41}:aG))) (s44,s45,s46,s47,s48,s40,s41,s42) [14,0,9,10,11,12,5,6,7,8,15] Q Q)<|fN (p:=(x8,x33,x34,x36)) (s12,s36,s37,s38,s39,s40,s41,s42) [18,0,9,10,11,12,13,14,15,8,19] Q Q)<|dL 0 4 (fun(p:Bool×aG)=>nY c x8 x9 x27 x29 x30 p.1 p.2) [0,4,6,7,8,9,10,34] (fun(p:Bool×aG) (_:Unit)=>[(90,.b p.1)]) [0,9,10] (fun p _=>(oB p.2 s13 s14 s15 s16 s17 s18 s19 [.box 2 (gB p.2 s13 s14 s15 s16 s17 s18 s19)])) Q (bN [90,91] Q Q (b8 (p:=(true,x32)) [1,2,3,4,5,6,7,8,0,9,10] Q Q)<|b8 (p:=(x30.1 == 5,x32)) [1,2,3,4,5,6,7,8,0,9,10] Q Q) fun⟨x47,x48⟩ _=>bN [90] Q Q (dL 0 4 (z9 x8 x9 x30) [0,4,6,7,8] (fun(x49:aG) (u:LP)=>[]) [8,9,10] (fun x49 u=>(zB x49 u [.box 2 (yB x49 u)])) Q (eY aC [9,10] Q<|fun hG1=>bd hG1 fun x50 hA6 hG1=>bd hG1 fun x51 hA7 hG1=>cY Q Q (have hq41:=rb hA6;wi hq41<|c0 Q (fun _=>cJ) fun u41=>fun hq41=>match u41,hq41 with | _,rfl=>have hq42:=rb hA7;wi hq42<|c1 Q (fun h=>bU (h.o 0 Q) (h.o 1 Q) (h.o 2 Q) (h.o 3 Q) (h.o 4 Q) (h.o 5 Q) (h.o 6 Q)) fun u42 s81=>fun hq42=>match u42,hq42 with | _,rfl=>wi hG1<|fN (p:=(x51.1)) s81 [11,12,13,14,15,16,17,7,8,9,10] Q Q) (have hq43:=rb hA6;wi hq43<|c0 Q (fun _=>cJ) fun u43=>fun hq43=>match u43,hq43 with | _,rfl=>have hq44:=rb hA7;wi hq44<|c1 Q (fun h=>bU (h.o 0 Q) (h.o 1 Q) (h.o 2 Q) (h.o 3 Q) (h.o 4 Q) (h.o 5 Q) (h.o 6 Q)) fun u44 s82=>fun hq44=>match u44,hq44 with | _,rfl=>wi hG1<|fN (p:=(x51.1)) s82 [11,12,13,14,15,16,17,7,8,9,10] Q Q)) fun x49 ⟨s73,s74,s75,s76,s77,s78,s79⟩=>fN (p:=(x8,x30.2.1,x30.2.2,x49)) (s12,s73,s74,s75,s76,s77,s78,s79) [8,9,0,1,2,3,4,5,6,7,10] Q Q)<|dL 0 4 (fun(p:Bool×aG)=>nX c x8 x9 x27 x29 x30 p.1 p.2) [0,4,6,7,8,9,10,34] (fun(p:Bool×aG) (_:Unit)=>[(101,.b p.1)]) [8,9,10] (fun p _=>(oB p.2 s13 s14 s15 s16 s17 s18 s19 [.box 2 (gB p.2 s13 s14 s15 s16 s17 s18 s19)])) Q (bN [101,102] Q Q (b8 (p:=(true,x48)) [0,1,2,3,4,5,6,7,8,9,10] Q Q)<|b8 (p:=(x30.1 == 7,x48)) [0,1,2,3,4,5,6,7,8,9,10] Q Q) fun⟨x52,x53⟩ _=>bN [101] Q Q (dL 0 4 (xL x8 x9 x30) [0,4,6,7,8] (fun(x54:aG) (u:LP)=>[]) [8,9,10] (fun x54 u=>(zB x54 u [.box 2 (yB x54 u)])) Q (eY aC [9,10] Q<|fun hG1=>bd hG1 fun x55 hA8 hG1=>bd hG1 fun x56 hA9 hG1=>cY Q Q (have hq45:=rb hA8;wi hq45<|c0 Q (fun _=>cJ) fun u45=>fun hq45=>match u45,hq45 with | _,rfl=>have hq46:=rb hA9;wi hq46<|c1 Q (fun h=>bU (h.o 0 Q) (h.o 1 Q) (h.o 2 Q) (h.o 3 Q) (h.o 4 Q) (h.o 5 Q) (h.o 6 Q)) fun u46 s91=>fun hq46=>match u46,hq46 with | _,rfl=>wi hG1<|fN (p:=(x56.1)) s91 [11,12,13,14,15,16,17,7,8,9,10] Q Q) (have hq47:=rb hA8;wi hq47<|c0 Q (fun _=>cJ) fun u47=>fun hq47=>match u47,hq47 with | _,rfl=>have hq48:=rb hA9;wi hq48<|c1 Q (fun h=>bU (h.o 0 Q) (h.o 1 Q) (h.o 2 Q) (h.o 3 Q) (h.o 4 Q) (h.o 5 Q) (h.o 6 Q)) fun u48 s92=>fun hq48=>match u48,hq48 with | _,rfl=>wi hG1<|fN (p:=(x56.1)) s92 [11,12,13,14,15,16,17,7,8,9,10] Q Q)) fun x54 ⟨s83,s84,s85,s86,s87,s88,s89⟩=>fN (p:=(x8,x30.2.1,x30.2.2,x54)) (s12,s83,s84,s85,s86,s87,s88,s89) [8,9,0,1,2,3,4,5,6,7,10] Q Q)<|bN [111,112] Q Q (dL 0 4 (xM x8 x9 x30) [0,4,6,7,8] (fun(x57:aG) (u:LP)=>[]) [8,9,10] (fun x57 u=>(zB x57 u [.box 2 (yB x57 u)])) Q (eY aC [9,10] Q<|fun hG1=>bd hG1 fun x58 hA10 hG1=>bd hG1 fun x59 hA11 hG1=>cY Q Q (have hq49:=rb hA10;wi hq49<|c0 Q (fun _=>cJ) fun u49=>fun hq49=>match u49,hq49 with | _,rfl=>have hq50:=rb hA11;wi hq50<|c1 Q (fun h=>bU (h.o 0 Q) (h.o 1 Q) (h.o 2 Q) (h.o 3 Q) (h.o 4 Q) (h.o 5 Q) (h.o 6 Q)) fun u50 s101=>fun hq50=>match u50,hq50 with | _,rfl=>wi hG1<|fN (p:=(x59.1)) s101 [11,12,13,14,15,16,17,7,8,9,10] Q Q) (have hq51:=rb hA10;wi hq51<|c0 Q (fun _=>cJ) fun u51=>fun hq51=>match u51,hq51 with | _,rfl=>have hq52:=rb hA11;wi hq52<|c1 Q (fun h=>bU (h.o 0 Q) (h.o 1 Q) (h.o 2 Q) (h.o 3 Q) (h.o 4 Q) (h.o 5 Q) (h.o 6 Q)) fun u52 s102=>fun hq52=>match u52,hq52 with | _,rfl=>wi hG1<|fN (p:=(x59.1)) s102 [11,12,13,14,15,16,17,7,8,9,10] Q Q)) fun x57 ⟨s93,s94,s95,s96,s97,s98,s99⟩=>fN (p:=(x8,x30.2.1,x30.2.2,x57)) (s12,s93,s94,s95,s96,s97,s98,s99) [8,9,0,1,2,3,4,5,6,7,10] Q Q)<|bN [120,121] Q Q (dL 0 4 (xN x8 x9 x30) [0,4,6,7,8] (fun(x60:aG) (u:LP)=>[]) [8,9,10] (fun x60 u=>(zB x60 u [.box 2 (yB x60 u)])) Q (eY aC [9,10] Q<|fun hG1=>bd hG1 fun x61 hA12 hG1=>bd hG1 fun x62 hA13 hG1=>cY Q Q (have hq53:=rb hA12;wi hq53<|c0 Q (fun _=>cJ) fun u53=>fun hq53=>match u53,hq53 with | _,rfl=>have hq54:=rb hA13;wi hq54<|c1 Q (fun h=>bU (h.o 0 Q) (h.o 1 Q) (h.o 2 Q) (h.o 3 Q) (h.o 4 Q) (h.o 5 Q) (h.o 6 Q)) fun u54 s111=>fun hq54=>match u54,hq54 with | _,rfl=>wi hG1<|fN (p:=(x62.1)) s111 [11,12,13,14,15,16,17,7,8,9,10] Q Q) (have hq55:=rb hA12;wi hq55<|c0 Q (fun _=>cJ) fun u55=>fun hq55=>match u55,hq55 with | _,rfl=>have hq56:=rb hA13;wi hq56<|c1 Q (fun h=>bU (h.o 0 Q) (h.o 1 Q) (h.o 2 Q) (h.o 3 Q) (h.o 4 Q) (h.o 5 Q) (h.o 6 Q)) fun u56 s112=>fun hq56=>match u56,hq56 with | _,rfl=>wi hG1<|fN (p:=(x62.1)) s112 [11,12,13,14,15,16,17,7,8,9,10] Q Q)) fun x60 ⟨s103,s104,s105,s106,s107,s108,s109⟩=>fN (p:=(x8,x30.2.1,x30.2.2,x60)) (s12,s103,s104,s105,s106,s107,s108,s109) [8,9,0,1,2,3,4,5,6,7,10] Q Q)<|bN [129,130] Q Q (c1 Q (fun h=>M5 (h.o 4 Q)) fun x63 s113=>fN (p:=(x8,x30.2.1,x30.2.2,({x53 with aK:=x63.1}:aG))) (s12,s13,s14,s15,s16,s113,s18,s19) [8,9,0,1,2,3,11,5,6,7,10] Q Q)<|c1 Q (fun h=>I0 (h.o 6 Q)) fun x64 s114=>bZ 9 0 0 3 [] Q Q Q Q Q (fun h=>sJ (c:=(⟨c.b,x30.2.1,x30.2.2⟩:aM)) (h.a h1)) fun x65 _=>bN [45] Q Q (c1 Q (fun h=>YE (h.o 11 Q)) fun x66 s115=>fN (p:=(x8,x65.2.1,x65.2.2,({x53 with nZ:=x66.1}:aG))) (s12,s13,s14,s15,s16,s17,s18,s115) [8,9,0,1,2,3,4,5,12,7,10] Q Q)<|fN (p:=(x8,x65.2.1,x65.2.2,({x53 with nZ:=x64.1}:aG))) (s12,s13,s14,s15,s16,s17,s18,s114) [8,9,0,1,2,3,4,5,11,7,10] Q Q) fun⟨x23,x24,x25,x26⟩ ⟨s28,s29,s30,s31,s32,s33,s34,s35⟩=>Q9 (s28,s29,s30,s31,s32,s33,s34,s35) [0,1,2,3,4,5,6,7,8,9,10] Q)<|SI (s12,s13,s14,s15,s16,s17,s18,s19) [0,1,2,3,4,5,6,7,8,9,10] Q) fun⟨x13,x14,x15,x16⟩ ⟨s20,s21,s22,s23,s24,s25,s26,s27⟩=>dL 0 3 (fun(p:Int×Int×Int×aG)=>z6 p.1 p.2.1 p.2.2.1 p.2.2.2) [0,4] (fun(p:Int×Int×Int×aG) (_:Unit)=>[(5,I p.1)]) [] (fun p _=>([.box 0 [.h s1 c.b.length,I p.2.1,I p.2.2.1]]++(oB p.2.2.2 s21 s22 s23 s24 s25 s26 s27 [.box 1 (gB p.2.2.2 s21 s22 s23 s24 s25 s26 s27)]))) Q (eY aC [9] Q<|bZ 1 0 0 3 [] Q Q Q Q Q (fun h=>aD (c:=(⟨c.b,x14,x15⟩:aM)) (h.a h1)) fun x21 _=>jI oI 0 Q Q Q fun x22 h2 _ h3=>fun hF=>eV 3 h3 h2 Q Q Q Q Q<|cY Q Q (sF Q<|fF oI 11 [] h2 () Q Q Q Q Q Q Q<|eX (p:=(x22,x21.2.1,x21.2.2,x16)) () [1,2,3,4,5,6,7,8,10] hF Q) (sF Q<|fF oI 11 [] h2 () Q Q Q Q Q Q Q<|eX (p:=(x22,x21.2.1,x21.2.2,x16)) () [1,2,3,4,5,6,7,8,10] hF Q)) fun⟨x17,x18,x19,x20⟩ _=>eB (s21,s22,s23,s24,s25,s26,s27) [0,1,2,3,4,5,6,7] Q Q
theorem tM{c:aM}{s1:AC}{b0:Nat×Nat}(h1:bS κ s1 c.b):VS Tryz.prog κ 174 (oK c) [.p 0 0] [b0] [.box 0 [.h s1 c.b.length,I c.i,I c.h]] (fun(r:Int×(Int×Int)) (y:Unit)=>I r.1) (fun(r:Int×(Int×Int)) (y:Unit)=>[.box 0 [.h s1 c.b.length,I r.2.1,I r.2.2]]):=
 cM tok Tryz.call174 Tryz.func174 Tryz.results174 Q Q<|bZ 0 0 0 3 [] Q Q Q Q Q (fun h=>sJ (h.a h1)) fun x1 _=>bN [4] Q Q (fun hF=>ltK oI () ([0,(-1),31,32,55,56,63,64,192,215,216,223,224]:List Int) aT Q Q Q Q Q Q Q Q Q Q (fun _=>Q) fun s2=>wi hF<|bZ 0 0 0 3 [] Q Q Q Q Q (fun h=>d8 (c:=(⟨c.b,x1.2.1,x1.2.2⟩:aM)) (h.a h1) (h.o 1 Q Q)) fun x2 _=>eB () [0] Q Q)<|bZ 0 0 0 3 [] Q Q Q Q Q (fun h=>aD (c:=(⟨c.b,x1.2.1,x1.2.2⟩:aM)) (h.a h1)) fun x3 _=>bZ 0 0 0 3 [] Q Q Q Q Q (fun h=>aD (c:=(⟨c.b,x3.2.1,x3.2.2⟩:aM)) (h.a h1)) fun x4 _=>c0 Q (fun _=>AF) fun x5=>eB () [0] Q Q
theorem T2{l:aA}{w_ c:Int}{s1 s2:AC}(h1:bS κ s1 l.Global)(h2:bS κ s2 l.bD):VS Tryz.prog κ 145 (BH l w_ c) [.g [.h s1 l.Global.length,.h s2 l.bD.length],I w_,I c] [] [] (fun r (y:AC×AC)=>.t [.g [.h y.1 r.1.Global.length,.h y.2 r.1.bD.length],I r.2]) (fun r y=>[ow y.1 r.1.Global,ow y.2 r.1.bD]):=
 cM tok Tryz.call145 Tryz.func145 Tryz.results145 Q Q<|c1 Q (fun h=>yX (h.a h1) (h.a h2)) fun x1 s3=>c0 Q (fun _=>wL) fun x2=>dF 0 3 (tI x1 x2) [6,8,9] 23 [1,2,3,4] Q (c0 Q (fun h=>wJ (h.a h1) (h.a h2)) fun x6=>dZ [19,20] Q Q (b8 [1,2,3,4] Q Q)<|b8 [1,2,3,4] Q Q) fun x3=>bN [23] Q Q (eB (s3.1,s3.2) [1,2] Q Q)<|jI cW 2 Q Q Q fun x4 h3 s4 h4=>fun hF=>eV 3 h4 h3 Q Q Q Q Q<|wi hF<|o4 [7] Q Q Q Q (fun _=>BM) fun x5 s5=>fun hF=>eV 3 h4 h3 Q Q Q Q Q<|sR Q<|uW cW 4 [8] [27,35] x5.1 s5 Q Q Q Q Q Q Q Q<|C4 s3.2 List.length_set.symm [(39,1)] [(0,1),(3,1)] Q Q Q<|fR Q Q<|J0 (hT:=tok) (s3.1,s3.2) [1,10] hF Q Tryz.results145 Q Q Q Q
theorem NA{l:aA}{c:Int}{s1 s2:AC}(h1:bS κ s1 l.Global)(h2:bS κ s2 l.bD):VS Tryz.prog κ 146 (tJ l c) [.g [.h s1 l.Global.length,.h s2 l.bD.length],I c] [] [] (fun r (y:AC×AC)=>.t [.g [.h y.1 r.1.Global.length,.h y.2 r.1.bD.length],I r.2]) (fun r y=>[ow y.1 r.1.Global,ow y.2 r.1.bD]):=
 cM tok Tryz.call146 Tryz.func146 Tryz.results146 Q Q<|c1 Q (fun h=>yX (h.a h1) (h.a h2)) fun x1 s3=>dF 0 3 (nH c x1) [1,4,6] 18 [1,2,3,4] Q (c0 Q (fun h=>wJ (h.a h1) (h.a h2)) fun x5=>dZ [13,14] Q Q (b8 [1,2,3,4] Q Q)<|c0 Q (fun _=>a8) fun x6=>b8 [1,2,3,4] Q Q) fun x2=>bN [18] Q Q (eB (s3.1,s3.2) [1,2] Q Q)<|jI cW 1 Q Q Q fun x3 h3 s4 h4=>fun hF=>eV 3 h4 h3 Q Q Q Q Q<|wi hF<|o4 [7] Q Q Q Q (fun _=>BM) fun x4 s5=>fun hF=>eV 3 h4 h3 Q Q Q Q Q<|sR Q<|uW cW 4 [8] [22,30] x4.1 s5 Q Q Q Q Q Q Q Q<|C4 s3.1 List.length_set.symm [(34,0)] [(0,0),(3,0)] Q Q Q<|fR Q Q<|J0 (hT:=tok) (s3.1,s3.2) [10,2] hF Q Tryz.results146 Q Q Q Q
theorem tN{m:Mem}{w_ size:Int}{s1 s2 s3 s4:AC}(h1:bS κ s1 m.aB.Bytes)(h2:bS κ s2 m.aB.Class)(h3:bS κ s3 m.aA.Global)(h4:bS κ s4 m.aA.bD):VS Tryz.prog κ 60 (yN m w_ size) [.g (gM m s1 s2 s3 s4),I w_,I size] [] [] (fun r (y:U1)=>.t [.g (yM r.1 y),I r.2.1,I r.2.2]) (fun r y=>(zM r.1 y [])):=
 cM tok Tryz.call60 Tryz.func60 Tryz.results60 Q Q<|c1 Q (fun h=>yY (h.a h1) (h.a h2) (h.a h3) (h.a h4)) fun x1 s5=>c0 Q (fun _=>IW) fun x2=>dL 0 3 (fun(p:Bool×Mem)=>q6 w_ x2 p.1 p.2) [1,6,9,10] (fun(p:Bool×Mem) (_:Unit)=>[(24,.b p.1)]) [1] (fun p _=>(zM p.2 s5 [.box 2 (yM p.2 s5)])) Q (c0 Q (fun h=>wM (h.a h1) (h.a h2) (h.a h3) (h.a h4)) fun x15=>dZ [19,20] Q Q (b8 (p:=(true,x1)) [2,3,4,5,6,1] Q Q)<|c0 Q (fun _=>a8) fun x16=>b8 (p:=(!x16,x1)) [2,3,4,5,6,1] Q Q) fun⟨x3,x4⟩ _=>bN [24] Q Q (eB s5 [0,1,2,3] Q Q)<|bN [27] Q Q (eB s5 [0,1,2,3] Q Q)<|c1 Q (fun h=>T2 (h.o 2 Q) (h.o 3 Q)) fun x5 s6=>dL 0 4 (fun(p:Int×Mem×(List aE)×(List aE))=>mH x2 p.1 p.2.1 p.2.2.1 p.2.2.2) [6,9,10,11] (fun(p:Int×Mem×(List aE)×(List aE)) (u:AC×AC)=>[(12,I p.1)]) [5] (fun p u=>(zM p.2.1 s5 [.box 2 (yM p.2.1 s5),ow u.1 (p.2.2.1:List aE),ow u.2 (p.2.2.2:List aE),.box 3 [.h u.1 p.2.2.1.length,.h u.2 p.2.2.2.length]])) Q (bN [38] Q Q (c1 Q (fun h=>NA (h.o 6 Q) (h.o 7 Q)) fun x14 s14=>fN (p:=(x14.2,x4,x14.1.Global,x14.1.bD)) (s14.1,s14.2) [0,1,2,3,4,9,10,8,5] Q Q)<|fN (p:=(x5.2,x4,x5.1.Global,x5.1.bD)) (s6.1,s6.2) [0,1,2,3,4,6,7,8,5] Q Q) fun⟨x6,x7,x8,x9⟩ ⟨s7,s8⟩=>dL 0 4 (fun(p:Int×Mem)=>mG p.1 p.2) [6,9] (fun(p:Int×Mem) (u:U1)=>[(12,I p.1)]) [8] (fun p u=>(zM p.2 u [.box 2 (yM p.2 u)])) Q (bN [48] Q Q (o4 [0,1,5,6] Q Q Q Q (fun _=>IY (m:=(⟨x7.aB,(⟨x8,x9⟩:aA)⟩:Mem))) fun x13 s13=>fN (p:=(x13.2,x13.1)) s13 [9,10,11,12,4,8] Q Q)<|fN (p:=(x6,(⟨x7.aB,(⟨x8,x9⟩:aA)⟩:Mem))) (s5.1,s5.2.1,s7,s8) [0,1,5,6,4,8] Q Q) fun⟨x10,x11⟩ ⟨s9,s10,s11,s12⟩=>bN [56] Q Q (eB (s9,s10,s11,s12) [0,1,2,3] Q Q)<|eY aC [4] Q<|c0 Q (fun h=>G9 (h.o 0 Q) (h.o 1 Q) (h.o 2 Q) (h.o 3 Q)) fun x12=>eB (s9,s10,s11,s12) [0,1,2,3] Q Q
theorem qD{m:Mem}{w_ h:Int}{s1 s2 s3 s4:AC}(h1:bS κ s1 m.aB.Bytes)(h2:bS κ s2 m.aB.Class)(h3:bS κ s3 m.aA.Global)(h4:bS κ s4 m.aA.bD):VS Tryz.prog κ 416 (BI m w_ h) [.g (gM m s1 s2 s3 s4),I w_,I h] [] [] (fun r (y:U1)=>.t [.g (yM r.1 y),I r.2]) (fun r y=>(zM r.1 y [])):=
 cM tok Tryz.call416 Tryz.func416 Tryz.results416 Q Q<|c1 Q (fun h=>yY (h.a h1) (h.a h2) (h.a h3) (h.a h4)) fun x1 s5=>dL 0 3 (fun(p:Bool×Mem)=>tK m w_ h p.1 p.2) [1,2,3,6,8] (fun(p:Bool×Mem) (_:Unit)=>[(18,.b p.1)]) [0,1] (fun p _=>(zM p.2 s5 [.box 2 (yM p.2 s5)])) Q (c0 Q (fun h=>wM (h.a h1) (h.a h2) (h.a h3) (h.a h4)) fun x7=>dZ [13,14] Q Q (b8 (p:=(true,x1)) [2,3,4,5,6,0,1] Q Q)<|c0 Q (fun _=>a8) fun x8=>b8 (p:=(!x8,x1)) [2,3,4,5,6,0,1] Q Q) fun⟨x2,x3⟩ _=>bN [18] Q Q (eB s5 [0,1,2,3] Q Q)<|c0 Q (fun h=>qA (h.a h1) (h.a h2) (h.a h3) (h.a h4)) fun x4=>bN [23] Q Q (eB s5 [0,1,2,3] Q Q)<|eY aC [4,5] Q<|c0 Q (fun _=>eD) fun x5=>o4 [0,1,2,3] Q Q Q Q (fun _=>EI) fun x6 s6=>eB s6 [7,8,9,10] Q Q
theorem V5{c:aM}{most:Int}{s1:AC}{b0:Nat×Nat}(h1:bS κ s1 c.b):VS Tryz.prog κ 343 (DO c most) [.p 0 0,I most] [b0] [.box 0 [.h s1 c.b.length,I c.i,I c.h]] (fun(r:Mem×Int×(Int×Int)) (y:AC×AC×AC×AC)=>.t [.g [.h y.1 r.1.aB.Bytes.length,.h y.2.1 r.1.aB.Class.length,.h y.2.2.1 r.1.aA.Global.length,.h y.2.2.2 r.1.aA.bD.length],I r.2.1]) (fun(r:Mem×Int×(Int×Int)) (y:AC×AC×AC×AC)=>[.box 0 [.h s1 c.b.length,I r.2.2.1,I r.2.2.2],ow y.1 r.1.aB.Bytes,ow y.2.1 r.1.aB.Class,ow y.2.2.1 r.1.aA.Global,ow y.2.2.2 r.1.aA.bD]):=
 cM tok Tryz.call343 Tryz.func343 Tryz.results343 Q Q<|c1 Q (fun _=>K5) fun x1 s2=>fun hF=>WT Q aT Q Q Q Q fun s3=>wi hF<|bZ 0 0 0 3 [] Q Q Q Q Q (fun h=>aD (h.a h1)) fun x2 _=>J1 (s3,s2.1,s2.2.1,s2.2.2.1,s2.2.2.2) [0,4,6] (fun(p:(List Int)×Int×Int×Int×Mem) (u:AC×AC×AC×AC×AC)=>[(7,.h u.1 p.1.length),(8,I p.2.1)]) [7,0,2,3,4,5,6,1] [1] (fun p u=>[ow u.1 (p.1:List Int),.box 0 [.h s1 c.b.length,I p.2.2.1,I p.2.2.2.1],ow u.2.1 (p.2.2.2.2.aB.Bytes:List Int),ow u.2.2.1 (p.2.2.2.2.aB.Class:List Int),ow u.2.2.2.1 (p.2.2.2.2.aA.Global:List aE),ow u.2.2.2.2 (p.2.2.2.2.aA.bD:List aE),.box 2 [.h u.2.1 p.2.2.2.2.aB.Bytes.length,.h u.2.2.1 p.2.2.2.2.aB.Class.length,.h u.2.2.2.1 p.2.2.2.2.aA.Global.length,.h u.2.2.2.2 p.2.2.2.2.aA.bD.length]]) id [0,4,6] (fun(p:(List Int)×Int×Int×Mem) (u:AC×AC×AC×AC×AC)=>[(7,.h u.1 p.1.length)]) [1] (fun p u=>[ow u.1 (p.1:List Int),.box 0 [.h s1 c.b.length,I p.2.1,I p.2.2.1],ow u.2.1 (p.2.2.2.aB.Bytes:List Int),ow u.2.2.1 (p.2.2.2.aB.Class:List Int),ow u.2.2.2.1 (p.2.2.2.aA.Global:List aE),ow u.2.2.2.2 (p.2.2.2.aA.bD:List aE),.box 2 [.h u.2.1 p.2.2.2.aB.Bytes.length,.h u.2.2.1 p.2.2.2.aB.Class.length,.h u.2.2.2.1 p.2.2.2.aA.Global.length,.h u.2.2.2.2 p.2.2.2.aA.bD.length]]) Q Q (fun hF1 ⟨x8,x9,x10,x11,x12⟩ ⟨s9,s10,s11,s12,s13⟩ hr1=>bN [22] Q Q (dL 3 3 (fun(p:(List Int)×Int×Int×Mem)=>mI x9 p.1 p.2.1 p.2.2.1 p.2.2.2) [0,4,6,8] (fun(p:(List Int)×Int×Int×Mem) (u:AC×AC×AC×AC×AC)=>[(7,.h u.1 p.1.length)]) [7] (fun p u=>[ow u.1 (p.1:List Int),.box 0 [.h s1 c.b.length,I p.2.1,I p.2.2.1],ow u.2.1 (p.2.2.2.aB.Bytes:List Int),ow u.2.2.1 (p.2.2.2.aB.Class:List Int),ow u.2.2.2.1 (p.2.2.2.aA.Global:List aE),ow u.2.2.2.2 (p.2.2.2.aA.bD:List aE),.box 2 [.h u.2.1 p.2.2.2.aB.Bytes.length,.h u.2.2.1 p.2.2.2.aB.Class.length,.h u.2.2.2.1 p.2.2.2.aA.Global.length,.h u.2.2.2.2 p.2.2.2.aA.bD.length]]) Q (dL 0 3 (fun(p:Bool×Int×Int×Mem)=>pY c x8 x9 p.1 p.2.1 p.2.2.1 p.2.2.2) [0,4,6,7,8] (fun(p:Bool×Int×Int×Mem) (_:Unit)=>[(31,.b p.1)]) [0,7] (fun p _=>[.box 0 [.h s1 c.b.length,I p.2.1,I p.2.2.1],ow s10 (p.2.2.2.aB.Bytes:List Int),ow s11 (p.2.2.2.aB.Class:List Int),ow s12 (p.2.2.2.aA.Global:List aE),ow s13 (p.2.2.2.aA.bD:List aE),.box 2 [.h s10 p.2.2.2.aB.Bytes.length,.h s11 p.2.2.2.aB.Class.length,.h s12 p.2.2.2.aA.Global.length,.h s13 p.2.2.2.aA.bD.length]]) Q (bZ 1 0 0 3 [] Q Q Q Q Q (fun h=>sJ (c:=(⟨c.b,x10,x11⟩:aM)) (h.a h1)) fun x56 _=>dZ [26,27] Q Q (b8 (p:=(decide (1 < (x8.length:Int)),x56.2.1,x56.2.2,x12)) [1,2,3,4,5,6,0,7] Q Q)<|b8 (p:=(false,x56.2.1,x56.2.2,x12)) [1,2,3,4,5,6,0,7] Q Q) fun⟨x27,x28,x29,x30⟩ _=>bN [31] Q Q (dL 0 5 (fun(p:Int×Int×Mem×Mem)=>B7 x8 x9 p.1 p.2.1 p.2.2.1 p.2.2.2) [0,4,6,7,8] (fun(p:Int×Int×Mem×Mem) (u:AC×AC×AC×AC)=>[(9,.p 4 0)]) [6,7] (fun p u=>[.box 0 [.h s1 c.b.length,I p.1,I p.2.1],ow s10 (p.2.2.1.aB.Bytes:List Int),ow s11 (p.2.2.1.aB.Class:List Int),ow s12 (p.2.2.1.aA.Global:List aE),ow s13 (p.2.2.1.aA.bD:List aE),.box 2 [.h s10 p.2.2.1.aB.Bytes.length,.h s11 p.2.2.1.aB.Class.length,.h s12 p.2.2.1.aA.Global.length,.h s13 p.2.2.1.aA.bD.length],ow u.1 (p.2.2.2.aB.Bytes:List Int),ow u.2.1 (p.2.2.2.aB.Class:List Int),ow u.2.2.1 (p.2.2.2.aA.Global:List aE),ow u.2.2.2 (p.2.2.2.aA.bD:List aE),.box 4 [.h u.1 p.2.2.2.aB.Bytes.length,.h u.2.1 p.2.2.2.aB.Class.length,.h u.2.2.1 p.2.2.2.aA.Global.length,.h u.2.2.2 p.2.2.2.aA.bD.length]]) Q (eY aC [5,7] Q<|fun hG1=>bd hG1 fun x35 hA1 hG1=>bd hG1 fun x36 hA2 hG1=>bd hG1 fun x37 hA3 hG1=>bd hG1 fun x38 hA4 hG1=>cY Q Q (have hq1:=rb hA1;wi hq1<|bZ 0 0 0 3 [] Q Q Q Q Q (fun h=>aD (c:=(⟨c.b,x28,x29⟩:aM)) (h.a h1)) fun u1 _=>fun hq1=>match u1,hq1 with | _,rfl=>cY Q Q (have hq2:=rb hA2;wi hq2<|bZ 0 0 0 3 [] Q Q Q Q Q (fun h=>aD (c:=(⟨c.b,x35.2.1,x35.2.2⟩:aM)) (h.a h1)) fun u2 _=>fun hq2=>match u2,hq2 with | _,rfl=>have hq3:=rb hA3;wi hq3<|jI oI 6 Q Q Q fun u3 h6 _ h7=>fun hq3=>eV 3 h7 h6 Q Q Q Q Q<|match u3,hq3 with | _,rfl=>cY Q Q (cY Q Q (have hq4:=rb hA4;wi hq4<|c1 Q (fun h=>qD (h.o 1 Q) (h.o 2 Q) (h.o 3 Q) (h.o 4 Q)) fun u4 s29=>fun hq4=>match u4,hq4 with | _,rfl=>sF Q<|fF oI 8 [] h6 () Q Q Q Q Q Q Q<|eX (p:=(x36.2.1,x36.2.2,x30,x38.1)) (s29.1,s29.2.1,s29.2.2.1,s29.2.2.2) [0,1,2,3,4,5,11,12,13,14,15,16,7] hG1 Q) (have hq5:=rb hA4;wi hq5<|c1 Q (fun h=>qD (h.o 1 Q) (h.o 2 Q) (h.o 3 Q) (h.o 4 Q)) fun u5 s30=>fun hq5=>match u5,hq5 with | _,rfl=>sF Q<|fF oI 8 [] h6 () Q Q Q Q Q Q Q<|eX (p:=(x36.2.1,x36.2.2,x30,x38.1)) (s30.1,s30.2.1,s30.2.2.1,s30.2.2.2) [0,1,2,3,4,5,12,13,14,15,11,16,7] hG1 Q)) (have hq6:=rb hA4;wi hq6<|c1 Q (fun h=>qD (h.o 1 Q) (h.o 2 Q) (h.o 3 Q) (h.o 4 Q)) fun u6 s31=>fun hq6=>match u6,hq6 with | _,rfl=>sF Q<|fF oI 8 [] h6 () Q Q Q Q Q Q Q<|eX (p:=(x36.2.1,x36.2.2,x30,x38.1)) (s31.1,s31.2.1,s31.2.2.1,s31.2.2.2) [0,1,2,3,4,5,12,13,14,15,11,16,7] hG1 Q)) (have hq7:=rb hA2;wi hq7<|bZ 0 0 0 3 [] Q Q Q Q Q (fun h=>aD (c:=(⟨c.b,x35.2.1,x35.2.2⟩:aM)) (h.a h1)) fun u7 _=>fun hq7=>match u7,hq7 with | _,rfl=>have hq8:=rb hA3;wi hq8<|jI oI 6 Q Q Q fun u8 h8 _ h9=>fun hq8=>eV 4 h9 h8 Q Q Q Q Q<|match u8,hq8 with | _,rfl=>have hq9:=rb hA4;wi hq9<|c1 Q (fun h=>qD (h.o 1 Q) (h.o 2 Q) (h.o 3 Q) (h.o 4 Q)) fun u9 s32=>fun hq9=>match u9,hq9 with | _,rfl=>sF Q<|Y8 4 3 Q<|fD Q Q<|fF oI 9 [] h8 () Q Q Q Q Q Q Q<|eX (p:=(x36.2.1,x36.2.2,x30,x38.1)) (s32.1,s32.2.1,s32.2.2.1,s32.2.2.2) [0,1,2,3,4,5,12,13,14,15,8,16,7] hG1 Q)) (have hq10:=rb hA1;wi hq10<|bZ 0 0 0 3 [] Q Q Q Q Q (fun h=>aD (c:=(⟨c.b,x28,x29⟩:aM)) (h.a h1)) fun u10 _=>fun hq10=>match u10,hq10 with | _,rfl=>have hq11:=rb hA2;wi hq11<|bZ 0 0 0 3 [] Q Q Q Q Q (fun h=>aD (c:=(⟨c.b,x35.2.1,x35.2.2⟩:aM)) (h.a h1)) fun u11 _=>fun hq11=>match u11,hq11 with | _,rfl=>have hq12:=rb hA3;wi hq12<|jI oI 6 Q Q Q fun u12 h10 _ h11=>fun hq12=>eV 4 h11 h10 Q Q Q Q Q<|match u12,hq12 with | _,rfl=>have hq13:=rb hA4;wi hq13<|c1 Q (fun h=>qD (h.o 1 Q) (h.o 2 Q) (h.o 3 Q) (h.o 4 Q)) fun u13 s33=>fun hq13=>match u13,hq13 with | _,rfl=>sF Q<|Y8 4 3 Q<|fD Q Q<|fF oI 9 [] h10 () Q Q Q Q Q Q Q<|eX (p:=(x36.2.1,x36.2.2,x30,x38.1)) (s33.1,s33.2.1,s33.2.2.1,s33.2.2.2) [0,1,2,3,4,5,12,13,14,15,8,16,7] hG1 Q)) fun⟨x31,x32,x33,x34⟩ ⟨s24,s25,s26,s27⟩=>fN (p:=(x8,x31,x32,x34)) (s9,s24,s25,s26,s27) [11,0,6,7,8,9,5,12] Q Q)<|dL 0 4 (fun(p:Int×Int×Int×Int×Mem×Mem)=>B9 c x8 x9 p.1 p.2.1 p.2.2.1 p.2.2.2.1 p.2.2.2.2.1 p.2.2.2.2.2) [0,4,6,7,8] (fun(p:Int×Int×Int×Int×Mem×Mem) (u:AC×AC×AC×AC)=>[(11,.p 3 0),(12,I p.1),(13,I p.2.1)]) [6,7] (fun p u=>[.box 0 [.h s1 c.b.length,I p.2.2.1,I p.2.2.2.1],ow s10 (p.2.2.2.2.1.aB.Bytes:List Int),ow s11 (p.2.2.2.2.1.aB.Class:List Int),ow s12 (p.2.2.2.2.1.aA.Global:List aE),ow s13 (p.2.2.2.2.1.aA.bD:List aE),.box 2 [.h s10 p.2.2.2.2.1.aB.Bytes.length,.h s11 p.2.2.2.2.1.aB.Class.length,.h s12 p.2.2.2.2.1.aA.Global.length,.h s13 p.2.2.2.2.1.aA.bD.length],ow u.1 (p.2.2.2.2.2.aB.Bytes:List Int),ow u.2.1 (p.2.2.2.2.2.aB.Class:List Int),ow u.2.2.1 (p.2.2.2.2.2.aA.Global:List aE),ow u.2.2.2 (p.2.2.2.2.2.aA.bD:List aE),.box 3 [.h u.1 p.2.2.2.2.2.aB.Bytes.length,.h u.2.1 p.2.2.2.2.2.aB.Class.length,.h u.2.2.1 p.2.2.2.2.2.aA.Global.length,.h u.2.2.2 p.2.2.2.2.2.aA.bD.length]]) Q (eY aC [5,7] Q<|fun hG1=>bd hG1 fun x53 hA9 hG1=>bd hG1 fun x54 hA10 hG1=>bd hG1 fun x55 hA11 hG1=>cY Q Q (have hq28:=rb hA9;wi hq28<|bZ 0 0 0 3 [] Q Q Q Q Q (fun h=>aD (c:=(⟨c.b,x28,x29⟩:aM)) (h.a h1)) fun u28 _=>fun hq28=>match u28,hq28 with | _,rfl=>cY Q Q (have hq29:=rb hA10;wi hq29<|bZ 0 0 0 3 [] Q Q Q Q Q (fun h=>aD (c:=(⟨c.b,x53.2.1,x53.2.2⟩:aM)) (h.a h1)) fun u29 _=>fun hq29=>match u29,hq29 with | _,rfl=>cY Q Q (have hq30:=rb hA11;wi hq30<|c1 Q (fun h=>tN (h.o 1 Q) (h.o 2 Q) (h.o 3 Q) (h.o 4 Q)) fun u30 s51=>fun hq30=>match u30,hq30 with | _,rfl=>wi hG1<|fN (p:=(x55.2.1,x55.2.2,x54.2.1,x54.2.2,x30,x55.1)) (s51.1,s51.2.1,s51.2.2.1,s51.2.2.2) [0,1,2,3,4,5,8,9,10,11,12,6,7] Q Q) (have hq31:=rb hA11;wi hq31<|c1 Q (fun h=>tN (h.o 1 Q) (h.o 2 Q) (h.o 3 Q) (h.o 4 Q)) fun u31 s52=>fun hq31=>match u31,hq31 with | _,rfl=>wi hG1<|fN (p:=(x55.2.1,x55.2.2,x54.2.1,x54.2.2,x30,x55.1)) (s52.1,s52.2.1,s52.2.2.1,s52.2.2.2) [0,1,2,3,4,5,9,10,11,12,8,6,7] Q Q)) (have hq32:=rb hA10;wi hq32<|bZ 0 0 0 3 [] Q Q Q Q Q (fun h=>aD (c:=(⟨c.b,x53.2.1,x53.2.2⟩:aM)) (h.a h1)) fun u32 _=>fun hq32=>match u32,hq32 with | _,rfl=>have hq33:=rb hA11;wi hq33<|c1 Q (fun h=>tN (h.o 1 Q) (h.o 2 Q) (h.o 3 Q) (h.o 4 Q)) fun u33 s53=>fun hq33=>match u33,hq33 with | _,rfl=>wi hG1<|fN (p:=(x55.2.1,x55.2.2,x54.2.1,x54.2.2,x30,x55.1)) (s53.1,s53.2.1,s53.2.2.1,s53.2.2.2) [0,1,2,3,4,5,9,10,11,12,8,6,7] Q Q)) (have hq34:=rb hA9;wi hq34<|bZ 0 0 0 3 [] Q Q Q Q Q (fun h=>aD (c:=(⟨c.b,x28,x29⟩:aM)) (h.a h1)) fun u34 _=>fun hq34=>match u34,hq34 with | _,rfl=>have hq35:=rb hA10;wi hq35<|bZ 0 0 0 3 [] Q Q Q Q Q (fun h=>aD (c:=(⟨c.b,x53.2.1,x53.2.2⟩:aM)) (h.a h1)) fun u35 _=>fun hq35=>match u35,hq35 with | _,rfl=>have hq36:=rb hA11;wi hq36<|c1 Q (fun h=>tN (h.o 1 Q) (h.o 2 Q) (h.o 3 Q) (h.o 4 Q)) fun u36 s54=>fun hq36=>match u36,hq36 with | _,rfl=>wi hG1<|fN (p:=(x55.2.1,x55.2.2,x54.2.1,x54.2.2,x30,x55.1)) (s54.1,s54.2.1,s54.2.2.1,s54.2.2.2) [0,1,2,3,4,5,9,10,11,12,8,6,7] Q Q)) fun⟨x39,x40,x41,x42,x43,x44⟩ ⟨s34,s35,s36,s37⟩=>bN [60] Q Q (fun hG1=>WT Q aT Q Q Q Q fun s38=>ap 11 aT Q Q Q Q Q Q Q (fun h=>(h.o 13 Q)) Q Q hG1 fun hG1 s39=>wi hG1<|dL 0 5 (fun(p:Int×Int×Mem×Mem)=>B8 x8 x9 x39 p.1 p.2.1 p.2.2.1 p.2.2.2) [0,4,6,7,8] (fun(p:Int×Int×Mem×Mem) (u:AC×AC×AC×AC)=>[(14,.p 4 0)]) [11,12] (fun p u=>[.box 0 [.h s1 c.b.length,I p.1,I p.2.1],ow s34 (p.2.2.1.aB.Bytes:List Int),ow s35 (p.2.2.1.aB.Class:List Int),ow s36 (p.2.2.1.aA.Global:List aE),ow s37 (p.2.2.1.aA.bD:List aE),.box 2 [.h s34 p.2.2.1.aB.Bytes.length,.h s35 p.2.2.1.aB.Class.length,.h s36 p.2.2.1.aA.Global.length,.h s37 p.2.2.1.aA.bD.length],ow u.1 (p.2.2.2.aB.Bytes:List Int),ow u.2.1 (p.2.2.2.aB.Class:List Int),ow u.2.2.1 (p.2.2.2.aA.Global:List aE),ow u.2.2.2 (p.2.2.2.aA.bD:List aE),.box 4 [.h u.1 p.2.2.2.aB.Bytes.length,.h u.2.1 p.2.2.2.aB.Class.length,.h u.2.2.1 p.2.2.2.aA.Global.length,.h u.2.2.2 p.2.2.2.aA.bD.length]]) Q (eY aC [5,10,12] Q<|fun hG1=>bd hG1 fun x49 hA5 hG1=>bd hG1 fun x50 hA6 hG1=>bd hG1 fun x51 hA7 hG1=>bd hG1 fun x52 hA8 hG1=>cY Q Q (have hq14:=rb hA5;wi hq14<|bZ 0 0 0 3 [] Q Q Q Q Q (fun h=>aD (c:=(⟨c.b,x41,x42⟩:aM)) (h.a h1)) fun u14 _=>fun hq14=>match u14,hq14 with | _,rfl=>cY Q Q (have hq15:=rb hA6;wi hq15<|bZ 0 0 0 3 [] Q Q Q Q Q (fun h=>aD (c:=(⟨c.b,x49.2.1,x49.2.2⟩:aM)) (h.a h1)) fun u15 _=>fun hq15=>match u15,hq15 with | _,rfl=>cY Q Q (have hq16:=rb hA7;wi hq16<|bZ 0 0 0 3 [] Q Q Q Q Q (fun h=>aD (c:=(⟨c.b,x50.2.1,x50.2.2⟩:aM)) (h.a h1)) fun u16 _=>fun hq16=>match u16,hq16 with | _,rfl=>cY Q Q (have hq17:=rb hA8;wi hq17<|c1 Q (fun h=>iB (h.o 6 Q) (h.o 7 Q) (h.o 8 Q) (h.o 9 Q)) fun u17 s45=>fun hq17=>match u17,hq17 with | _,rfl=>wi hG1<|fN (p:=(x51.2.1,x51.2.2,x44,x52.1)) (s45.1,s45.2.1,s45.2.2.1,s45.2.2.2) [0,6,7,8,9,5,14,15,16,17,18,11,12] Q Q) (have hq18:=rb hA8;wi hq18<|c1 Q (fun h=>iB (h.o 6 Q) (h.o 7 Q) (h.o 8 Q) (h.o 9 Q)) fun u18 s46=>fun hq18=>match u18,hq18 with | _,rfl=>wi hG1<|fN (p:=(x51.2.1,x51.2.2,x44,x52.1)) (s46.1,s46.2.1,s46.2.2.1,s46.2.2.2) [0,6,7,8,9,5,15,16,17,18,14,11,12] Q Q)) (have hq19:=rb hA7;wi hq19<|bZ 0 0 0 3 [] Q Q Q Q Q (fun h=>aD (c:=(⟨c.b,x50.2.1,x50.2.2⟩:aM)) (h.a h1)) fun u19 _=>fun hq19=>match u19,hq19 with | _,rfl=>have hq20:=rb hA8;wi hq20<|c1 Q (fun h=>iB (h.o 6 Q) (h.o 7 Q) (h.o 8 Q) (h.o 9 Q)) fun u20 s47=>fun hq20=>match u20,hq20 with | _,rfl=>wi hG1<|fN (p:=(x51.2.1,x51.2.2,x44,x52.1)) (s47.1,s47.2.1,s47.2.2.1,s47.2.2.2) [0,6,7,8,9,5,15,16,17,18,14,11,12] Q Q)) (have hq21:=rb hA6;wi hq21<|bZ 0 0 0 3 [] Q Q Q Q Q (fun h=>aD (c:=(⟨c.b,x49.2.1,x49.2.2⟩:aM)) (h.a h1)) fun u21 _=>fun hq21=>match u21,hq21 with | _,rfl=>have hq22:=rb hA7;wi hq22<|bZ 0 0 0 3 [] Q Q Q Q Q (fun h=>aD (c:=(⟨c.b,x50.2.1,x50.2.2⟩:aM)) (h.a h1)) fun u22 _=>fun hq22=>match u22,hq22 with | _,rfl=>have hq23:=rb hA8;wi hq23<|c1 Q (fun h=>iB (h.o 6 Q) (h.o 7 Q) (h.o 8 Q) (h.o 9 Q)) fun u23 s48=>fun hq23=>match u23,hq23 with | _,rfl=>wi hG1<|fN (p:=(x51.2.1,x51.2.2,x44,x52.1)) (s48.1,s48.2.1,s48.2.2.1,s48.2.2.2) [0,6,7,8,9,5,15,16,17,18,14,11,12] Q Q)) (have hq24:=rb hA5;wi hq24<|bZ 0 0 0 3 [] Q Q Q Q Q (fun h=>aD (c:=(⟨c.b,x41,x42⟩:aM)) (h.a h1)) fun u24 _=>fun hq24=>match u24,hq24 with | _,rfl=>have hq25:=rb hA6;wi hq25<|bZ 0 0 0 3 [] Q Q Q Q Q (fun h=>aD (c:=(⟨c.b,x49.2.1,x49.2.2⟩:aM)) (h.a h1)) fun u25 _=>fun hq25=>match u25,hq25 with | _,rfl=>have hq26:=rb hA7;wi hq26<|bZ 0 0 0 3 [] Q Q Q Q Q (fun h=>aD (c:=(⟨c.b,x50.2.1,x50.2.2⟩:aM)) (h.a h1)) fun u26 _=>fun hq26=>match u26,hq26 with | _,rfl=>have hq27:=rb hA8;wi hq27<|c1 Q (fun h=>iB (h.o 6 Q) (h.o 7 Q) (h.o 8 Q) (h.o 9 Q)) fun u27 s49=>fun hq27=>match u27,hq27 with | _,rfl=>wi hG1<|fN (p:=(x51.2.1,x51.2.2,x44,x52.1)) (s49.1,s49.2.1,s49.2.2.1,s49.2.2.2) [0,6,7,8,9,5,15,16,17,18,14,11,12] Q Q)) fun⟨x45,x46,x47,x48⟩ ⟨s40,s41,s42,s43⟩=>fN (p:=(x8++([x39]),x45,x46,x48)) (s39,s40,s41,s42,s43) [11,0,6,7,8,9,5,12] Q Q)<|fN (p:=(x8,x41,x42,x44)) (s9,s34,s35,s36,s37) [11,0,6,7,8,9,5,12] Q Q) fun⟨x23,x24,x25,x26⟩ ⟨s19,s20,s21,s22,s23⟩=>Q9 (s19,s20,s21,s22,s23) [0,1,2,3,4,5,6,7] Q)<|SI (s9,s10,s11,s12,s13) [0,1,2,3,4,5,6,7] Q) fun⟨x13,x14,x15,x16⟩ ⟨s14,s15,s16,s17,s18⟩=>dL 0 3 (fun(p:Int×Int×Int×Mem)=>B6 p.1 p.2.1 p.2.2.1 p.2.2.2) [0,4] (fun(p:Int×Int×Int×Mem) (_:Unit)=>[(5,I p.1)]) [] (fun p _=>[.box 0 [.h s1 c.b.length,I p.2.1,I p.2.2.1],ow s15 (p.2.2.2.aB.Bytes:List Int),ow s16 (p.2.2.2.aB.Class:List Int),ow s17 (p.2.2.2.aA.Global:List aE),ow s18 (p.2.2.2.aA.bD:List aE),.box 1 [.h s15 p.2.2.2.aB.Bytes.length,.h s16 p.2.2.2.aB.Class.length,.h s17 p.2.2.2.aA.Global.length,.h s18 p.2.2.2.aA.bD.length]]) Q (eY aC [6] Q<|bZ 1 0 0 3 [] Q Q Q Q Q (fun h=>aD (c:=(⟨c.b,x14,x15⟩:aM)) (h.a h1)) fun x21 _=>jI oI 0 Q Q Q fun x22 h2 _ h3=>fun hF=>eV 3 h3 h2 Q Q Q Q Q<|cY Q Q (sF Q<|fF oI 8 [] h2 () Q Q Q Q Q Q Q<|eX (p:=(x22,x21.2.1,x21.2.2,x16)) () [1,2,3,4,5,7] hF Q) (sF Q<|fF oI 8 [] h2 () Q Q Q Q Q Q Q<|eX (p:=(x22,x21.2.1,x21.2.2,x16)) () [1,2,3,4,5,7] hF Q)) fun⟨x17,x18,x19,x20⟩ _=>eB (s15,s16,s17,s18) [0,1,2,3,4] Q Q
theorem GM{h:aB}{c:Int}{s1 s2:AC}(h1:bS κ s1 h.Bytes)(h2:bS κ s2 h.Class):VS Tryz.prog κ 448 (F9 h c) [.g [.h s1 h.Bytes.length,.h s2 h.Class.length],I c] [] [] (fun r (y:AC×AC×AC)=>.t [.g [.h y.1 r.1.Bytes.length,.h y.2.1 r.1.Class.length],.h y.2.2 r.2.length]) (fun r y=>[ow y.1 r.1.Bytes,ow y.2.1 r.1.Class,ow y.2.2 r.2]):=
 cM tok Tryz.call448 Tryz.func448 Tryz.results448 Q Q<|c1 Q (fun h=>EH (h.a h1) (h.a h2)) fun x1 s3=>dF 0 3 (yO c x1) [1,4,6] 18 [1,2,3,4] Q (c0 Q (fun h=>KU (h.a h1) (h.a h2)) fun x4=>dZ [13,14] Q Q (b8 [1,2,3,4] Q Q)<|c0 Q (fun _=>a8) fun x5=>b8 [1,2,3,4] Q Q) fun x2=>bN [18] Q Q (fun hF=>X7 (α:=Int) aT Q Q Q Q fun s4=>wi hF<|eB (s3.1,s3.2,s4) [1,2,4] Q Q)<|o4 [1,2] Q Q Q Q (fun _=>IX) fun x3 s5=>eB s5 [4,5,6] Q Q
theorem T3{h:aB}{slot:Int}{s1 s2:AC}(h1:bS κ s1 h.Bytes)(h2:bS κ s2 h.Class):V0 Tryz.prog κ 455 (GA h slot) [.g [.h s1 h.Bytes.length,.h s2 h.Class.length],I slot] I:=
 cM tok Tryz.call455 Tryz.func455 Tryz.results455 Q Q<|c0 Q (fun h=>IU (h.a h1) (h.a h2)) fun x1=>bN [7] Q Q (cV Q Q)<|c0 Q (fun h=>iA (h.a h1) (h.a h2)) fun x2=>cV Q Q
theorem jF{h:aB}{slot gen:Int}{s1 s2:AC}(h1:bS κ s1 h.Bytes)(h2:bS κ s2 h.Class):VS Tryz.prog κ 449 (DP h slot gen) [.g [.h s1 h.Bytes.length,.h s2 h.Class.length],I slot,I gen] [] [] (fun r (y:AC×AC)=>.t [.g [.h y.1 r.1.Bytes.length,.h y.2 r.1.Class.length],.b r.2]) (fun r y=>[ow y.1 r.1.Bytes,ow y.2 r.1.Class]):=
 cM tok Tryz.call449 Tryz.func449 Tryz.results449 Q Q<|c1 Q (fun h=>EH (h.a h1) (h.a h2)) fun x1 s3=>dF 0 3 (wB h slot gen x1) [1,2,3,6,8] 19 [0,1,2,3,4] Q (c0 Q (fun h=>T3 (h.a h1) (h.a h2)) fun x7=>dZ [14,15] Q Q (b8 [0,1,2,3,4] Q Q)<|c0 Q (fun _=>a8) fun x8=>b8 [0,1,2,3,4] Q Q) fun x2=>bN [19] Q Q (eB (s3.1,s3.2) [2,3] Q Q)<|dL 0 3 (IH x1) [6,8] (fun(x3:(List Int)) (s4:AC)=>[]) [1,3] (fun x3 s4=>[ow s4 (x3:List Int),.box 2 [.h s4 x3.length,.h s3.2 x1.Class.length]]) Q (eY aC [0,1] Q<|fun hF=>bd hF fun x4 hA1 hF=>bd hF fun x5 hA2 hF=>bd hF fun x6 hA3 hF=>cY Q Q (have hq1:=rb hA1;wi hq1<|c0 Q (fun h=>iA (h.a h1) (h.a h2)) fun u1=>fun hq1=>match u1,hq1 with | _,rfl=>have hq2:=rb hA2;wi hq2<|c0 Q (fun _=>fW) fun u2=>fun hq2=>match u2,hq2 with | _,rfl=>have hq3:=rb hA3;wi hq3<|o4 [2] Q Q Q Q (fun _=>fX) fun u3 s6=>fun hq3=>match u3,hq3 with | _,rfl=>wi hF<|fN (p:=(x6)) s6 [5,4,1,3] Q Q) (have hq4:=rb hA1;wi hq4<|c0 Q (fun h=>iA (h.a h1) (h.a h2)) fun u4=>fun hq4=>match u4,hq4 with | _,rfl=>cY Q Q (have hq5:=rb hA2;wi hq5<|c0 Q (fun _=>fW) fun u5=>fun hq5=>match u5,hq5 with | _,rfl=>have hq6:=rb hA3;wi hq6<|o4 [2] Q Q Q Q (fun _=>fX) fun u6 s7=>fun hq6=>match u6,hq6 with | _,rfl=>wi hF<|fN (p:=(x6)) s7 [5,4,1,3] Q Q) (have hq7:=rb hA2;wi hq7<|c0 Q (fun _=>fW) fun u7=>fun hq7=>match u7,hq7 with | _,rfl=>have hq8:=rb hA3;wi hq8<|o4 [2] Q Q Q Q (fun _=>fX) fun u8 s8=>fun hq8=>match u8,hq8 with | _,rfl=>wi hF<|fN (p:=(x6)) s8 [5,4,1,3] Q Q))) fun x3 s4=>eB (s4,s3.2) [0,3] Q Q
theorem V6{c:aM}{s1:AC}{b0:Nat×Nat}(h1:bS κ s1 c.b):VS Tryz.prog κ 417 (DQ c) [.p 0 0] [b0] [.box 0 [.h s1 c.b.length,I c.i,I c.h]] (fun(r:aB×(Int×Int)) (y:AC×AC)=>.g [.h y.1 r.1.Bytes.length,.h y.2 r.1.Class.length]) (fun(r:aB×(Int×Int)) (y:AC×AC)=>[.box 0 [.h s1 c.b.length,I r.2.1,I r.2.2],ow y.1 r.1.Bytes,ow y.2 r.1.Class]):=
 cM tok Tryz.call417 Tryz.func417 Tryz.results417 Q Q<|c1 Q (fun _=>I5) fun x1 s2=>bZ 0 0 0 3 [] Q Q Q Q Q (fun h=>aD (h.a h1)) fun x2 _=>J1 (s2.1,s2.2) [0,2,3] (fun(p:Int×Int×Int×(List Int)×(List Int)) (u:AC×AC)=>[(4,I p.1)]) [0,2,3,4,1] [1] (fun p u=>[.box 0 [.h s1 c.b.length,I p.2.1,I p.2.2.1],ow u.1 (p.2.2.2.1:List Int),ow u.2 (p.2.2.2.2:List Int),.box 2 [.h u.1 p.2.2.2.1.length,.h u.2 p.2.2.2.2.length]]) id [0,2,3] (fun(p:Int×Int×(List Int)×(List Int)) (u:AC×AC)=>[]) [1] (fun p u=>[.box 0 [.h s1 c.b.length,I p.1,I p.2.1],ow u.1 (p.2.2.1:List Int),ow u.2 (p.2.2.2:List Int),.box 2 [.h u.1 p.2.2.1.length,.h u.2 p.2.2.2.length]]) Q Q (fun hF1 ⟨x8,x9,x10,x11,x12⟩ ⟨s5,s6⟩ hr1=>bN [14] Q Q (dL 0 4 (fun(p:(List Int)×Int×Int×(List Int)×(List Int))=>CB c x8 p.1 p.2.1 p.2.2.1 p.2.2.2.1 p.2.2.2.2) [0,2,3,4] (fun(p:(List Int)×Int×Int×(List Int)×(List Int)) (u:AC×AC×AC)=>[(5,.p 3 0),(6,.h u.1 p.1.length)]) [4,1,2,3] (fun p u=>[ow u.1 (p.1:List Int),.box 0 [.h s1 c.b.length,I p.2.1,I p.2.2.1],ow u.2.1 (p.2.2.2.1:List Int),ow u.2.2 (p.2.2.2.2:List Int),.box 3 [.h u.2.1 p.2.2.2.1.length,.h u.2.2 p.2.2.2.2.length]]) Q (eY aC [3,4] Q<|fun hG1=>bd hG1 fun x48 hA3 hG1=>bd hG1 fun x49 hA4 hG1=>cY Q Q (have hq14:=rb hA3;wi hq14<|bZ 0 0 0 3 [] Q Q Q Q Q (fun h=>aD (c:=(⟨c.b,x9,x10⟩:aM)) (h.a h1)) fun u14 _=>fun hq14=>match u14,hq14 with | _,rfl=>cY Q Q (have hq15:=rb hA4;wi hq15<|c1 Q (fun h=>GM (h:=(⟨x11,x12⟩:aB)) (h.o 1 Q) (h.o 2 Q)) fun u15 s32=>fun hq15=>match u15,hq15 with | _,rfl=>wi hG1<|fN (p:=(x49.2,x48.2.1,x48.2.2,x49.1.Bytes,x49.1.Class)) (s32.2.2,s32.1,s32.2.1) [7,0,5,6,8,4,1,2,3] Q Q) (have hq16:=rb hA4;wi hq16<|c1 Q (fun h=>GM (h:=(⟨x11,x12⟩:aB)) (h.o 1 Q) (h.o 2 Q)) fun u16 s33=>fun hq16=>match u16,hq16 with | _,rfl=>wi hG1<|fN (p:=(x49.2,x48.2.1,x48.2.2,x49.1.Bytes,x49.1.Class)) (s33.2.2,s33.1,s33.2.1) [8,0,6,7,5,4,1,2,3] Q Q)) (have hq17:=rb hA3;wi hq17<|bZ 0 0 0 3 [] Q Q Q Q Q (fun h=>aD (c:=(⟨c.b,x9,x10⟩:aM)) (h.a h1)) fun u17 _=>fun hq17=>match u17,hq17 with | _,rfl=>have hq18:=rb hA4;wi hq18<|c1 Q (fun h=>GM (h:=(⟨x11,x12⟩:aB)) (h.o 1 Q) (h.o 2 Q)) fun u18 s34=>fun hq18=>match u18,hq18 with | _,rfl=>wi hG1<|fN (p:=(x49.2,x48.2.1,x48.2.2,x49.1.Bytes,x49.1.Class)) (s34.2.2,s34.1,s34.2.1) [8,0,6,7,5,4,1,2,3] Q Q)) fun⟨x17,x18,x19,x20,x21⟩ ⟨s9,s10,s11⟩=>J1 (s10,s11) [0,2,3,4,6] (fun(p:Int×Int×Int×(List Int)×(List Int)) (u:AC×AC)=>[(7,I p.1)]) [1,2,3,8,0,5] [0,5] (fun p u=>[.box 0 [.h s1 c.b.length,I p.2.1,I p.2.2.1],ow u.1 (p.2.2.2.1:List Int),ow u.2 (p.2.2.2.2:List Int),.box 2 [.h u.1 p.2.2.2.1.length,.h u.2 p.2.2.2.2.length]]) id [0,2,3,4] (fun(p:Int×Int×(List Int)×(List Int)) (u:AC×AC)=>[]) [5] (fun p u=>[.box 0 [.h s1 c.b.length,I p.1,I p.2.1],ow u.1 (p.2.2.1:List Int),ow u.2 (p.2.2.2:List Int),.box 2 [.h u.1 p.2.2.1.length,.h u.2 p.2.2.2.length]]) Q Q (fun hF3 ⟨x27,x28,x29,x30,x31⟩ ⟨s14,s15⟩ hr3=>bN [28] Q Q (dL 2 4 (fun(p:Int×Int×(List Int)×(List Int))=>wC x27 p.1 p.2.1 p.2.2.1 p.2.2.2) [0,2,3,4,6,7] (fun(p:Int×Int×(List Int)×(List Int)) (u:AC×AC)=>[]) [4,5] (fun p u=>[.box 0 [.h s1 c.b.length,I p.1,I p.2.1],ow u.1 (p.2.2.1:List Int),ow u.2 (p.2.2.2:List Int),.box 2 [.h u.1 p.2.2.1.length,.h u.2 p.2.2.2.length]]) Q (bZ 0 0 0 3 [] Q Q Q Q Q (fun h=>sJ (c:=(⟨c.b,x28,x29⟩:aM)) (h.a h1)) fun x40 _=>bN [32] Q Q (dL 0 6 (fun(p:Int×Int×(List Int)×(List Int))=>CA x27 p.1 p.2.1 p.2.2.1 p.2.2.2) [0,2,3,4,6,7] (fun(p:Int×Int×(List Int)×(List Int)) (u:AC×AC)=>[(8,.p 5 0)]) [4,5,1,2,3] (fun p u=>[.box 0 [.h s1 c.b.length,I p.1,I p.2.1],ow u.1 (p.2.2.1:List Int),ow u.2 (p.2.2.2:List Int),.box 5 [.h u.1 p.2.2.1.length,.h u.2 p.2.2.2.length]]) Q (eY aC [3,5] Q<|jI oI 4 Q Q Q fun x45 h2 _ h3=>fun hG3=>eV 4 h3 h2 Q Q Q Q Q<|bd hG3 fun x46 hA1 hG3=>bd hG3 fun x47 hA2 hG3=>aD5 Q Q (cY Q Q (have hq1:=rb hA1;wi hq1<|bZ 0 0 0 3 [] Q Q Q Q Q (fun h=>aD (c:=(⟨c.b,x40.2.1,x40.2.2⟩:aM)) (h.a h1)) fun u1 _=>fun hq1=>match u1,hq1 with | _,rfl=>cY Q Q (have hq2:=rb hA2;wi hq2<|c1 Q (fun h=>jF (h:=(⟨x30,x31⟩:aB)) (h.o 1 Q) (h.o 2 Q)) fun u2 s23=>fun hq2=>match u2,hq2 with | _,rfl=>sF Q<|fF oI 6 [] h2 () Q Q Q Q Q Q Q<|eX (p:=(x46.2.1,x46.2.2,x47.1.Bytes,x47.1.Class)) (s23.1,s23.2) [0,9,10,11,12,5,1,2,3] hG3 Q) (have hq3:=rb hA2;wi hq3<|c1 Q (fun h=>jF (h:=(⟨x30,x31⟩:aB)) (h.o 1 Q) (h.o 2 Q)) fun u3 s24=>fun hq3=>match u3,hq3 with | _,rfl=>sF Q<|fF oI 6 [] h2 () Q Q Q Q Q Q Q<|eX (p:=(x46.2.1,x46.2.2,x47.1.Bytes,x47.1.Class)) (s24.1,s24.2) [0,10,11,9,12,5,1,2,3] hG3 Q)) (have hq4:=rb hA1;wi hq4<|bZ 0 0 0 3 [] Q Q Q Q Q (fun h=>aD (c:=(⟨c.b,x40.2.1,x40.2.2⟩:aM)) (h.a h1)) fun u4 _=>fun hq4=>match u4,hq4 with | _,rfl=>have hq5:=rb hA2;wi hq5<|c1 Q (fun h=>jF (h:=(⟨x30,x31⟩:aB)) (h.o 1 Q) (h.o 2 Q)) fun u5 s25=>fun hq5=>match u5,hq5 with | _,rfl=>sF Q<|fF oI 6 [] h2 () Q Q Q Q Q Q Q<|eX (p:=(x46.2.1,x46.2.2,x47.1.Bytes,x47.1.Class)) (s25.1,s25.2) [0,10,11,9,12,5,1,2,3] hG3 Q)) (have hq6:=rb hA1;wi hq6<|bZ 0 0 0 3 [] Q Q Q Q Q (fun h=>aD (c:=(⟨c.b,x40.2.1,x40.2.2⟩:aM)) (h.a h1)) fun u6 _=>fun hq6=>match u6,hq6 with | _,rfl=>cY Q Q (cY Q Q (have hq7:=rb hA2;wi hq7<|c1 Q (fun h=>jF (h:=(⟨x30,x31⟩:aB)) (h.o 1 Q) (h.o 2 Q)) fun u7 s26=>fun hq7=>match u7,hq7 with | _,rfl=>sF Q<|fF oI 6 [] h2 () Q Q Q Q Q Q Q<|eX (p:=(x46.2.1,x46.2.2,x47.1.Bytes,x47.1.Class)) (s26.1,s26.2) [0,9,10,11,12,5,1,2,3] hG3 Q) (have hq8:=rb hA2;wi hq8<|c1 Q (fun h=>jF (h:=(⟨x30,x31⟩:aB)) (h.o 1 Q) (h.o 2 Q)) fun u8 s27=>fun hq8=>match u8,hq8 with | _,rfl=>sF Q<|fF oI 6 [] h2 () Q Q Q Q Q Q Q<|eX (p:=(x46.2.1,x46.2.2,x47.1.Bytes,x47.1.Class)) (s27.1,s27.2) [0,10,11,9,12,5,1,2,3] hG3 Q)) (have hq9:=rb hA2;wi hq9<|c1 Q (fun h=>jF (h:=(⟨x30,x31⟩:aB)) (h.o 1 Q) (h.o 2 Q)) fun u9 s28=>fun hq9=>match u9,hq9 with | _,rfl=>sF Q<|fF oI 6 [] h2 () Q Q Q Q Q Q Q<|eX (p:=(x46.2.1,x46.2.2,x47.1.Bytes,x47.1.Class)) (s28.1,s28.2) [0,10,11,9,12,5,1,2,3] hG3 Q)) (cY Q Q (have hq10:=rb hA1;wi hq10<|bZ 0 0 0 3 [] Q Q Q Q Q (fun h=>aD (c:=(⟨c.b,x40.2.1,x40.2.2⟩:aM)) (h.a h1)) fun u10 _=>fun hq10=>match u10,hq10 with | _,rfl=>have hq11:=rb hA2;wi hq11<|c1 Q (fun h=>jF (h:=(⟨x30,x31⟩:aB)) (h.o 1 Q) (h.o 2 Q)) fun u11 s29=>fun hq11=>match u11,hq11 with | _,rfl=>sF Q<|fF oI 6 [] h2 () Q Q Q Q Q Q Q<|eX (p:=(x46.2.1,x46.2.2,x47.1.Bytes,x47.1.Class)) (s29.1,s29.2) [0,10,11,9,12,5,1,2,3] hG3 Q) (have hq12:=rb hA1;wi hq12<|bZ 0 0 0 3 [] Q Q Q Q Q (fun h=>aD (c:=(⟨c.b,x40.2.1,x40.2.2⟩:aM)) (h.a h1)) fun u12 _=>fun hq12=>match u12,hq12 with | _,rfl=>have hq13:=rb hA2;wi hq13<|c1 Q (fun h=>jF (h:=(⟨x30,x31⟩:aB)) (h.o 1 Q) (h.o 2 Q)) fun u13 s30=>fun hq13=>match u13,hq13 with | _,rfl=>sF Q<|fF oI 6 [] h2 () Q Q Q Q Q Q Q<|eX (p:=(x46.2.1,x46.2.2,x47.1.Bytes,x47.1.Class)) (s30.1,s30.2) [0,10,11,9,12,5,1,2,3] hG3 Q))) fun⟨x41,x42,x43,x44⟩ ⟨s20,s21⟩=>fN (p:=(x41,x42,x43,x44)) (s20,s21) [0,1,2,8,4,5] Q Q)<|fN (p:=(x40.2.1,x40.2.2,x30,x31)) (s14,s15) [0,1,2,3,4,5] Q Q) fun⟨x36,x37,x38,x39⟩ ⟨s18,s19⟩=>Q9 (s18,s19) [0,1,2,3,4,5] Q)<|SI (s14,s15) [0,1,2,3,5] Q) fun⟨x32,x33,x34,x35⟩ ⟨s16,s17⟩=>Q9 (s16,s17) [0,1,2,3,4] Q)<|SI (s5,s6) [0,1,2,3,4] Q) fun⟨x13,x14,x15,x16⟩ ⟨s7,s8⟩=>eB (s7,s8) [0,1,2] Q Q
theorem YK{c:aM}{s1:AC}{b0:Nat×Nat}(h1:bS κ s1 c.b):VS Tryz.prog κ 344 (GB c) [.p 0 0] [b0] [.box 0 [.h s1 c.b.length,I c.i,I c.h]] (fun(r:aB×(Int×Int)) (y:AC×AC)=>.g [.h y.1 r.1.Bytes.length,.h y.2 r.1.Class.length]) (fun(r:aB×(Int×Int)) (y:AC×AC)=>[.box 0 [.h s1 c.b.length,I r.2.1,I r.2.2],ow y.1 r.1.Bytes,ow y.2 r.1.Class]):=
 cM tok Tryz.call344 Tryz.func344 Tryz.results344 Q Q<|bZ 0 0 0 3 [] Q Q Q Q Q (fun h=>V6 (h.a h1)) fun x1 s2=>dL 1 3 (fun(p:Int×Int×(List Int)×(List Int))=>jE p.1 p.2.1 p.2.2.1 p.2.2.2) [0,2,3] (fun(p:Int×Int×(List Int)×(List Int)) (u:AC×AC)=>[]) [1] (fun p u=>[.box 0 [.h s1 c.b.length,I p.1,I p.2.1],ow u.1 (p.2.2.1:List Int),ow u.2 (p.2.2.2:List Int),.box 2 [.h u.1 p.2.2.1.length,.h u.2 p.2.2.2.length]]) Q (bZ 0 0 0 3 [] Q Q Q Q Q (fun h=>aD (c:=(⟨c.b,x1.2.1,x1.2.2⟩:aM)) (h.a h1)) fun x6 _=>bN [8,9] Q Q (dL 0 3 (fun(p:Int×Int×(List Int))=>D9 x1 p.1 p.2.1 p.2.2) [0,2,3] (fun(p:Int×Int×(List Int)) (_:Unit)=>[]) [1,3] (fun p _=>[.box 0 [.h s1 c.b.length,I p.1,I p.2.1],ow (AC.sub s2.1 1 0) (p.2.2:List Int),.box 2 [.h (AC.sub s2.1 1 0) p.2.2.length,.h s2.2 x1.1.Class.length]]) Q (eY aC [1] Q<|fun hF=>bd hF fun x10 hA1 hF=>nd hF fun hA2 hF=>cY Q Q (have hq1:=rb hA1;wi hq1<|bZ 0 0 0 3 [] Q Q Q Q Q (fun h=>aD (c:=(⟨c.b,x6.2.1,x6.2.2⟩:aM)) (h.a h1)) fun u1 _=>fun hq1=>match u1,hq1 with | _,rfl=>Z2 2 Q Q fun hc2=>have hq2:=rn hA2;SH hc2 Q Q Q Q Q Q hq2 fun hq2 h3=>sF Q<|poR 2 0 x10.1.toNat Q Q h3 Q<|eX (p:=(x10.2.1,x10.2.2,(x1.1.Bytes.take x10.1.toNat).drop 0)) () [0,2,4,1,3] hF Q) (cY Q Q (have hq3:=rb hA1;wi hq3<|bZ 0 0 0 3 [] Q Q Q Q Q (fun h=>aD (c:=(⟨c.b,x6.2.1,x6.2.2⟩:aM)) (h.a h1)) fun u2 _=>fun hq3=>match u2,hq3 with | _,rfl=>Z2 2 Q Q fun hc3=>have hq4:=rn hA2;SH hc3 Q Q Q Q Q Q hq4 fun hq4 h4=>sF Q<|poR 2 0 x10.1.toNat Q Q h4 Q<|eX (p:=(x10.2.1,x10.2.2,(x1.1.Bytes.take x10.1.toNat).drop 0)) () [0,2,4,1,3] hF Q) (have hq5:=rb hA1;wi hq5<|bZ 0 0 0 3 [] Q Q Q Q Q (fun h=>aD (c:=(⟨c.b,x6.2.1,x6.2.2⟩:aM)) (h.a h1)) fun u3 _=>fun hq5=>match u3,hq5 with | _,rfl=>Z2 2 Q Q fun hc4=>have hq6:=rn hA2;SH hc4 Q Q Q Q Q Q hq6 fun hq6 h5=>sF Q<|poR 2 0 x10.1.toNat Q Q h5 Q<|eX (p:=(x10.2.1,x10.2.2,(x1.1.Bytes.take x10.1.toNat).drop 0)) () [0,2,4,1,3] hF Q))) fun⟨x7,x8,x9⟩ _=>fN (p:=(x7,x8,x9,x1.1.Class)) ((AC.sub s2.1 1 0),s2.2) [0,1,4,2,3] Q Q)<|bN [19,20] Q Q (fun hF=>WT Q aT Q Q Q Q fun s5=>ap 3 aT Q Q Q Q Q Q Q (fun h=>(h.o 5 Q)) Q Q hF fun hF s6=>wi hF<|fN (p:=(x6.2.1,x6.2.2,x1.1.Bytes,x1.1.Class++([0]))) (s2.1,s6) [0,2,3,4,1] Q Q)<|bN [26,27] Q Q (dL 0 3 (fun(p:Int×Int×(List Int))=>EA x1 p.1 p.2.1 p.2.2) [0,2,3] (fun(p:Int×Int×(List Int)) (_:Unit)=>[]) [1,2] (fun p _=>[.box 0 [.h s1 c.b.length,I p.1,I p.2.1],ow s2.2 (p.2.2:List Int),.box 2 [.h s2.1 x1.1.Bytes.length,.h s2.2 p.2.2.length]]) Q (eY aC [1,4] Q<|fun hF=>bd hF fun x14 hA3 hF=>bd hF fun x15 hA4 hF=>bd hF fun x16 hA5 hF=>cY Q Q (have hq7:=rb hA3;wi hq7<|bZ 0 0 0 3 [] Q Q Q Q Q (fun h=>aD (c:=(⟨c.b,x6.2.1,x6.2.2⟩:aM)) (h.a h1)) fun u4 _=>fun hq7=>match u4,hq7 with | _,rfl=>ltK oI () ([(-2),3,0,(-1)]:List Int) aT Q Q Q Q Q Q Q Q Q Q (fun _=>Q) fun s8=>have hq8:=rb hA4;wi hq8<|bZ 0 0 0 3 [] Q Q Q Q Q (fun h=>d8 (c:=(⟨c.b,x14.2.1,x14.2.2⟩:aM)) (h.a h1) (h.o 5 Q Q)) fun u5 _=>fun hq8=>match u5,hq8 with | _,rfl=>have hq9:=rb hA5;wi hq9<|jI oI 3 Q Q Q fun u6 h8 _ h9=>fun hq9=>eV 3 h9 h8 Q Q Q Q Q<|match u6,hq9 with | _,rfl=>sF Q<|uW oI 6 [] [29,32] x15.1 () Q Q Q Q Q Q Q Q<|C4 s2.2 List.length_set.symm [(5,1)] [(4,1)] Q Q Q<|fR Q Q<|eX (p:=(x15.2.1,x15.2.2,x1.1.Class.set x14.1.toNat x15.1)) () [0,9,4,1,2] hF Q) (ltK oI () ([(-2),3,0,(-1)]:List Int) aT Q Q Q Q Q Q Q Q Q Q (fun _=>Q) fun s9=>have hq10:=rb hA3;wi hq10<|bZ 0 0 0 3 [] Q Q Q Q Q (fun h=>aD (c:=(⟨c.b,x6.2.1,x6.2.2⟩:aM)) (h.a h1)) fun u7 _=>fun hq10=>match u7,hq10 with | _,rfl=>have hq11:=rb hA4;wi hq11<|bZ 0 0 0 3 [] Q Q Q Q Q (fun h=>d8 (c:=(⟨c.b,x14.2.1,x14.2.2⟩:aM)) (h.a h1) (h.o 5 Q Q)) fun u8 _=>fun hq11=>match u8,hq11 with | _,rfl=>have hq12:=rb hA5;wi hq12<|jI oI 3 Q Q Q fun u9 h10 _ h11=>fun hq12=>eV 3 h11 h10 Q Q Q Q Q<|match u9,hq12 with | _,rfl=>sF Q<|uW oI 6 [] [29,32] x15.1 () Q Q Q Q Q Q Q Q<|C4 s2.2 List.length_set.symm [(5,1)] [(4,1)] Q Q Q<|fR Q Q<|eX (p:=(x15.2.1,x15.2.2,x1.1.Class.set x14.1.toNat x15.1)) () [0,9,4,1,2] hF Q)) fun⟨x11,x12,x13⟩ _=>fN (p:=(x11,x12,x1.1.Bytes,x13)) (s2.1,s2.2) [0,4,1,2,3] Q Q)<|bN [39,40] Q Q (dL 0 3 (fun(p:Int×Int×(List Int))=>EB x1 p.1 p.2.1 p.2.2) [0,2,3] (fun(p:Int×Int×(List Int)) (_:Unit)=>[]) [1,3] (fun p _=>[.box 0 [.h s1 c.b.length,I p.1,I p.2.1],ow s2.1 (p.2.2:List Int),.box 2 [.h s2.1 p.2.2.length,.h s2.2 x1.1.Class.length]]) Q (eY aC [1,4] Q<|fun hF=>bd hF fun x20 hA6 hF=>bd hF fun x21 hA7 hF=>bd hF fun x22 hA8 hF=>cY Q Q (have hq13:=rb hA6;wi hq13<|bZ 0 0 0 3 [] Q Q Q Q Q (fun h=>aD (c:=(⟨c.b,x6.2.1,x6.2.2⟩:aM)) (h.a h1)) fun u10 _=>fun hq13=>match u10,hq13 with | _,rfl=>ltK oI () ([(-1),256,171,1]:List Int) aT Q Q Q Q Q Q Q Q Q Q (fun _=>Q) fun s11=>have hq14:=rb hA7;wi hq14<|bZ 0 0 0 3 [] Q Q Q Q Q (fun h=>d8 (c:=(⟨c.b,x20.2.1,x20.2.2⟩:aM)) (h.a h1) (h.o 5 Q Q)) fun u11 _=>fun hq14=>match u11,hq14 with | _,rfl=>have hq15:=rb hA8;wi hq15<|jI oI 2 Q Q Q fun u12 h14 _ h15=>fun hq15=>eV 3 h15 h14 Q Q Q Q Q<|match u12,hq15 with | _,rfl=>sF Q<|uW oI 6 [] [42,45] x21.1 () Q Q Q Q Q Q Q Q<|C4 s2.1 List.length_set.symm [(5,0)] [(4,0)] Q Q Q<|fR Q Q<|eX (p:=(x21.2.1,x21.2.2,x1.1.Bytes.set x20.1.toNat x21.1)) () [0,9,4,1,3] hF Q) (ltK oI () ([(-1),256,171,1]:List Int) aT Q Q Q Q Q Q Q Q Q Q (fun _=>Q) fun s12=>have hq16:=rb hA6;wi hq16<|bZ 0 0 0 3 [] Q Q Q Q Q (fun h=>aD (c:=(⟨c.b,x6.2.1,x6.2.2⟩:aM)) (h.a h1)) fun u13 _=>fun hq16=>match u13,hq16 with | _,rfl=>have hq17:=rb hA7;wi hq17<|bZ 0 0 0 3 [] Q Q Q Q Q (fun h=>d8 (c:=(⟨c.b,x20.2.1,x20.2.2⟩:aM)) (h.a h1) (h.o 5 Q Q)) fun u14 _=>fun hq17=>match u14,hq17 with | _,rfl=>have hq18:=rb hA8;wi hq18<|jI oI 2 Q Q Q fun u15 h16 _ h17=>fun hq18=>eV 3 h17 h16 Q Q Q Q Q<|match u15,hq18 with | _,rfl=>sF Q<|uW oI 6 [] [42,45] x21.1 () Q Q Q Q Q Q Q Q<|C4 s2.1 List.length_set.symm [(5,0)] [(4,0)] Q Q Q<|fR Q Q<|eX (p:=(x21.2.1,x21.2.2,x1.1.Bytes.set x20.1.toNat x21.1)) () [0,9,4,1,3] hF Q)) fun⟨x17,x18,x19⟩ _=>fN (p:=(x17,x18,x19,x1.1.Class)) (s2.1,s2.2) [0,1,4,2,3] Q Q)<|bN [52,53] Q Q (eY aC [1,4] Q<|bZ 0 0 0 3 [] Q Q Q Q Q (fun h=>aD (c:=(⟨c.b,x6.2.1,x6.2.2⟩:aM)) (h.a h1)) fun x23 _=>bZ 0 0 0 3 [] Q Q Q Q Q (fun h=>aD (c:=(⟨c.b,x23.2.1,x23.2.2⟩:aM)) (h.a h1)) fun x24 _=>bZ 0 0 0 3 [] Q Q Q Q Q (fun h=>aD (c:=(⟨c.b,x24.2.1,x24.2.2⟩:aM)) (h.a h1)) fun x25 _=>jI oI 2 Q Q Q fun x26 h18 _ h19=>fun hF=>eV 3 h19 h18 Q Q Q Q Q<|sF Q<|uW oI 5 [] [55] x25.1 () Q Q Q Q Q Q Q Q<|C4 s2.1 List.length_set.symm [(5,0)] [(4,0)] Q Q Q<|fR Q Q<|eX (p:=(x25.2.1,x25.2.2,x1.1.Bytes.set ((aW ((aW (x23.1 * 64))+x24.1)).toNat) x25.1,x1.1.Class)) (s2.1,s2.2) [0,8,3,4,1] hF Q)<|fN (p:=(x6.2.1,x6.2.2,x1.1.Bytes,x1.1.Class)) (s2.1,s2.2) [0,2,3,4,1] Q Q) fun⟨x2,x3,x4,x5⟩ ⟨s3,s4⟩=>eB (s3,s4) [0,1,2] Q Q
theorem zP{l:aA}{w_ c slot:Int}{s1 s2:AC}(h1:bS κ s1 l.Global)(h2:bS κ s2 l.bD):VS Tryz.prog κ 450 (J3 l w_ c slot) [.g [.h s1 l.Global.length,.h s2 l.bD.length],I w_,I c,I slot] [] [] (fun r (y:AC×AC)=>.t [.g [.h y.1 r.1.Global.length,.h y.2 r.1.bD.length],.b r.2]) (fun r y=>[ow y.1 r.1.Global,ow y.2 r.1.bD]):=
 cM tok Tryz.call450 Tryz.func450 Tryz.results450 Q Q<|c1 Q (fun h=>yX (h.a h1) (h.a h2)) fun x1 s3=>dF 0 3 (q7 w_ c slot x1) [1,2,3,8,10] 32 [1,2,3,4] Q (c0 Q (fun h=>wJ (h.a h1) (h.a h2)) fun x4=>dZ [15,16] Q Q (b8 [1,2,3,4] Q Q)<|c0 Q (fun _=>wL) fun x5=>dZ [20,21,22] Q Q (b8 [1,2,3,4] Q Q)<|c0 Q (fun _=>a8) fun x6=>dZ [25,26,27] Q Q (b8 [1,2,3,4] Q Q)<|c1 Q (fun h=>GH (h.a h1) (h.a h2)) fun x7 s5=>c0 Q (fun h=>BK (h.o 5 Q)) fun x8=>b8 [1,2,3,4] Q Q) fun x2=>bN [32] Q Q (eB (s3.1,s3.2) [1,2] Q Q)<|o4 [1,2] Q Q Q Q (fun _=>KX) fun x3 s4=>eB (s4.1,s4.2) [4,5] Q Q
theorem T4{c:aM}{s1:AC}{b0:Nat×Nat}(h1:bS κ s1 c.b):VS Tryz.prog κ 418 (BJ c) [.p 0 0] [b0] [.box 0 [.h s1 c.b.length,I c.i,I c.h]] (fun(r:aA×(Int×Int)) (y:AC×AC)=>.g [.h y.1 r.1.Global.length,.h y.2 r.1.bD.length]) (fun(r:aA×(Int×Int)) (y:AC×AC)=>[.box 0 [.h s1 c.b.length,I r.2.1,I r.2.2],ow y.1 r.1.Global,ow y.2 r.1.bD]):=
 cM tok Tryz.call418 Tryz.func418 Tryz.results418 Q Q<|c1 Q (fun _=>HC) fun x1 s2=>bZ 0 0 0 3 [] Q Q Q Q Q (fun h=>aD (h.a h1)) fun x2 _=>J1 (s2.1,s2.2) [0,2,3] (fun(p:Int×Int×Int×(List aE)×(List aE)) (u:AC×AC)=>[(4,I p.1)]) [0,2,3,4,1] [1] (fun p u=>[.box 0 [.h s1 c.b.length,I p.2.1,I p.2.2.1],ow u.1 (p.2.2.2.1:List aE),ow u.2 (p.2.2.2.2:List aE),.box 2 [.h u.1 p.2.2.2.1.length,.h u.2 p.2.2.2.2.length]]) id [0,2,3] (fun(p:Int×Int×(List aE)×(List aE)) (u:AC×AC)=>[]) [1] (fun p u=>[.box 0 [.h s1 c.b.length,I p.1,I p.2.1],ow u.1 (p.2.2.1:List aE),ow u.2 (p.2.2.2:List aE),.box 2 [.h u.1 p.2.2.1.length,.h u.2 p.2.2.2.length]]) Q Q (fun hF1 ⟨x8,x9,x10,x11,x12⟩ ⟨s5,s6⟩ hr1=>bN [11] Q Q (dL 0 4 (fun(p:Int×Int×(List aE)×(List aE))=>AA x8 p.1 p.2.1 p.2.2.1 p.2.2.2) [0,2,3,4] (fun(p:Int×Int×(List aE)×(List aE)) (u:AC×AC)=>[(5,.p 3 0)]) [4,1,2,3] (fun p u=>[.box 0 [.h s1 c.b.length,I p.1,I p.2.1],ow u.1 (p.2.2.1:List aE),ow u.2 (p.2.2.2:List aE),.box 3 [.h u.1 p.2.2.1.length,.h u.2 p.2.2.2.length]]) Q (eY aC [3,4] Q<|fun hG1=>bd hG1 fun x21 hA1 hG1=>bd hG1 fun x22 hA2 hG1=>bd hG1 fun x23 hA3 hG1=>bd hG1 fun x24 hA4 hG1=>cY Q Q (have hq1:=rb hA1;wi hq1<|bZ 0 0 0 3 [] Q Q Q Q Q (fun h=>aD (c:=(⟨c.b,x9,x10⟩:aM)) (h.a h1)) fun u1 _=>fun hq1=>match u1,hq1 with | _,rfl=>cY Q Q (have hq2:=rb hA2;wi hq2<|bZ 0 0 0 3 [] Q Q Q Q Q (fun h=>aD (c:=(⟨c.b,x21.2.1,x21.2.2⟩:aM)) (h.a h1)) fun u2 _=>fun hq2=>match u2,hq2 with | _,rfl=>cY Q Q (have hq3:=rb hA3;wi hq3<|bZ 0 0 0 3 [] Q Q Q Q Q (fun h=>aD (c:=(⟨c.b,x22.2.1,x22.2.2⟩:aM)) (h.a h1)) fun u3 _=>fun hq3=>match u3,hq3 with | _,rfl=>cY Q Q (have hq4:=rb hA4;wi hq4<|c1 Q (fun h=>zP (l:=(⟨x11,x12⟩:aA)) (h.o 1 Q) (h.o 2 Q)) fun u4 s12=>fun hq4=>match u4,hq4 with | _,rfl=>wi hG1<|fN (p:=(x23.2.1,x23.2.2,x24.1.Global,x24.1.bD)) (s12.1,s12.2) [0,5,6,7,4,1,2,3] Q Q) (have hq5:=rb hA4;wi hq5<|c1 Q (fun h=>zP (l:=(⟨x11,x12⟩:aA)) (h.o 1 Q) (h.o 2 Q)) fun u5 s13=>fun hq5=>match u5,hq5 with | _,rfl=>wi hG1<|fN (p:=(x23.2.1,x23.2.2,x24.1.Global,x24.1.bD)) (s13.1,s13.2) [0,6,7,5,4,1,2,3] Q Q)) (have hq6:=rb hA3;wi hq6<|bZ 0 0 0 3 [] Q Q Q Q Q (fun h=>aD (c:=(⟨c.b,x22.2.1,x22.2.2⟩:aM)) (h.a h1)) fun u6 _=>fun hq6=>match u6,hq6 with | _,rfl=>have hq7:=rb hA4;wi hq7<|c1 Q (fun h=>zP (l:=(⟨x11,x12⟩:aA)) (h.o 1 Q) (h.o 2 Q)) fun u7 s14=>fun hq7=>match u7,hq7 with | _,rfl=>wi hG1<|fN (p:=(x23.2.1,x23.2.2,x24.1.Global,x24.1.bD)) (s14.1,s14.2) [0,6,7,5,4,1,2,3] Q Q)) (have hq8:=rb hA2;wi hq8<|bZ 0 0 0 3 [] Q Q Q Q Q (fun h=>aD (c:=(⟨c.b,x21.2.1,x21.2.2⟩:aM)) (h.a h1)) fun u8 _=>fun hq8=>match u8,hq8 with | _,rfl=>have hq9:=rb hA3;wi hq9<|bZ 0 0 0 3 [] Q Q Q Q Q (fun h=>aD (c:=(⟨c.b,x22.2.1,x22.2.2⟩:aM)) (h.a h1)) fun u9 _=>fun hq9=>match u9,hq9 with | _,rfl=>have hq10:=rb hA4;wi hq10<|c1 Q (fun h=>zP (l:=(⟨x11,x12⟩:aA)) (h.o 1 Q) (h.o 2 Q)) fun u10 s15=>fun hq10=>match u10,hq10 with | _,rfl=>wi hG1<|fN (p:=(x23.2.1,x23.2.2,x24.1.Global,x24.1.bD)) (s15.1,s15.2) [0,6,7,5,4,1,2,3] Q Q)) (have hq11:=rb hA1;wi hq11<|bZ 0 0 0 3 [] Q Q Q Q Q (fun h=>aD (c:=(⟨c.b,x9,x10⟩:aM)) (h.a h1)) fun u11 _=>fun hq11=>match u11,hq11 with | _,rfl=>have hq12:=rb hA2;wi hq12<|bZ 0 0 0 3 [] Q Q Q Q Q (fun h=>aD (c:=(⟨c.b,x21.2.1,x21.2.2⟩:aM)) (h.a h1)) fun u12 _=>fun hq12=>match u12,hq12 with | _,rfl=>have hq13:=rb hA3;wi hq13<|bZ 0 0 0 3 [] Q Q Q Q Q (fun h=>aD (c:=(⟨c.b,x22.2.1,x22.2.2⟩:aM)) (h.a h1)) fun u13 _=>fun hq13=>match u13,hq13 with | _,rfl=>have hq14:=rb hA4;wi hq14<|c1 Q (fun h=>zP (l:=(⟨x11,x12⟩:aA)) (h.o 1 Q) (h.o 2 Q)) fun u14 s16=>fun hq14=>match u14,hq14 with | _,rfl=>wi hG1<|fN (p:=(x23.2.1,x23.2.2,x24.1.Global,x24.1.bD)) (s16.1,s16.2) [0,6,7,5,4,1,2,3] Q Q)) fun⟨x17,x18,x19,x20⟩ ⟨s9,s10⟩=>Q9 (s9,s10) [0,1,2,7,4] Q)<|SI (s5,s6) [0,1,2,3,4] Q) fun⟨x13,x14,x15,x16⟩ ⟨s7,s8⟩=>eB (s7,s8) [0,1,2] Q Q
theorem YL{c:aM}{s1:AC}{b0:Nat×Nat}(h1:bS κ s1 c.b):VS Tryz.prog κ 345 (GC c) [.p 0 0] [b0] [.box 0 [.h s1 c.b.length,I c.i,I c.h]] (fun(r:aA×(Int×Int)) (y:AC×AC)=>.g [.h y.1 r.1.Global.length,.h y.2 r.1.bD.length]) (fun(r:aA×(Int×Int)) (y:AC×AC)=>[.box 0 [.h s1 c.b.length,I r.2.1,I r.2.2],ow y.1 r.1.Global,ow y.2 r.1.bD]):=
 cM tok Tryz.call345 Tryz.func345 Tryz.results345 Q Q<|bZ 0 0 0 3 [] Q Q Q Q Q (fun h=>T4 (h.a h1)) fun x1 s2=>dL 1 3 (fun(p:Int×Int×(List aE)×(List aE))=>lH p.1 p.2.1 p.2.2.1 p.2.2.2) [0,2,3] (fun(p:Int×Int×(List aE)×(List aE)) (u:AC×AC)=>[]) [1] (fun p u=>[.box 0 [.h s1 c.b.length,I p.1,I p.2.1],ow u.1 (p.2.2.1:List aE),ow u.2 (p.2.2.2:List aE),.box 2 [.h u.1 p.2.2.1.length,.h u.2 p.2.2.2.length]]) Q (bZ 0 0 0 3 [] Q Q Q Q Q (fun h=>aD (c:=(⟨c.b,x1.2.1,x1.2.2⟩:aM)) (h.a h1)) fun x6 _=>bN [9,10] Q Q (fun hF=>Z2 2 Q Q fun hc1=>SH hc1 Q Q Q Q Q Q hF fun hF h2=>sF Q<|poR 2 0 ((2:Int).toNat) Q Q h2 Q<|eX (p:=(x6.2.1,x6.2.2,(x1.1.Global.take ((2:Int).toNat)).drop 0,x1.1.bD)) ((AC.sub s2.1 1 0),s2.2) [0,2,3,4,1] hF Q)<|bN [15,16] Q Q (fun hF=>nw Int Q<|X9 cW [5] ((⟨[]⟩:aE)) ⟨none,0⟩ cK Q Q Q Q Q Q Q Q Q Q Q Q Q fun s5=>apN 3 6 cK Q Q Q Q Q Q Q Q Q Q Q hF fun hF s6=>wi hF<|fN (p:=(x6.2.1,x6.2.2,x1.1.Global,x1.1.bD++([(⟨[]⟩:aE)]))) (s2.1,s6) [0,2,7,4,1] Q Q)<|bN [23,24] Q Q (dL 0 3 (fun(p:Int×Int×(List aE))=>EC x1 p.1 p.2.1 p.2.2) [0,2,3] (fun(p:Int×Int×(List aE)) (_:Unit)=>[]) [1,2] (fun p _=>[.box 0 [.h s1 c.b.length,I p.1,I p.2.1],ow s2.2 (p.2.2:List aE),.box 2 [.h s2.1 x1.1.Global.length,.h s2.2 p.2.2.length]]) Q (eY aC [1,4] Q<|fun hF=>bd hF fun x10 hA1 hF=>bd hF fun x11 hA2 hF=>cY Q Q (have hq1:=rb hA1;wi hq1<|bZ 0 0 0 3 [] Q Q Q Q Q (fun h=>aD (c:=(⟨c.b,x6.2.1,x6.2.2⟩:aM)) (h.a h1)) fun u1 _=>fun hq1=>match u1,hq1 with | _,rfl=>ltK oI () ([1,2,3]:List Int) aT Q Q Q Q Q Q Q Q Q Q (fun _=>Q) fun s9=>have hq2:=rb hA2;wi hq2<|jI cW 3 Q Q Q fun u2 h5 s10 h6=>fun hq2=>eV 3 h6 h5 Q Q Q Q Q<|match u2,hq2 with | _,rfl=>sF Q<|uW cW 6 [5] [26,29] (⟨([1,2,3]:List Int)⟩:aE) s9 Q Q Q Q Q Q Q Q<|C4 s2.2 List.length_set.symm [(6,1)] [(4,1)] Q Q Q<|fR Q Q<|eX (p:=(x10.2.1,x10.2.2,x1.1.bD.set x10.1.toNat (⟨([1,2,3]:List Int)⟩:aE))) () [0,10,4,1,2] hF Q) (ltK oI () ([1,2,3]:List Int) aT Q Q Q Q Q Q Q Q Q Q (fun _=>Q) fun s11=>have hq3:=rb hA1;wi hq3<|bZ 0 0 0 3 [] Q Q Q Q Q (fun h=>aD (c:=(⟨c.b,x6.2.1,x6.2.2⟩:aM)) (h.a h1)) fun u3 _=>fun hq3=>match u3,hq3 with | _,rfl=>have hq4:=rb hA2;wi hq4<|jI cW 3 Q Q Q fun u4 h7 s12 h8=>fun hq4=>eV 3 h8 h7 Q Q Q Q Q<|match u4,hq4 with | _,rfl=>sF Q<|uW cW 6 [5] [26,29] (⟨([1,2,3]:List Int)⟩:aE) s11 Q Q Q Q Q Q Q Q<|C4 s2.2 List.length_set.symm [(6,1)] [(4,1)] Q Q Q<|fR Q Q<|eX (p:=(x10.2.1,x10.2.2,x1.1.bD.set x10.1.toNat (⟨([1,2,3]:List Int)⟩:aE))) () [0,10,4,1,2] hF Q)) fun⟨x7,x8,x9⟩ _=>fN (p:=(x7,x8,x1.1.Global,x9)) (s2.1,s2.2) [0,4,1,2,3] Q Q)<|bN [35,36] Q Q (bZ 0 0 0 3 [] Q Q Q Q Q (fun h=>aD (c:=(⟨c.b,x6.2.1,x6.2.2⟩:aM)) (h.a h1)) fun x12 _=>dL 0 3 (fun(p:Int×Int×(List aE))=>ED x1 p.1 p.2.1 p.2.2) [0,2,3] (fun(p:Int×Int×(List aE)) (_:Unit)=>[]) [1,3] (fun p _=>[.box 0 [.h s1 c.b.length,I p.1,I p.2.1],ow s2.1 (p.2.2:List aE),.box 2 [.h s2.1 p.2.2.length,.h s2.2 x1.1.bD.length]]) Q (eY aC [1,4] Q<|jI cW 2 Q Q Q fun x16 h9 s13 h10=>fun hF=>eV 3 h10 h9 Q Q Q Q Q<|bd hF fun x17 hA3 hF=>nd hF fun hA4 hF=>cY Q Q (ltK oI () ([(-1),24,5,6]:List Int) aT Q Q Q Q Q Q Q Q Q Q (fun _=>Q) fun s17=>have hq5:=rb hA3;wi hq5<|bZ 0 0 0 3 [] Q Q Q Q Q (fun h=>d8 (c:=(⟨c.b,x12.2.1,x12.2.2⟩:aM)) (h.a h1) (h.o 9 Q Q)) fun u5 _=>fun hq5=>match u5,hq5 with | _,rfl=>WT Q aT Q Q Q Q fun s18=>have hq6:=rn hA4;ap 8 aT Q Q Q Q Q Q Q (fun h=>(h.o 10 Q)) Q Q hq6 fun hq6 s19=>eV 3 h10 h9 Q Q Q Q Q<|sF Q<|uW cW 5 [8] [40,43] (⟨x16.aL++([x17.1])⟩:aE) s19 Q Q Q Q Q Q Q Q<|C4 s2.1 List.length_set.symm [(6,0)] [(4,0)] Q Q Q<|fR Q Q<|eX (p:=(x17.2.1,x17.2.2,x1.1.Global.set x12.1.toNat (⟨x16.aL++([x17.1])⟩:aE))) () [0,11,4,1,3] hF Q) (ltK oI () ([(-1),24,5,6]:List Int) aT Q Q Q Q Q Q Q Q Q Q (fun _=>Q) fun s20=>cY Q Q (have hq7:=rb hA3;wi hq7<|bZ 0 0 0 3 [] Q Q Q Q Q (fun h=>d8 (c:=(⟨c.b,x12.2.1,x12.2.2⟩:aM)) (h.a h1) (h.o 9 Q Q)) fun u6 _=>fun hq7=>match u6,hq7 with | _,rfl=>WT Q aT Q Q Q Q fun s21=>have hq8:=rn hA4;ap 8 aT Q Q Q Q Q Q Q (fun h=>(h.o 10 Q)) Q Q hq8 fun hq8 s22=>eV 3 h10 h9 Q Q Q Q Q<|sF Q<|uW cW 5 [8] [40,43] (⟨x16.aL++([x17.1])⟩:aE) s22 Q Q Q Q Q Q Q Q<|C4 s2.1 List.length_set.symm [(6,0)] [(4,0)] Q Q Q<|fR Q Q<|eX (p:=(x17.2.1,x17.2.2,x1.1.Global.set x12.1.toNat (⟨x16.aL++([x17.1])⟩:aE))) () [0,11,4,1,3] hF Q) (have hq9:=rb hA3;wi hq9<|bZ 0 0 0 3 [] Q Q Q Q Q (fun h=>d8 (c:=(⟨c.b,x12.2.1,x12.2.2⟩:aM)) (h.a h1) (h.o 9 Q Q)) fun u7 _=>fun hq9=>match u7,hq9 with | _,rfl=>cY Q Q (WT Q aT Q Q Q Q fun s23=>have hq10:=rn hA4;ap 8 aT Q Q Q Q Q Q Q (fun h=>(h.o 10 Q)) Q Q hq10 fun hq10 s24=>eV 3 h10 h9 Q Q Q Q Q<|sF Q<|uW cW 5 [8] [40,43] (⟨x16.aL++([x17.1])⟩:aE) s24 Q Q Q Q Q Q Q Q<|C4 s2.1 List.length_set.symm [(6,0)] [(4,0)] Q Q Q<|fR Q Q<|eX (p:=(x17.2.1,x17.2.2,x1.1.Global.set x12.1.toNat (⟨x16.aL++([x17.1])⟩:aE))) () [0,11,4,1,3] hF Q) (WT Q aT Q Q Q Q fun s25=>have hq11:=rn hA4;ap 8 aT Q Q Q Q Q Q Q (fun h=>(h.o 10 Q)) Q Q hq11 fun hq11 s26=>eV 3 h10 h9 Q Q Q Q Q<|sF Q<|uW cW 5 [8] [40,43] (⟨x16.aL++([x17.1])⟩:aE) s26 Q Q Q Q Q Q Q Q<|C4 s2.1 List.length_set.symm [(6,0)] [(4,0)] Q Q Q<|fR Q Q<|eX (p:=(x17.2.1,x17.2.2,x1.1.Global.set x12.1.toNat (⟨x16.aL++([x17.1])⟩:aE))) () [0,11,4,1,3] hF Q)))) fun⟨x13,x14,x15⟩ _=>fN (p:=(x13,x14,x15,x1.1.bD)) (s2.1,s2.2) [0,1,4,2,3] Q Q)<|fN (p:=(x6.2.1,x6.2.2,x1.1.Global,x1.1.bD)) (s2.1,s2.2) [0,2,3,4,1] Q Q) fun⟨x2,x3,x4,x5⟩ ⟨s3,s4⟩=>eB (s3,s4) [0,1,2] Q Q
theorem YM{c:aM}{s1:AC}{b0:Nat×Nat}(h1:bS κ s1 c.b):VS Tryz.prog κ 227 (GD c) [.p 0 0] [b0] [.box 0 [.h s1 c.b.length,I c.i,I c.h]] (fun(r:Mem×Int×(Int×Int)) (y:U1)=>.t [.g (yM r.1 y),I r.2.1]) (fun(r:Mem×Int×(Int×Int)) (y:U1)=>([.box 0 [.h s1 c.b.length,I r.2.2.1,I r.2.2.2]]++(zM r.1 y []))):=
 cM tok Tryz.call227 Tryz.func227 Tryz.results227 Q Q<|bZ 0 0 0 3 [] Q Q Q Q Q (fun h=>V5 (h.a h1)) fun x1 s2=>dL 1 3 (fun(p:Int×Int×Int×Mem)=>sE c p.1 p.2.1 p.2.2.1 p.2.2.2) [0,2,4] (fun(p:Int×Int×Int×Mem) (_:Unit)=>[(5,I p.1)]) [1] (fun p _=>([.box 0 [.h s1 c.b.length,I p.2.1,I p.2.2.1]]++(zM p.2.2.2 s2 [.box 2 (yM p.2.2.2 s2)]))) Q (bZ 0 0 0 3 [] Q Q Q Q Q (fun h=>sJ (c:=(⟨c.b,x1.2.2.1,x1.2.2.2⟩:aM)) (h.a h1)) fun x12 _=>bN [12] Q Q (bZ 0 0 0 3 [] Q Q Q Q Q (fun h=>tM (c:=(⟨c.b,x12.2.1,x12.2.2⟩:aM)) (h.a h1)) fun x13 _=>b8 (p:=(x13.1,x13.2.1,x13.2.2,x1.1)) [0,2,3,4,5,6,1] Q Q)<|b8 (p:=(x1.2.1,x12.2.1,x12.2.2,x1.1)) [0,2,3,4,5,6,1] Q Q) fun⟨x2,x3,x4,x5⟩ _=>dL 1 3 (fun(p:Int×Int×Mem)=>sD x2 p.1 p.2.1 p.2.2) [0,2,4,5] (fun(p:Int×Int×Mem) (u:U1)=>[]) [6] (fun p u=>([.box 0 [.h s1 c.b.length,I p.1,I p.2.1]]++(zM p.2.2 u [.box 2 (yM p.2.2 u)]))) Q (bZ 0 0 0 3 [] Q Q Q Q Q (fun h=>aD (c:=(⟨c.b,x3,x4⟩:aM)) (h.a h1)) fun x9 _=>bN [17,18] Q Q (bZ 0 0 0 3 [] Q Q Q Q Q (fun h=>YK (c:=(⟨c.b,x9.2.1,x9.2.2⟩:aM)) (h.a h1)) fun x10 s7=>fN (p:=(x10.2.1,x10.2.2,(⟨x10.1,x5.aA⟩:Mem))) (s7.1,s7.2,s2.2.2.1,s2.2.2.2) [0,7,8,3,4,5,6] Q Q)<|bN [22,23] Q Q (bZ 0 0 0 3 [] Q Q Q Q Q (fun h=>YL (c:=(⟨c.b,x9.2.1,x9.2.2⟩:aM)) (h.a h1)) fun x11 s8=>fN (p:=(x11.2.1,x11.2.2,(⟨x5.aB,x11.1⟩:Mem))) (s2.1,s2.2.1,s8.1,s8.2) [0,1,2,7,8,5,6] Q Q)<|fN (p:=(x9.2.1,x9.2.2,x5)) s2 [0,1,2,3,4,5,6] Q Q) fun⟨x6,x7,x8⟩ ⟨s3,s4,s5,s6⟩=>eB (s3,s4,s5,s6) [0,1,2,3,4] Q Q
theorem QI{c:aM}{s1:AC}{b0:Nat×Nat}(h1:bS κ s1 c.b):VS Tryz.prog κ 346 (yP c) [.p 0 0] [b0] [.box 0 [.h s1 c.b.length,I c.i,I c.h]] (fun(r:aK×(Int×Int)) (y:AC)=>.g [I r.1.aI,.h y r.1.bM.length]) (fun(r:aK×(Int×Int)) (y:AC)=>[.box 0 [.h s1 c.b.length,I r.2.1,I r.2.2],ow y r.1.bM]):=
 cM tok Tryz.call346 Tryz.func346 Tryz.results346 Q Q<|c1 Q (fun _=>HD) fun x1 s2=>bZ 0 0 0 3 [] Q Q Q Q Q (fun h=>aD (h.a h1)) fun x2 _=>J1 s2 [0,2,3] (fun(p:Int×Int×Int×Int×(List gQ)) (s4:AC)=>[(4,I p.1)]) [0,2,3,1] [1] (fun p s4=>[.box 0 [.h s1 c.b.length,I p.2.1,I p.2.2.1],ow s4 (p.2.2.2.2:List gQ),.box 2 [I p.2.2.2.1,.h s4 p.2.2.2.2.length]]) id [0,2,3] (fun(p:Int×Int×Int×(List gQ)) (s5:AC)=>[]) [1] (fun p s5=>[.box 0 [.h s1 c.b.length,I p.1,I p.2.1],ow s5 (p.2.2.2:List gQ),.box 2 [I p.2.2.1,.h s5 p.2.2.2.length]]) Q Q (fun hF1 ⟨x8,x9,x10,x11,x12⟩ s4 hr1=>bN [11] Q Q (bZ 0 0 0 3 [] Q Q Q Q Q (fun h=>aD (c:=(⟨c.b,x9,x10⟩:aM)) (h.a h1)) fun x17 _=>dL 1 4 (fun(p:Int×Int×Int×(List gQ))=>jN x8 p.1 p.2.1 p.2.2.1 p.2.2.2) [0,2,3,4,6] (fun(p:Int×Int×Int×(List gQ)) (s6:AC)=>[]) [3,1,2] (fun p s6=>[.box 0 [.h s1 c.b.length,I p.1,I p.2.1],ow s6 (p.2.2.2:List gQ),.box 3 [I p.2.2.1,.h s6 p.2.2.2.length]]) Q (bZ 0 0 0 3 [] Q Q Q Q Q (fun h=>aD (c:=(⟨c.b,x17.2.1,x17.2.2⟩:aM)) (h.a h1)) fun x22 _=>bN [26,27] Q Q (c1 Q (fun h=>M4 (c:=(⟨x11,x12⟩:aK)) (h.o 1 Q)) fun x23 s7=>fN (p:=(x22.2.1,x22.2.2,x23.1.aI,x23.1.bM)) s7 [0,5,4,3,1,2] Q Q)<|bN [36,37] Q Q (c1 Q (fun h=>M5 (c:=(⟨x11,x12⟩:aK)) (h.o 1 Q)) fun x24 s8=>fN (p:=(x22.2.1,x22.2.2,x24.1.aI,x24.1.bM)) s8 [0,5,4,3,1,2] Q Q)<|dF 0 4 (q8 x8 x11 x12 x17 x22) [0,2,3,4,5,6] 44 [0,3,1,2,4] Q (bN [44,45] Q Q (b8 [0,3,1,2,4] Q Q)<|b8 [0,3,1,2,4] Q Q) fun x25=>bN [44] Q Q (c1 Q (fun h=>KW (c:=(⟨x11,x12⟩:aK)) (h.o 2 Q)) fun x26 s9=>fN (p:=(x22.2.1,x22.2.2,x26.1.aI,x26.1.bM)) s9 [0,5,4,1,2,3] Q Q)<|c1 Q (fun h=>O1 (c:=(⟨x11,x12⟩:aK)) (h.o 2 Q)) fun x27 s10=>fN (p:=(x22.2.1,x22.2.2,x27.1.aI,x27.1.bM)) s10 [0,5,4,1,2,3] Q Q) fun⟨x18,x19,x20,x21⟩ s6=>Q9 s6 [0,1,5,3] Q)<|SI s4 [0,1,2,3] Q) fun⟨x13,x14,x15,x16⟩ s5=>eB s5 [0,1] Q Q
theorem V7{c:aM}{s1:AC}{b0:Nat×Nat}(h1:bS κ s1 c.b):VS Tryz.prog κ 228 (DR c) [.p 0 0] [b0] [.box 0 [.h s1 c.b.length,I c.i,I c.h]] (fun(r:aK×(Int×Int)) (y:AC)=>.g [I r.1.aI,.h y r.1.bM.length]) (fun(r:aK×(Int×Int)) (y:AC)=>[.box 0 [.h s1 c.b.length,I r.2.1,I r.2.2],ow y r.1.bM]):=
 cM tok Tryz.call228 Tryz.func228 Tryz.results228 Q Q<|bZ 0 0 0 3 [] Q Q Q Q Q (fun h=>QI (h.a h1)) fun x1 s2=>bZ 0 0 0 3 [] Q Q Q Q Q (fun h=>aD (c:=(⟨c.b,x1.2.1,x1.2.2⟩:aM)) (h.a h1)) fun x2 _=>dL 1 3 (fun(p:Int×Int×Int×(List gQ))=>fV p.1 p.2.1 p.2.2.1 p.2.2.2) [0,2,3] (fun(p:Int×Int×Int×(List gQ)) (s3:AC)=>[]) [1] (fun p s3=>[.box 0 [.h s1 c.b.length,I p.1,I p.2.1],ow s3 (p.2.2.2:List gQ),.box 2 [I p.2.2.1,.h s3 p.2.2.2.length]]) Q (bZ 0 0 0 3 [] Q Q Q Q Q (fun h=>aD (c:=(⟨c.b,x2.2.1,x2.2.2⟩:aM)) (h.a h1)) fun x7 _=>bN [11,12] Q Q (fun hF=>ltK oI () ([(-1),100000,100001]:List Int) aT Q Q Q Q Q Q Q Q Q Q (fun _=>Q) fun s4=>wi hF<|bZ 0 0 0 3 [] Q Q Q Q Q (fun h=>d8 (c:=(⟨c.b,x7.2.1,x7.2.2⟩:aM)) (h.a h1) (h.o 4 Q Q)) fun x8 _=>fN (p:=(x8.2.1,x8.2.2,x8.1,x1.1.bM)) s2 [0,2,3,1] Q Q)<|bN [17,18] Q Q (fun hF=>Z2 2 Q Q fun hc1=>SH hc1 Q Q Q Q Q Q hF fun hF h2=>sF Q<|poR 2 0 x2.1.toNat Q Q h2 Q<|eX (p:=(x7.2.1,x7.2.2,x1.1.aI,(x1.1.bM.take x2.1.toNat).drop 0)) (AC.sub s2 4 0) [0,2,3,1] hF Q)<|bN [24,25] Q Q (jI AE 2 Q Q Q fun x9 h3 _ h4=>fun hF=>eV 3 h4 h3 Q Q Q Q Q<|sF Q<|uW AE 4 [] [27] (⟨false,1,false,0⟩:gQ) () Q Q Q Q Q Q Q Q<|C4 s2 List.length_set.symm [(6,1)] [(3,1)] Q Q Q<|fR Q Q<|eX (p:=(x7.2.1,x7.2.2,x1.1.aI,x1.1.bM.set x2.1.toNat (⟨false,1,false,0⟩:gQ))) s2 [0,7,3,1] hF Q)<|bN [31,32] Q Q (jI AE 2 Q Q Q fun x10 h5 _ h6=>fun hF=>eV 3 h6 h5 Q Q Q Q Q<|sF Q<|uW AE 4 [] [34] (⟨true,aW (x1.1.aI+1),false,0⟩:gQ) () Q Q Q Q Q Q Q Q<|C4 s2 List.length_set.symm [(6,1)] [(3,1)] Q Q Q<|fR Q Q<|eX (p:=(x7.2.1,x7.2.2,x1.1.aI,x1.1.bM.set x2.1.toNat (⟨true,aW (x1.1.aI+1),false,0⟩:gQ))) s2 [0,7,3,1] hF Q)<|bN [41,42] Q Q (jI AE 2 Q Q Q fun x11 h7 _ h8=>fun hF=>eV 3 h8 h7 Q Q Q Q Q<|sF Q<|uW AE 4 [] [44] (⟨true,0,false,3⟩:gQ) () Q Q Q Q Q Q Q Q<|C4 s2 List.length_set.symm [(6,1)] [(3,1)] Q Q Q<|fR Q Q<|eX (p:=(x7.2.1,x7.2.2,x1.1.aI,x1.1.bM.set x2.1.toNat (⟨true,0,false,3⟩:gQ))) s2 [0,7,3,1] hF Q)<|bN [48,49] Q Q (jI AE 2 Q Q Q fun x12 h9 _ h10=>fun hF=>eV 3 h10 h9 Q Q Q Q Q<|sF Q<|uW AE 4 [] [51] (⟨true,0,true,0⟩:gQ) () Q Q Q Q Q Q Q Q<|C4 s2 List.length_set.symm [(6,1)] [(3,1)] Q Q Q<|fR Q Q<|eX (p:=(x7.2.1,x7.2.2,x1.1.aI,x1.1.bM.set x2.1.toNat (⟨true,0,true,0⟩:gQ))) s2 [0,7,3,1] hF Q)<|fN (p:=(x7.2.1,x7.2.2,x1.1.aI,x1.1.bM)) s2 [0,2,3,1] Q Q) fun⟨x3,x4,x5,x6⟩ s3=>eB s3 [0,1] Q Q
theorem QJ{l:List aN}{w_ h e_:Int}{s1:AC}(h1:bS κ s1 l):VS Tryz.prog κ 422 (yQ l w_ h e_) [.h s1 l.length,I w_,I h,I e_] [] [] (fun r (y:AC)=>.t [.h y r.1.length,.b r.2]) (fun r y=>[ow y r.1]):=
 cM tok Tryz.call422 Tryz.func422 Tryz.results422 Q Q<|c1 Q (fun h=>CK (h.a h1)) fun x1 s2=>dF 0 0 (q9 l w_ h e_ x1) [0,1,2,3,10] 20 [0] Q (c0 Q (fun h=>CJ (h.a h1)) fun x6=>dZ [15,16] Q Q (b8 [0] Q Q)<|c0 Q (fun _=>a8) fun x7=>b8 [0] Q Q) fun x2=>bN [20] Q Q (eB s2 [0] Q Q)<|jI cL 0 Q Q Q fun x3 h2 s3 h3=>fun hF=>eV 0 h3 h2 Q Q Q Q Q<|X9 fM [] ((⟨h,e_⟩:bJ)) () cE Q Q Q Q Q Q Q Q Q Q Q Q Q fun s4=>ap 4 cE Q Q Q Q Q Q Q (fun h=>(h.o 5 Q)) Q Q hF fun hF s5=>eV 0 h3 h2 Q Q Q Q Q<|ceS cL 1 [4] [10,22,24,36] (⟨x3.Rows++([(⟨h,e_⟩:bJ)])⟩:aN) s5 Q Q Q Q Q Q Q Q Q Q<|wi hF<|c0 Q (fun h=>CJ (h.o 6 Q)) fun x4=>bN [38] Q Q (c1 Q (fun h=>CK (h.a h1)) fun x5 s6=>eB s6 [7] Q Q)<|eB s2 [6] Q Q
theorem QK{c:aM}{s1:AC}{b0:Nat×Nat}(h1:bS κ s1 c.b):VS Tryz.prog κ 347 (yR c) [.p 0 0] [b0] [.box 0 [.h s1 c.b.length,I c.i,I c.h]] (fun(r:(List aN)×(Int×Int)) (y:AC)=>.h y r.1.length) (fun(r:(List aN)×(Int×Int)) (y:AC)=>[.box 0 [.h s1 c.b.length,I r.2.1,I r.2.2],ow y r.1]):=
 cM tok Tryz.call347 Tryz.func347 Tryz.results347 Q Q<|c1 Q (fun _=>HE) fun x1 s2=>bZ 0 0 0 3 [] Q Q Q Q Q (fun h=>aD (h.a h1)) fun x2 _=>J1 s2 [0] (fun(p:(List aN)×Int×Int×Int) (s4:AC)=>[(3,.h s4 p.1.length),(4,I p.2.1)]) [1,0] [] (fun p s4=>[ow s4 (p.1:List aN),.box 0 [.h s1 c.b.length,I p.2.2.1,I p.2.2.2]]) id [0] (fun(p:(List aN)×Int×Int) (s5:AC)=>[(3,.h s5 p.1.length)]) [] (fun p s5=>[ow s5 (p.1:List aN),.box 0 [.h s1 c.b.length,I p.2.1,I p.2.2]]) Q Q (fun hF1 ⟨x7,x8,x9,x10⟩ s4 hr1=>bN [11] Q Q (bZ 1 0 0 3 [] Q Q Q Q Q (fun h=>aD (c:=(⟨c.b,x9,x10⟩:aM)) (h.a h1)) fun x14 _=>bZ 1 0 0 3 [] Q Q Q Q Q (fun h=>tM (c:=(⟨c.b,x14.2.1,x14.2.2⟩:aM)) (h.a h1)) fun x15 _=>bZ 1 0 0 3 [] Q Q Q Q Q (fun h=>aD (c:=(⟨c.b,x15.2.1,x15.2.2⟩:aM)) (h.a h1)) fun x16 _=>c1 Q (fun h=>QJ (h.o 0 Q)) fun x17 s6=>Q9 s6 [2,1] Q)<|SI s4 [0,1] Q) fun⟨x11,x12,x13⟩ s5=>eB s5 [1,0] Q Q
theorem V8{c:aM}{s1:AC}{b0:Nat×Nat}(h1:bS κ s1 c.b):VS Tryz.prog κ 229 (DS c) [.p 0 0] [b0] [.box 0 [.h s1 c.b.length,I c.i,I c.h]] (fun(r:(List aN)×(Int×Int)) (y:AC)=>.h y r.1.length) (fun(r:(List aN)×(Int×Int)) (y:AC)=>[.box 0 [.h s1 c.b.length,I r.2.1,I r.2.2],ow y r.1]):=
 cM tok Tryz.call229 Tryz.func229 Tryz.results229 Q Q<|bZ 0 0 0 3 [] Q Q Q Q Q (fun h=>QK (h.a h1)) fun x1 s2=>dL 1 1 (fun(p:(List aN)×Int×Int)=>mJ p.1 p.2.1 p.2.2) [0] (fun(p:(List aN)×Int×Int) (_:Unit)=>[(3,.h s2 p.1.length)]) [] (fun p _=>[ow s2 (p.1:List aN),.box 0 [.h s1 c.b.length,I p.2.1,I p.2.2]]) Q (bZ 0 0 0 3 [] Q Q Q Q Q (fun h=>aD (c:=(⟨c.b,x1.2.1,x1.2.2⟩:aM)) (h.a h1)) fun x5 _=>bN [8,9] Q Q (fun hF=>Z2 1 Q Q fun hc1=>SH hc1 Q Q Q Q Q Q hF fun hF h2=>sR Q<|poR 1 0 ((1:Int).toNat) Q Q h2 Q<|J0 (hT:=tok) (AC.sub s2 1 0) [0,1] hF Q Tryz.results229 Q Q Q Q)<|bN [12,13] Q Q (jI cL 1 Q Q Q fun x6 h3 s3 h4=>fun hF=>eV 1 h4 h3 Q Q Q Q Q<|ltK fM () ([(⟨33,1⟩:bJ),(⟨65,1⟩:bJ)]:List bJ) cE Q Q Q Q Q Q Q Q Q Q (fun _=>Q) fun s4=>ap 5 cE Q Q Q Q Q Q Q (fun h=>(h.o 6 Q)) Q Q hF fun hF s5=>eV 1 h4 h3 Q Q Q Q Q<|sF Q<|uW cL 2 [5] [3,5,14,15] (⟨x6.Rows++([(⟨33,1⟩:bJ),(⟨65,1⟩:bJ)]:List bJ)⟩:aN) s5 Q Q Q Q Q Q Q Q<|eX (p:=(x1.1.set ((0:Int).toNat) (⟨x6.Rows++([(⟨33,1⟩:bJ),(⟨65,1⟩:bJ)]:List bJ)⟩:aN),x5.2.1,x5.2.2)) () [7,0] hF Q)<|bN [25,26] Q Q (dL 0 1 (fun(p:(List aN)×Int×Int)=>CC p.1 p.2.1 p.2.2) [0] (fun(p:(List aN)×Int×Int) (_:Unit)=>[(3,.h s2 p.1.length)]) [] (fun p _=>[ow s2 (p.1:List aN),.box 0 [.h s1 c.b.length,I p.2.1,I p.2.2]]) Q (eY aC [] Q<|jI cL 1 Q Q Q fun x10 h5 s6 h6=>fun hF=>eV 1 h6 h5 Q Q Q Q Q<|bd hF fun x11 hA1 hF=>nd hF fun hA2 hF=>cY Q Q (have hq1:=rb hA1;wi hq1<|bZ 0 0 0 3 [] Q Q Q Q Q (fun h=>tM (c:=(⟨c.b,x5.2.1,x5.2.2⟩:aM)) (h.a h1)) fun u1 _=>fun hq1=>match u1,hq1 with | _,rfl=>X9 fM [] ((⟨x11.1,(-1)⟩:bJ)) () cE Q Q Q Q Q Q Q Q Q Q Q Q Q fun s9=>have hq2:=rn hA2;ap 5 cE Q Q Q Q Q Q Q (fun h=>(h.o 6 Q)) Q Q hq2 fun hq2 s10=>eV 1 h6 h5 Q Q Q Q Q<|sF Q<|uW cL 2 [5] [3,5,27,28] (⟨x10.Rows++([(⟨x11.1,(-1)⟩:bJ)])⟩:aN) s10 Q Q Q Q Q Q Q Q<|eX (p:=(x1.1.set ((1:Int).toNat) (⟨x10.Rows++([(⟨x11.1,(-1)⟩:bJ)])⟩:aN),x11.2.1,x11.2.2)) () [7,0] hF Q) (have hq3:=rb hA1;wi hq3<|bZ 0 0 0 3 [] Q Q Q Q Q (fun h=>tM (c:=(⟨c.b,x5.2.1,x5.2.2⟩:aM)) (h.a h1)) fun u2 _=>fun hq3=>match u2,hq3 with | _,rfl=>cY Q Q (X9 fM [] ((⟨x11.1,(-1)⟩:bJ)) () cE Q Q Q Q Q Q Q Q Q Q Q Q Q fun s11=>have hq4:=rn hA2;ap 5 cE Q Q Q Q Q Q Q (fun h=>(h.o 6 Q)) Q Q hq4 fun hq4 s12=>eV 1 h6 h5 Q Q Q Q Q<|sF Q<|uW cL 2 [5] [3,5,27,28] (⟨x10.Rows++([(⟨x11.1,(-1)⟩:bJ)])⟩:aN) s12 Q Q Q Q Q Q Q Q<|eX (p:=(x1.1.set ((1:Int).toNat) (⟨x10.Rows++([(⟨x11.1,(-1)⟩:bJ)])⟩:aN),x11.2.1,x11.2.2)) () [7,0] hF Q) (X9 fM [] ((⟨x11.1,(-1)⟩:bJ)) () cE Q Q Q Q Q Q Q Q Q Q Q Q Q fun s13=>have hq5:=rn hA2;ap 5 cE Q Q Q Q Q Q Q (fun h=>(h.o 6 Q)) Q Q hq5 fun hq5 s14=>eV 1 h6 h5 Q Q Q Q Q<|sF Q<|uW cL 2 [5] [3,5,27,28] (⟨x10.Rows++([(⟨x11.1,(-1)⟩:bJ)])⟩:aN) s14 Q Q Q Q Q Q Q Q<|eX (p:=(x1.1.set ((1:Int).toNat) (⟨x10.Rows++([(⟨x11.1,(-1)⟩:bJ)])⟩:aN),x11.2.1,x11.2.2)) () [7,0] hF Q))) fun⟨x7,x8,x9⟩ _=>b8 (p:=(x7,x8,x9)) [0,1] Q Q)<|bN [39,40] Q Q (jI cL 1 Q Q Q fun x12 h7 s15 h8=>fun hF=>eV 1 h8 h7 Q Q Q Q Q<|X9 fM [] ((⟨0,0⟩:bJ)) () cE Q Q Q Q Q Q Q Q Q Q Q Q Q fun s16=>ap 5 cE Q Q Q Q Q Q Q (fun h=>(h.o 6 Q)) Q Q hF fun hF s17=>eV 1 h8 h7 Q Q Q Q Q<|sF Q<|uW cL 2 [5] [3,5,41,42] (⟨x12.Rows++([(⟨0,0⟩:bJ)])⟩:aN) s17 Q Q Q Q Q Q Q Q<|eX (p:=(x1.1.set ((2:Int).toNat) (⟨x12.Rows++([(⟨0,0⟩:bJ)])⟩:aN),x5.2.1,x5.2.2)) () [7,0] hF Q)<|b8 (p:=(x1.1,x5.2.1,x5.2.2)) [1,0] Q Q) fun⟨x2,x3,x4⟩ _=>eB s2 [1,0] Q Q
theorem V9{c:aM}{s1:AC}{b0:Nat×Nat}(h1:bS κ s1 c.b):VS Tryz.prog κ 230 (DT c) [.p 0 0] [b0] [.box 0 [.h s1 c.b.length,I c.i,I c.h]] (fun(r:(List Int)×(Int×Int)) (y:AC)=>.h y r.1.length) (fun(r:(List Int)×(Int×Int)) (y:AC)=>[.box 0 [.h s1 c.b.length,I r.2.1,I r.2.2],ow y r.1]):=
 cM tok Tryz.call230 Tryz.func230 Tryz.results230 Q Q<|c1 Q (fun _=>K6) fun x1 s2=>bZ 0 0 0 3 [] Q Q Q Q Q (fun h=>aD (h.a h1)) fun x2 _=>J1 s2 [0] (fun(p:(List Int)×Int×Int×Int) (s4:AC)=>[(3,.h s4 p.1.length),(4,I p.2.1)]) [1,0] [] (fun p s4=>[ow s4 (p.1:List Int),.box 0 [.h s1 c.b.length,I p.2.2.1,I p.2.2.2]]) id [0] (fun(p:(List Int)×Int×Int) (s5:AC)=>[(3,.h s5 p.1.length)]) [] (fun p s5=>[ow s5 (p.1:List Int),.box 0 [.h s1 c.b.length,I p.2.1,I p.2.2]]) Q Q (fun hF1 ⟨x7,x8,x9,x10⟩ s4 hr1=>bN [11] Q Q (bZ 1 0 0 3 [] Q Q Q Q Q (fun h=>aD (c:=(⟨c.b,x9,x10⟩:aM)) (h.a h1)) fun x21 _=>bZ 1 0 0 3 [] Q Q Q Q Q (fun h=>aD (c:=(⟨c.b,x21.2.1,x21.2.2⟩:aM)) (h.a h1)) fun x22 _=>bZ 1 0 0 3 [] Q Q Q Q Q (fun h=>aD (c:=(⟨c.b,x22.2.1,x22.2.2⟩:aM)) (h.a h1)) fun x23 _=>c0 Q (fun _=>AF) fun x24=>c1 Q (fun h=>I0 (h.o 0 Q)) fun x25 s7=>Q9 s7 [2,1] Q)<|SI s4 [0,1] Q) fun⟨x11,x12,x13⟩ s5=>dL 1 1 (fun(p:(List Int)×Int×Int)=>wD p.1 p.2.1 p.2.2) [0] (fun(p:(List Int)×Int×Int) (_:Unit)=>[(3,.h s5 p.1.length)]) [] (fun p _=>[ow s5 (p.1:List Int),.box 0 [.h s1 c.b.length,I p.2.1,I p.2.2]]) Q (bZ 1 0 0 3 [] Q Q Q Q Q (fun h=>aD (c:=(⟨c.b,x12,x13⟩:aM)) (h.a h1)) fun x17 _=>bN [30,31] Q Q (fun hF=>Z2 0 Q Q fun hc1=>SH hc1 Q Q Q Q Q Q hF fun hF h2=>sR Q<|poR 0 0 ((2:Int).toNat) Q Q h2 Q<|J0 (hT:=tok) (AC.sub s5 1 0) [1,0] hF Q Tryz.results230 Q Q Q Q)<|bN [34,35] Q Q (bZ 1 0 0 3 [] Q Q Q Q Q (fun h=>aD (c:=(⟨c.b,x17.2.1,x17.2.2⟩:aM)) (h.a h1)) fun x18 _=>fun hF=>ltK oI () ([(-1),31,56,224]:List Int) aT Q Q Q Q Q Q Q Q Q Q (fun _=>Q) fun s6=>wi hF<|bZ 1 0 0 3 [] Q Q Q Q Q (fun h=>d8 (c:=(⟨c.b,x18.2.1,x18.2.2⟩:aM)) (h.a h1) (h.o 2 Q Q)) fun x19 _=>jI oI 0 Q Q Q fun x20 h3 _ h4=>fun hF=>eV 1 h4 h3 Q Q Q Q Q<|sF Q<|uW oI 3 [] [3,36] x19.1 () Q Q Q Q Q Q Q Q<|eX (p:=(x11.set x18.1.toNat x19.1,x19.2.1,x19.2.2)) () [6,1] hF Q)<|b8 (p:=(x11,x17.2.1,x17.2.2)) [0,1] Q Q) fun⟨x14,x15,x16⟩ _=>eB s5 [1,0] Q Q
theorem WA{c:aM}{s1:AC}{b0:Nat×Nat}(h1:bS κ s1 c.b):VS Tryz.prog κ 128 (DU c) [.p 0 0] [b0] [.box 0 [.h s1 c.b.length,I c.i,I c.h]] (fun(r:aG×Int×(Int×Int)) (y:LP)=>.t [.g (yB r.1 y),I r.2.1]) (fun(r:aG×Int×(Int×Int)) (y:LP)=>([.box 0 [.h s1 c.b.length,I r.2.2.1,I r.2.2.2]]++(zB r.1 y []))):=
 cM tok Tryz.call128 Tryz.func128 Tryz.results128 Q Q<|bZ 0 0 0 3 [] Q Q Q Q Q (fun h=>T1 (h.a h1)) fun x1 s2=>dL 1 3 (fun(p:Int×Int×aG)=>jT x1 p.1 p.2.1 p.2.2) [0,2,4,5] (fun(p:Int×Int×aG) (u:LP)=>[]) [1] (fun p u=>([.box 0 [.h s1 c.b.length,I p.1,I p.2.1]]++(zB p.2.2 u [.box 2 (yB p.2.2 u)]))) Q (bZ 0 0 0 3 [] Q Q Q Q Q (fun h=>aD (c:=(⟨c.b,x1.2.2.1,x1.2.2.2⟩:aM)) (h.a h1)) fun x5 _=>bN [13,14] Q Q (bZ 0 0 0 3 [] Q Q Q Q Q (fun h=>YM (c:=(⟨c.b,x5.2.1,x5.2.2⟩:aM)) (h.a h1)) fun x6 s10=>fN (p:=(x6.2.2.1,x6.2.2.2,(⟨x6.1,x1.1.aK,x1.1.aP,x1.1.nZ⟩:aG))) (s10.1,s10.2.1,s10.2.2.1,s10.2.2.2,s2.2.2.2.2.1,s2.2.2.2.2.2.1,s2.2.2.2.2.2.2) [0,10,11,12,13,6,7,8,9,1] Q Q)<|bN [21,22] Q Q (bZ 0 0 0 3 [] Q Q Q Q Q (fun h=>V7 (c:=(⟨c.b,x5.2.1,x5.2.2⟩:aM)) (h.a h1)) fun x7 s11=>fN (p:=(x7.2.1,x7.2.2,(⟨x1.1.Mem,x7.1,x1.1.aP,x1.1.nZ⟩:aG))) (s2.1,s2.2.1,s2.2.2.1,s2.2.2.2.1,s11,s2.2.2.2.2.2.1,s2.2.2.2.2.2.2) [0,2,3,4,5,10,7,8,9,1] Q Q)<|bN [26,27] Q Q (bZ 0 0 0 3 [] Q Q Q Q Q (fun h=>V8 (c:=(⟨c.b,x5.2.1,x5.2.2⟩:aM)) (h.a h1)) fun x8 s12=>fN (p:=(x8.2.1,x8.2.2,(⟨x1.1.Mem,x1.1.aK,x8.1,x1.1.nZ⟩:aG))) (s2.1,s2.2.1,s2.2.2.1,s2.2.2.2.1,s2.2.2.2.2.1,s12,s2.2.2.2.2.2.2) [0,2,3,4,5,6,10,8,9,1] Q Q)<|bN [31,32] Q Q (bZ 0 0 0 3 [] Q Q Q Q Q (fun h=>V9 (c:=(⟨c.b,x5.2.1,x5.2.2⟩:aM)) (h.a h1)) fun x9 s13=>fN (p:=(x9.2.1,x9.2.2,(⟨x1.1.Mem,x1.1.aK,x1.1.aP,x9.1⟩:aG))) (s2.1,s2.2.1,s2.2.2.1,s2.2.2.2.1,s2.2.2.2.2.1,s2.2.2.2.2.2.1,s13) [0,2,3,4,5,6,7,10,9,1] Q Q)<|fN (p:=(x5.2.1,x5.2.2,x1.1)) s2 [0,2,3,4,5,6,7,8,9,1] Q Q) fun⟨x2,x3,x4⟩ ⟨s3,s4,s5,s6,s7,s8,s9⟩=>eB (s3,s4,s5,s6,s7,s8,s9) [0,1,2,3,4,5,6,7] Q Q
theorem OH{code:List UInt8}{s1:AC}(h1:bS κ s1 code):VS Tryz.prog κ 40 (wF code) [.h s1 code.length] [] [] (fun r (y:LP)=>.g (yB r y)) (fun r y=>(zB r y [])):=
 cM tok Tryz.call40 Tryz.func40 Tryz.results40 Q Q<|cP Q (fun h=>YJ (h.a h1)) fun x1=>bZ 1 1 0 3 [] Q Q Q Q Q (fun h=>WA (c:=(⟨code,x1.1,x1.2⟩:aM)) (h.a h1)) fun x2 s2=>eB s2 [2,3,4,5,6,7,8] Q Q
theorem fA{b:aG}{w_:Int}{s:Sub}{s1 s2 s3 s4 s5 s6 s7:AC}(h1:bS κ s1 b.Mem.aB.Bytes)(h2:bS κ s2 b.Mem.aB.Class)(h3:bS κ s3 b.Mem.aA.Global)(h4:bS κ s4 b.Mem.aA.bD)(h5:bS κ s5 b.aK.bM)(h6:bS κ s6 b.aP)(h7:bS κ s7 b.nZ):VS Tryz.prog κ 41 (DV b w_ s) [.g (gB b s1 s2 s3 s4 s5 s6 s7),I w_,.g [I s.Kind,I s.A,I s.Pc,I s.E,I s.Row,I s.B,I s.H,I s.Out,I s.Code,.b s.dV]] [] [] (fun r (y:LP)=>.t [.g (yB r.1 y),.g [I r.2.Kind,I r.2.A,I r.2.Pc,I r.2.E,I r.2.Row,I r.2.B,I r.2.H,I r.2.Out,I r.2.Code,.b r.2.dV]]) (fun r y=>(zB r.1 y [])):=
 cM tok Tryz.call41 Tryz.func41 Tryz.results41 Q Q<|c1 Q (fun h=>QA (h.a h1) (h.a h2) (h.a h3) (h.a h4) (h.a h5) (h.a h6) (h.a h7)) fun x1 s8=>dL 0 5 (fun(p:Bool×aG)=>wG w_ s p.1 p.2) [1,5,6,7,8] (fun(p:Bool×aG) (_:Unit)=>[(18,.b p.1)]) [1,2,3] (fun p _=>(zB p.2 s8 [.box 4 (yB p.2 s8)])) Q (c0 Q (fun h=>V1 (h.a h1) (h.a h2) (h.a h3) (h.a h4) (h.a h5) (h.a h6) (h.a h7)) fun x13=>dZ [13,14] Q Q (b8 (p:=(true,x1)) [4,5,6,7,8,9,10,11,1,2,3] Q Q)<|c0 Q (fun _=>gC) fun x14=>b8 (p:=(!x14,x1)) [4,5,6,7,8,9,10,11,1,2,3] Q Q) fun⟨x2,x3⟩ _=>bN [18] Q Q (eY aC [7,8] Q<|eB s8 [0,1,2,3,4,5,6] Q Q)<|J1 (s8.1,s8.2.1,s8.2.2.1,s8.2.2.2.1,s8.2.2.2.2.1,s8.2.2.2.2.2.1) [1,5,6,7,8] (fun(p:Int×Sub×aG) (u:A6C)=>[(21,I p.1)]) [8,0,1,2,3,4,5,6,7,9,10] [9,10] (fun p u=>([.box 1 [I p.2.1.Kind,I p.2.1.A,I p.2.1.Pc,I p.2.1.E,I p.2.1.Row,I p.2.1.B,I p.2.1.H,I p.2.1.Out,I p.2.1.Code,.b p.2.1.dV]]++(oB p.2.2 u.1 u.2.1 u.2.2.1 u.2.2.2.1 u.2.2.2.2.1 u.2.2.2.2.2 s8.2.2.2.2.2.2 [.box 4 (gB p.2.2 u.1 u.2.1 u.2.2.1 u.2.2.2.1 u.2.2.2.2.1 u.2.2.2.2.2 s8.2.2.2.2.2.2)]))) id [5,6,7,8] (fun(p:Sub×aG) (u:A6C)=>[]) [9,10] (fun p u=>([.box 1 [I p.1.Kind,I p.1.A,I p.1.Pc,I p.1.E,I p.1.Row,I p.1.B,I p.1.H,I p.1.Out,I p.1.Code,.b p.1.dV]]++(oB p.2 u.1 u.2.1 u.2.2.1 u.2.2.2.1 u.2.2.2.2.1 u.2.2.2.2.2 s8.2.2.2.2.2.2 [.box 4 (gB p.2 u.1 u.2.1 u.2.2.1 u.2.2.2.1 u.2.2.2.2.1 u.2.2.2.2.2 s8.2.2.2.2.2.2)]))) Q Q (fun hF2 ⟨x7,x8,x9⟩ ⟨s15,s16,s17,s18,s19,s20⟩ hr2=>bN [22] Q Q (aBJ 0 1 0 10 8 4 0 8 [1,2,3,4,5,6,7] Q Q Q Q Q (fun _=>QH) fun x12 s27=>Q9 s27 [0,11,12,13,14,15,16,17,8,9,10] Q)<|SI (s15,s16,s17,s18,s19,s20) [0,1,2,3,4,5,6,7,8,9,10] Q) fun⟨x10,x11⟩ ⟨s21,s22,s23,s24,s25,s26⟩=>eY aC [0,8] Q<|eB (s21,s22,s23,s24,s25,s26,s8.2.2.2.2.2.2) [1,2,3,4,5,6,7] Q Q
theorem aEA{code:List UInt8}{i:Int}{s1:AC}(h1:bS κ s1 code):V0 Tryz.prog κ 46 (RB code i) [.h s1 code.length,I i] I:=
 cM tok Tryz.call46 Tryz.func46 Tryz.results46 Q Q<|bN [8] Q Q (OW cU Q h1 Q fun x1 _ _=>cV Q Q)<|cV Q Q
theorem K7{z:List Int}{h:Int}{s1:AC}(h1:bS κ s1 z):VS Tryz.prog κ 48 (zN z h) [.h s1 z.length,I h] [] [] (fun r (y:AC)=>.h y r.length) (fun r y=>[ow y r]):=
 cM tok Tryz.call48 Tryz.func48 Tryz.results48 Q Q<|fun hF=>X7 (α:=Int) aT Q Q Q Q fun s2=>wi hF<|J1 s2 [0,1] (fun(p:(List Int)×Int) (s4:AC)=>[(5,.h s4 p.1.length),(6,I p.2)]) [0] [] (fun p s4=>[ow s4 (p.1:List Int)]) id [] (fun(x5:(List Int)) (s5:AC)=>[(5,.h s5 x5.length)]) [] (fun x5 s5=>[ow s5 (x5:List Int)]) Q Q (fun hF1 ⟨x3,x4⟩ s4 hr1=>dF 0 0 (mK z h x3 x4) [0,1,5,6] 19 [0] Q (dZ [11,12] Q Q (c0 Q (fun h=>BL (h.a h1)) fun x9=>dZ [14,15,16] Q Q (b8 [0] Q Q)<|b8 [0] Q Q)<|b8 [0] Q Q) fun x6=>bN [19] Q Q (dL 2 0 (wH x4) [0,1,6] (fun(x7:(List Int)) (s6:AC)=>[(5,.h s6 x7.length)]) [] (fun x7 s6=>[ow s6 (x7:List Int)]) Q (L7 Q h1 Q fun x8=>bN [27] Q Q (fun hG1=>WT Q aT Q Q Q Q fun s7=>ap 0 aT Q Q Q Q Q Q Q (fun h=>(h.o 2 Q)) Q Q hG1 fun hG1 s8=>wi hG1<|fN s8 [0] Q Q)<|fN s4 [0] Q Q) fun x7 s6=>Q9 s6 [0] Q)<|SI s4 [0] Q) fun x5 s5=>eB s5 [0] Q Q
theorem YN{m:Mem}{h:Int}{s1 s2 s3 s4:AC}(h1:bS κ s1 m.aB.Bytes)(h2:bS κ s2 m.aB.Class)(h3:bS κ s3 m.aA.Global)(h4:bS κ s4 m.aA.bD):V0 Tryz.prog κ 49 (GG m h) [.g (gM m s1 s2 s3 s4),I h] .b:=
 cM tok Tryz.call49 Tryz.func49 Tryz.results49 Q Q<|dF 0 1 yS [] 4 [] Q (c0 Q (fun h=>wM (h.a h1) (h.a h2) (h.a h3) (h.a h4)) fun x2=>dZ [6,7] Q Q (c0 Q (fun h=>qA (h.a h1) (h.a h2) (h.a h3) (h.a h4)) fun x3=>b8 [] Q Q)<|b8 [] Q Q) fun x1=>cV Q Q
theorem QL{b:aG}{slot:Int}{s1 s2 s3 s4 s5 s6 s7:AC}(h1:bS κ s1 b.Mem.aB.Bytes)(h2:bS κ s2 b.Mem.aB.Class)(h3:bS κ s3 b.Mem.aA.Global)(h4:bS κ s4 b.Mem.aA.bD)(h5:bS κ s5 b.aK.bM)(h6:bS κ s6 b.aP)(h7:bS κ s7 b.nZ):V0 Tryz.prog κ 139 (yT b slot) [.g (gB b s1 s2 s3 s4 s5 s6 s7),I slot] I:=
 cM tok Tryz.call139 Tryz.func139 Tryz.results139 Q Q<|c0 Q (fun h=>IV (h.a h1) (h.a h2) (h.a h3) (h.a h4)) fun x1=>dF 0 1 (mL x1) [5] 18 [] Q (dZ [11,12] Q Q (c0 Q (fun h=>IZ (h.a h6)) fun x3=>b8 [] Q Q)<|b8 [] Q Q) fun x2=>bN [18] Q Q (cV Q Q)<|cV Q Q
theorem NB{b:aG}{s1 s2 s3 s4 s5 s6 s7:AC}(h1:bS κ s1 b.Mem.aB.Bytes)(h2:bS κ s2 b.Mem.aB.Class)(h3:bS κ s3 b.Mem.aA.Global)(h4:bS κ s4 b.Mem.aA.bD)(h5:bS κ s5 b.aK.bM)(h6:bS κ s6 b.aP)(h7:bS κ s7 b.nZ):VS Tryz.prog κ 50 (CD b) [.g (gB b s1 s2 s3 s4 s5 s6 s7)] [] [] (fun r (y:AC)=>.h y r.length) (fun r y=>[ow y r]):=
 cM tok Tryz.call50 Tryz.func50 Tryz.results50 Q Q<|fun hF=>mks (0:Int) aT (fun w=>aHE Q w) Q Q Q Q Q Q Q hF fun hF s8=>wi hF<|c0 Q (fun h=>yW (h.a h1) (h.a h2) (h.a h3) (h.a h4) (h.a h5) (h.a h6) (h.a h7)) fun x1=>J1 () [1,4] (fun(p:(List Int)×Int) (_:Unit)=>[(3,.h s8 p.1.length),(5,I p.2)]) [1,0] [0] (fun p _=>[ow s8 (p.1:List Int)]) id [] (fun(x6:(List Int)) (_:Unit)=>[(3,.h s8 x6.length)]) [] (fun x6 _=>[ow s8 (x6:List Int)]) Q Q (fun hF1 ⟨x4,x5⟩ _ hr1=>dF 0 1 (sG b x4 x5) [1,3,4,5] 14 [0,1] Q (dZ [11,12] Q Q (b8 [0,1] Q Q)<|b8 [0,1] Q Q) fun x7=>bN [14] Q Q (c0 Q (fun h=>QL (h.a h1) (h.a h2) (h.a h3) (h.a h4) (h.a h5) (h.a h6) (h.a h7)) fun x8=>jI oI 0 Q Q Q fun x9 h8 _ h9=>fun hG1=>eV 1 h9 h8 Q Q Q Q Q<|eV 1 h9 h8 Q Q Q Q Q<|sF Q<|uW oI 2 [] [3,20,22] (aW (x9+1)) () Q Q Q Q Q Q Q Q<|nxR () [5,1] hG1 Q)<|FR [0] Q) fun x6 _=>eB s8 [0] Q Q
theorem NC{code:List UInt8}{s1:AC}(h1:bS κ s1 code):V0 Tryz.prog κ 8 (AB code) [.h s1 code.length] .b:=
 cM tok Tryz.call8 Tryz.func8 Tryz.results8 Q Q<|c0 Q (fun h=>aBO (h.a h1)) fun x1=>bN [14] Q Q (cV Q Q)<|c1 Q (fun h=>OH (h.a h1)) fun x2 s2=>c0 Q (fun h=>aEA (h.a h1)) fun x3=>c0 Q (fun h=>yW (h.o 0 Q) (h.o 1 Q) (h.o 2 Q) (h.o 3 Q) (h.o 4 Q) (h.o 5 Q) (h.o 6 Q)) fun x4=>bN [22] Q Q (cV Q Q)<|dL 0 3 (fun(p:aG×aG×Sub)=>uA x3 p.1 p.2.1 p.2.2) [3,4] (fun(p:aG×aG×Sub) (u:LP)=>[(5,.p 1 0),(6,.p 2 0)]) [] (fun p u=>(zB p.1 s2 ([.box 0 (yB p.1 s2)]))++(zB p.2.1 u [.box 1 (yB p.2.1 u),.box 2 [I p.2.2.Kind,I p.2.2.A,I p.2.2.Pc,I p.2.2.E,I p.2.2.Row,I p.2.2.B,I p.2.2.H,I p.2.2.Out,I p.2.2.Code,.b p.2.2.dV]])) Q (eY aC [7] Q<|fun hF=>bd hF fun x73 hA1 hF=>bd hF fun x74 hA2 hF=>aD5 Q Q (have hq1:=rb hA1;wi hq1<|c0 Q (fun _=>d7) fun u1=>fun hq1=>match u1,hq1 with | _,rfl=>aD5 Q Q (have hq2:=rb hA2;wi hq2<|c1 Q (fun h=>fA (h.o 0 Q) (h.o 1 Q) (h.o 2 Q) (h.o 3 Q) (h.o 4 Q) (h.o 5 Q) (h.o 6 Q)) fun u2 s19=>fun hq2=>match u2,hq2 with | _,rfl=>cY Q Q (wi hF<|fN (p:=(x2,x74.1,x74.2)) s19 [0,1,2,3,4,5,6,7,8,9,10,11,12,13,14,15,16] Q Q) (sF Q<|Y8 2 1 Q<|fD Q Q<|eX (p:=(x2,x74.1,x74.2)) s19 [0,1,2,3,4,5,6,7,8,9,10,11,12,13,14,16,15] hF Q)) (cY Q Q (have hq3:=rb hA2;wi hq3<|c1 Q (fun h=>fA (h.o 0 Q) (h.o 1 Q) (h.o 2 Q) (h.o 3 Q) (h.o 4 Q) (h.o 5 Q) (h.o 6 Q)) fun u3 s20=>fun hq3=>match u3,hq3 with | _,rfl=>wi hF<|fN (p:=(x2,x74.1,x74.2)) s20 [0,1,2,3,4,5,6,7,9,10,11,12,13,14,15,8,16] Q Q) (have hq4:=rb hA2;wi hq4<|c1 Q (fun h=>fA (h.o 0 Q) (h.o 1 Q) (h.o 2 Q) (h.o 3 Q) (h.o 4 Q) (h.o 5 Q) (h.o 6 Q)) fun u4 s21=>fun hq4=>match u4,hq4 with | _,rfl=>wi hF<|fN (p:=(x2,x74.1,x74.2)) s21 [0,1,2,3,4,5,6,7,10,11,12,13,14,15,16,8,9] Q Q)) (cY Q Q (have hq5:=rb hA2;wi hq5<|c1 Q (fun h=>fA (h.o 0 Q) (h.o 1 Q) (h.o 2 Q) (h.o 3 Q) (h.o 4 Q) (h.o 5 Q) (h.o 6 Q)) fun u5 s22=>fun hq5=>match u5,hq5 with | _,rfl=>sF Q<|Y8 2 1 Q<|fD Q Q<|eX (p:=(x2,x74.1,x74.2)) s22 [0,1,2,3,4,5,6,7,9,10,11,12,13,14,15,16,8] hF Q) (have hq6:=rb hA2;wi hq6<|c1 Q (fun h=>fA (h.o 0 Q) (h.o 1 Q) (h.o 2 Q) (h.o 3 Q) (h.o 4 Q) (h.o 5 Q) (h.o 6 Q)) fun u6 s23=>fun hq6=>match u6,hq6 with | _,rfl=>sF Q<|Y8 2 1 Q<|fD Q Q<|eX (p:=(x2,x74.1,x74.2)) s23 [0,1,2,3,4,5,6,7,10,11,12,13,14,15,16,9,8] hF Q))) (cY Q Q (have hq7:=rb hA1;wi hq7<|c0 Q (fun _=>d7) fun u7=>fun hq7=>match u7,hq7 with | _,rfl=>cY Q Q (have hq8:=rb hA2;wi hq8<|c1 Q (fun h=>fA (h.o 0 Q) (h.o 1 Q) (h.o 2 Q) (h.o 3 Q) (h.o 4 Q) (h.o 5 Q) (h.o 6 Q)) fun u8 s24=>fun hq8=>match u8,hq8 with | _,rfl=>wi hF<|fN (p:=(x2,x74.1,x74.2)) s24 [0,1,2,3,4,5,6,7,9,10,11,12,13,14,15,8,16] Q Q) (have hq9:=rb hA2;wi hq9<|c1 Q (fun h=>fA (h.o 0 Q) (h.o 1 Q) (h.o 2 Q) (h.o 3 Q) (h.o 4 Q) (h.o 5 Q) (h.o 6 Q)) fun u9 s25=>fun hq9=>match u9,hq9 with | _,rfl=>wi hF<|fN (p:=(x2,x74.1,x74.2)) s25 [0,1,2,3,4,5,6,7,10,11,12,13,14,15,16,8,9] Q Q)) (have hq10:=rb hA1;wi hq10<|c0 Q (fun _=>d7) fun u10=>fun hq10=>match u10,hq10 with | _,rfl=>have hq11:=rb hA2;wi hq11<|c1 Q (fun h=>fA (h.o 0 Q) (h.o 1 Q) (h.o 2 Q) (h.o 3 Q) (h.o 4 Q) (h.o 5 Q) (h.o 6 Q)) fun u11 s26=>fun hq11=>match u11,hq11 with | _,rfl=>wi hF<|fN (p:=(x2,x74.1,x74.2)) s26 [0,1,2,3,4,5,6,7,10,11,12,13,14,15,16,8,9] Q Q)) (cY Q Q (have hq12:=rb hA1;wi hq12<|c0 Q (fun _=>d7) fun u12=>fun hq12=>match u12,hq12 with | _,rfl=>cY Q Q (have hq13:=rb hA2;wi hq13<|c1 Q (fun h=>fA (h.o 0 Q) (h.o 1 Q) (h.o 2 Q) (h.o 3 Q) (h.o 4 Q) (h.o 5 Q) (h.o 6 Q)) fun u13 s27=>fun hq13=>match u13,hq13 with | _,rfl=>sF Q<|Y8 2 1 Q<|fD Q Q<|eX (p:=(x2,x74.1,x74.2)) s27 [0,1,2,3,4,5,6,7,9,10,11,12,13,14,15,16,8] hF Q) (have hq14:=rb hA2;wi hq14<|c1 Q (fun h=>fA (h.o 0 Q) (h.o 1 Q) (h.o 2 Q) (h.o 3 Q) (h.o 4 Q) (h.o 5 Q) (h.o 6 Q)) fun u14 s28=>fun hq14=>match u14,hq14 with | _,rfl=>sF Q<|Y8 2 1 Q<|fD Q Q<|eX (p:=(x2,x74.1,x74.2)) s28 [0,1,2,3,4,5,6,7,10,11,12,13,14,15,16,9,8] hF Q)) (have hq15:=rb hA1;wi hq15<|c0 Q (fun _=>d7) fun u15=>fun hq15=>match u15,hq15 with | _,rfl=>have hq16:=rb hA2;wi hq16<|c1 Q (fun h=>fA (h.o 0 Q) (h.o 1 Q) (h.o 2 Q) (h.o 3 Q) (h.o 4 Q) (h.o 5 Q) (h.o 6 Q)) fun u16 s29=>fun hq16=>match u16,hq16 with | _,rfl=>sF Q<|Y8 2 1 Q<|fD Q Q<|eX (p:=(x2,x74.1,x74.2)) s29 [0,1,2,3,4,5,6,7,10,11,12,13,14,15,16,9,8] hF Q))) fun⟨x5,x6,x7⟩ ⟨s3,s4,s5,s6,s7,s8,s9⟩=>dL 0 3 (fun(p:Bool×aG×aG)=>t9 x3 x7 p.1 p.2.1 p.2.2) [3,4,5,6] (fun(p:Bool×aG×aG) (_:Unit)=>[(62,.b p.1)]) [16] (fun p _=>(zB p.2.1 s2 ([.box 0 (yB p.2.1 s2)]))++(oB p.2.2 s3 s4 s5 s6 s7 s8 s9 [.box 1 (gB p.2.2 s3 s4 s5 s6 s7 s8 s9)])) Q (dL 0 3 (fun(p:Bool×aG×aG)=>gO x3 x7 p.1 p.2.1 p.2.2) [3,4,5,6] (fun(p:Bool×aG×aG) (_:Unit)=>[(62,.b p.1)]) [16] (fun p _=>(zB p.2.1 s2 ([.box 0 (yB p.2.1 s2)]))++(oB p.2.2 s3 s4 s5 s6 s7 s8 s9 [.box 1 (gB p.2.2 s3 s4 s5 s6 s7 s8 s9)])) Q (eY aC [7,15,16] Q<|dZ [32,33] Q Q (b8 (p:=(true,x5,x6)) [0,1,2,3,4,5,6,7,8,9,10,11,12,13,14,15,16] Q Q)<|dZ [36,37,38] Q Q (b8 (p:=(true,x5,x6)) [0,1,2,3,4,5,6,7,8,9,10,11,12,13,14,15,16] Q Q)<|c0 Q (fun h=>yW (h.o 8 Q) (h.o 9 Q) (h.o 10 Q) (h.o 11 Q) (h.o 12 Q) (h.o 13 Q) (h.o 14 Q)) fun x70=>dZ [41,42,43] Q Q (b8 (p:=(true,x5,x6)) [0,1,2,3,4,5,6,7,8,9,10,11,12,13,14,15,16] Q Q)<|jI cL 13 Q Q Q fun x71 h38 s16 h39=>fun hF=>eV 3 h39 h38 Q Q Q Q Q<|wi hF<|jI cL 5 Q Q Q fun x72 h40 s17 h41=>fun hF=>eV 4 h41 h40 Q Q Q Q Q<|cY Q Q (sF Q<|fF cL 21 [24] h40 s17 Q Q Q Q Q Q Q<|fF cL 17 [20] h38 s16 Q Q Q Q Q Q Q<|eX (p:=((aW ((x71.Rows.length:Int)+x7.Out)) != (x72.Rows.length:Int),x5,x6)) () [0,1,2,3,4,25,6,7,8,9,10,11,12,26,14,15,16] hF Q) (sF Q<|fF cL 21 [24] h40 s17 Q Q Q Q Q Q Q<|fF cL 17 [20] h38 s16 Q Q Q Q Q Q Q<|eX (p:=((aW ((x71.Rows.length:Int)+x7.Out)) != (x72.Rows.length:Int),x5,x6)) () [0,1,2,3,4,25,6,7,8,9,10,11,12,26,14,15,16] hF Q)) fun⟨x67,x68,x69⟩ _=>b8 (p:=(x67,x68,x69)) [0,1,2,3,4,5,6,7,8,9,10,11,12,13,14,15,16] Q Q) fun⟨x8,x9,x10⟩ _=>bN [62] Q Q (cV Q Q)<|J1 () [3,4,5,6] (fun(p:Int×aG×aG) (_:Unit)=>[(7,I p.1)]) [0,1,2,3,4,5,6,7,8,9,10,11,12,13,14,15,16] [16] (fun p _=>(zB p.2.1 s2 ([.box 0 (yB p.2.1 s2)]))++(oB p.2.2 s3 s4 s5 s6 s7 s8 s9 [.box 1 (gB p.2.2 s3 s4 s5 s6 s7 s8 s9)])) Out.brk [3,4,5,6] (fun(p:aG×aG) (_:Unit)=>[]) [16] (fun p _=>(zB p.1 s2 ([.box 0 (yB p.1 s2)]))++(oB p.2 s3 s4 s5 s6 s7 s8 s9 [.box 1 (gB p.2 s3 s4 s5 s6 s7 s8 s9)])) Q Q (fun hF3 ⟨x14,x15,x16⟩ _ hr3=>jI cL 13 Q Q Q fun x60 h34 s14 h35=>fun hG3=>eV 3 h35 h34 Q Q Q Q Q<|wi hG3<|bN [71] Q Q (fun hG3=>eV 3 h35 h34 Q Q Q Q Q<|wi hG3<|jI fM 20 Q Q Q fun x61 h36 _ h37=>fun hG3=>eV 4 h37 h36 Q Q Q Q Q<|wi hG3<|dL 0 6 (fun(p:Bool×aG×aG)=>nI x14 p.1 p.2.1 p.2.2) [3,4,5,6,7] (fun(p:Bool×aG×aG) (_:Unit)=>[(96,.b p.1)]) [16] (fun p _=>(zB p.2.1 s2 ([.box 0 (yB p.2.1 s2)]))++(oB p.2.2 s3 s4 s5 s6 s7 s8 s9 [.box 1 (gB p.2.2 s3 s4 s5 s6 s7 s8 s9)])) Q (c0 Q (fun _=>DW) fun x65=>dZ [87,88] Q Q (c1 Q (fun h=>K7 (h.o 6 Q)) fun x66 s15=>fun hG3=>sF Q<|fF fM 21 [] h36 () Q Q Q Q Q Q Q<|fF cL 17 [26] h34 s14 Q Q Q Q Q Q Q<|eX (p:=((x66.length:Int) == 0,x15,x16)) () [0,1,2,3,4,5,6,7,8,9,10,11,12,27,14,15,16] hG3 Q)<|fun hG3=>sF Q<|fF fM 21 [] h36 () Q Q Q Q Q Q Q<|fF cL 17 [25] h34 s14 Q Q Q Q Q Q Q<|eX (p:=(false,x15,x16)) () [0,1,2,3,4,5,6,7,8,9,10,11,12,26,14,15,16] hG3 Q) fun⟨x62,x63,x64⟩ _=>bN [96] Q Q (H4 hr3 hF3<|cV Q Q)<|EV [0,1,2,3,4,5,6,7,8,9,10,11,12,13,14,15,16] Q)<|fun hG3=>sX Q<|fF cL 17 [20] h34 s14 Q Q Q Q Q Q Q<|bkR () [0,1,2,3,4,5,6,7,8,9,10,11,12,21,14,15,16] hG3 hr3 Q) fun⟨x17,x18⟩ _=>J1 () [3,4,5,6] (fun(p:Int×aG×aG) (_:Unit)=>[(9,I p.1)]) [0,1,2,3,4,5,6,7,8,9,10,11,12,13,14,15,16] [16] (fun p _=>(zB p.2.1 s2 ([.box 0 (yB p.2.1 s2)]))++(oB p.2.2 s3 s4 s5 s6 s7 s8 s9 [.box 1 (gB p.2.2 s3 s4 s5 s6 s7 s8 s9)])) Out.brk [3,5,6] (fun(p:aG×aG) (_:Unit)=>[]) [16] (fun p _=>(zB p.1 s2 ([.box 0 (yB p.1 s2)]))++(oB p.2 s3 s4 s5 s6 s7 s8 s9 [.box 1 (gB p.2 s3 s4 s5 s6 s7 s8 s9)])) Q Q (fun hF4 ⟨x22,x23,x24⟩ _ hr4=>jI cL 5 Q Q Q fun x52 h30 s12 h31=>fun hG4=>eV 3 h31 h30 Q Q Q Q Q<|wi hG4<|bN [105] Q Q (fun hG4=>eV 3 h31 h30 Q Q Q Q Q<|wi hG4<|jI fM 20 Q Q Q fun x53 h32 _ h33=>fun hG4=>eV 4 h33 h32 Q Q Q Q Q<|wi hG4<|dL 0 6 (fun(p:Bool×aG×aG)=>jW x22 p.1 p.2.1 p.2.2) [3,4,5,6,9] (fun(p:Bool×aG×aG) (_:Unit)=>[(137,.b p.1)]) [16] (fun p _=>(zB p.2.1 s2 ([.box 0 (yB p.2.1 s2)]))++(oB p.2.2 s3 s4 s5 s6 s7 s8 s9 [.box 1 (gB p.2.2 s3 s4 s5 s6 s7 s8 s9)])) Q (c0 Q (fun _=>DW) fun x57=>dZ [121,122] Q Q (c1 Q (fun h=>K7 (h.o 6 Q)) fun x58 s13=>dZ [129,130,131] Q Q (c0 Q (fun h=>YN (h.o 8 Q) (h.o 9 Q) (h.o 10 Q) (h.o 11 Q)) fun x59=>fun hG4=>sF Q<|fF fM 21 [] h32 () Q Q Q Q Q Q Q<|fF cL 17 [26] h30 s12 Q Q Q Q Q Q Q<|eX (p:=(x59,x23,x24)) () [0,1,2,3,4,27,6,7,8,9,10,11,12,13,14,15,16] hG4 Q)<|fun hG4=>sF Q<|fF fM 21 [] h32 () Q Q Q Q Q Q Q<|fF cL 17 [26] h30 s12 Q Q Q Q Q Q Q<|eX (p:=(false,x23,x24)) () [0,1,2,3,4,27,6,7,8,9,10,11,12,13,14,15,16] hG4 Q)<|fun hG4=>sF Q<|fF fM 21 [] h32 () Q Q Q Q Q Q Q<|fF cL 17 [25] h30 s12 Q Q Q Q Q Q Q<|eX (p:=(false,x23,x24)) () [0,1,2,3,4,26,6,7,8,9,10,11,12,13,14,15,16] hG4 Q) fun⟨x54,x55,x56⟩ _=>bN [137] Q Q (H4 hr4 hF4<|cV Q Q)<|EV [0,1,2,3,4,5,6,7,8,9,10,11,12,13,14,15,16] Q)<|fun hG4=>sX Q<|fF cL 17 [20] h30 s12 Q Q Q Q Q Q Q<|bkR () [0,1,2,3,4,21,6,7,8,9,10,11,12,13,14,15,16] hG4 hr4 Q) fun⟨x25,x26⟩ _=>c1 Q (fun h=>NB (h.o 0 Q) (h.o 1 Q) (h.o 2 Q) (h.o 3 Q) (h.o 4 Q) (h.o 5 Q) (h.o 6 Q)) fun x27 s10=>c1 Q (fun h=>NB (h.o 8 Q) (h.o 9 Q) (h.o 10 Q) (h.o 11 Q) (h.o 12 Q) (h.o 13 Q) (h.o 14 Q)) fun x28 s11=>dF 0 3 jV [] 2 [] Q (eY aC [7,15,16] Q<|jI oI 18 Q Q Q fun x30 h2 _ h3=>fun hF=>eV 3 h3 h2 Q Q Q Q Q<|wi hF<|jI oI 17 Q Q Q fun x31 h4 _ h5=>fun hF=>eV 4 h5 h4 Q Q Q Q Q<|cY Q Q (wi hF<|dZ [148,149] Q Q (fun hF=>cqS oI 22 [] h4 () Q Q Q Q Q Q Q Q Q<|cqS oI 19 [] h2 () Q Q Q Q Q Q Q Q Q<|wi hF<|jI oI 26 Q Q Q fun x32 h6 _ h7=>fun hF=>eV 5 h7 h6 Q Q Q Q Q<|wi hF<|jI oI 25 Q Q Q fun x33 h8 _ h9=>fun hF=>eV 6 h9 h8 Q Q Q Q Q<|cY Q Q (wi hF<|dZ [156,157,158] Q Q (fun hF=>cqS oI 30 [] h8 () Q Q Q Q Q Q Q Q Q<|cqS oI 27 [] h6 () Q Q Q Q Q Q Q Q Q<|wi hF<|jI oI 34 Q Q Q fun x34 h10 _ h11=>fun hF=>eV 7 h11 h10 Q Q Q Q Q<|wi hF<|jI oI 33 Q Q Q fun x35 h12 _ h13=>fun hF=>eV 8 h13 h12 Q Q Q Q Q<|cY Q Q (wi hF<|dZ [168,169,170] Q Q (c0 Q (fun _=>d7) fun x36=>Z3 Tryz.underlying72 Q Q Q Q Q Q Q<|fun hF=>sF Q<|fF oI 38 [] h12 () Q Q Q Q Q Q Q<|fF oI 35 [] h10 () Q Q Q Q Q Q Q<|eX (p:=(x36.A == 4)) () [] hF Q)<|fun hF=>sF Q<|fF oI 38 [] h12 () Q Q Q Q Q Q Q<|fF oI 35 [] h10 () Q Q Q Q Q Q Q<|eX (p:=(false)) () [] hF Q) (wi hF<|dZ [168,169,170] Q Q (c0 Q (fun _=>d7) fun x37=>Z3 Tryz.underlying72 Q Q Q Q Q Q Q<|fun hF=>sF Q<|fF oI 38 [] h12 () Q Q Q Q Q Q Q<|fF oI 35 [] h10 () Q Q Q Q Q Q Q<|eX (p:=(x37.A == 4)) () [] hF Q)<|fun hF=>sF Q<|fF oI 38 [] h12 () Q Q Q Q Q Q Q<|fF oI 35 [] h10 () Q Q Q Q Q Q Q<|eX (p:=(false)) () [] hF Q))<|fun hF=>sF Q<|fF oI 30 [] h8 () Q Q Q Q Q Q Q<|fF oI 27 [] h6 () Q Q Q Q Q Q Q<|eX (p:=(false)) () [] hF Q) (wi hF<|dZ [156,157,158] Q Q (fun hF=>cqS oI 30 [] h8 () Q Q Q Q Q Q Q Q Q<|cqS oI 27 [] h6 () Q Q Q Q Q Q Q Q Q<|wi hF<|jI oI 34 Q Q Q fun x38 h14 _ h15=>fun hF=>eV 7 h15 h14 Q Q Q Q Q<|wi hF<|jI oI 33 Q Q Q fun x39 h16 _ h17=>fun hF=>eV 8 h17 h16 Q Q Q Q Q<|cY Q Q (wi hF<|dZ [168,169,170] Q Q (c0 Q (fun _=>d7) fun x40=>Z3 Tryz.underlying72 Q Q Q Q Q Q Q<|fun hF=>sF Q<|fF oI 38 [] h16 () Q Q Q Q Q Q Q<|fF oI 35 [] h14 () Q Q Q Q Q Q Q<|eX (p:=(x40.A == 4)) () [] hF Q)<|fun hF=>sF Q<|fF oI 38 [] h16 () Q Q Q Q Q Q Q<|fF oI 35 [] h14 () Q Q Q Q Q Q Q<|eX (p:=(false)) () [] hF Q) (wi hF<|dZ [168,169,170] Q Q (c0 Q (fun _=>d7) fun x41=>Z3 Tryz.underlying72 Q Q Q Q Q Q Q<|fun hF=>sF Q<|fF oI 38 [] h16 () Q Q Q Q Q Q Q<|fF oI 35 [] h14 () Q Q Q Q Q Q Q<|eX (p:=(x41.A == 4)) () [] hF Q)<|fun hF=>sF Q<|fF oI 38 [] h16 () Q Q Q Q Q Q Q<|fF oI 35 [] h14 () Q Q Q Q Q Q Q<|eX (p:=(false)) () [] hF Q))<|fun hF=>sF Q<|fF oI 30 [] h8 () Q Q Q Q Q Q Q<|fF oI 27 [] h6 () Q Q Q Q Q Q Q<|eX (p:=(false)) () [] hF Q))<|fun hF=>sF Q<|fF oI 22 [] h4 () Q Q Q Q Q Q Q<|fF oI 19 [] h2 () Q Q Q Q Q Q Q<|eX (p:=(false)) () [] hF Q) (wi hF<|dZ [148,149] Q Q (fun hF=>cqS oI 22 [] h4 () Q Q Q Q Q Q Q Q Q<|cqS oI 19 [] h2 () Q Q Q Q Q Q Q Q Q<|wi hF<|jI oI 26 Q Q Q fun x42 h18 _ h19=>fun hF=>eV 5 h19 h18 Q Q Q Q Q<|wi hF<|jI oI 25 Q Q Q fun x43 h20 _ h21=>fun hF=>eV 6 h21 h20 Q Q Q Q Q<|cY Q Q (wi hF<|dZ [156,157,158] Q Q (fun hF=>cqS oI 30 [] h20 () Q Q Q Q Q Q Q Q Q<|cqS oI 27 [] h18 () Q Q Q Q Q Q Q Q Q<|wi hF<|jI oI 34 Q Q Q fun x44 h22 _ h23=>fun hF=>eV 7 h23 h22 Q Q Q Q Q<|wi hF<|jI oI 33 Q Q Q fun x45 h24 _ h25=>fun hF=>eV 8 h25 h24 Q Q Q Q Q<|cY Q Q (wi hF<|dZ [168,169,170] Q Q (c0 Q (fun _=>d7) fun x46=>Z3 Tryz.underlying72 Q Q Q Q Q Q Q<|fun hF=>sF Q<|fF oI 38 [] h24 () Q Q Q Q Q Q Q<|fF oI 35 [] h22 () Q Q Q Q Q Q Q<|eX (p:=(x46.A == 4)) () [] hF Q)<|fun hF=>sF Q<|fF oI 38 [] h24 () Q Q Q Q Q Q Q<|fF oI 35 [] h22 () Q Q Q Q Q Q Q<|eX (p:=(false)) () [] hF Q) (wi hF<|dZ [168,169,170] Q Q (c0 Q (fun _=>d7) fun x47=>Z3 Tryz.underlying72 Q Q Q Q Q Q Q<|fun hF=>sF Q<|fF oI 38 [] h24 () Q Q Q Q Q Q Q<|fF oI 35 [] h22 () Q Q Q Q Q Q Q<|eX (p:=(x47.A == 4)) () [] hF Q)<|fun hF=>sF Q<|fF oI 38 [] h24 () Q Q Q Q Q Q Q<|fF oI 35 [] h22 () Q Q Q Q Q Q Q<|eX (p:=(false)) () [] hF Q))<|fun hF=>sF Q<|fF oI 30 [] h20 () Q Q Q Q Q Q Q<|fF oI 27 [] h18 () Q Q Q Q Q Q Q<|eX (p:=(false)) () [] hF Q) (wi hF<|dZ [156,157,158] Q Q (fun hF=>cqS oI 30 [] h20 () Q Q Q Q Q Q Q Q Q<|cqS oI 27 [] h18 () Q Q Q Q Q Q Q Q Q<|wi hF<|jI oI 34 Q Q Q fun x48 h26 _ h27=>fun hF=>eV 7 h27 h26 Q Q Q Q Q<|wi hF<|jI oI 33 Q Q Q fun x49 h28 _ h29=>fun hF=>eV 8 h29 h28 Q Q Q Q Q<|cY Q Q (wi hF<|dZ [168,169,170] Q Q (c0 Q (fun _=>d7) fun x50=>Z3 Tryz.underlying72 Q Q Q Q Q Q Q<|fun hF=>sF Q<|fF oI 38 [] h28 () Q Q Q Q Q Q Q<|fF oI 35 [] h26 () Q Q Q Q Q Q Q<|eX (p:=(x50.A == 4)) () [] hF Q)<|fun hF=>sF Q<|fF oI 38 [] h28 () Q Q Q Q Q Q Q<|fF oI 35 [] h26 () Q Q Q Q Q Q Q<|eX (p:=(false)) () [] hF Q) (wi hF<|dZ [168,169,170] Q Q (c0 Q (fun _=>d7) fun x51=>Z3 Tryz.underlying72 Q Q Q Q Q Q Q<|fun hF=>sF Q<|fF oI 38 [] h28 () Q Q Q Q Q Q Q<|fF oI 35 [] h26 () Q Q Q Q Q Q Q<|eX (p:=(x51.A == 4)) () [] hF Q)<|fun hF=>sF Q<|fF oI 38 [] h28 () Q Q Q Q Q Q Q<|fF oI 35 [] h26 () Q Q Q Q Q Q Q<|eX (p:=(false)) () [] hF Q))<|fun hF=>sF Q<|fF oI 30 [] h20 () Q Q Q Q Q Q Q<|fF oI 27 [] h18 () Q Q Q Q Q Q Q<|eX (p:=(false)) () [] hF Q))<|fun hF=>sF Q<|fF oI 22 [] h4 () Q Q Q Q Q Q Q<|fF oI 19 [] h2 () Q Q Q Q Q Q Q<|eX (p:=(false)) () [] hF Q)) fun x29=>cV Q Q
end
end Go.Proofs.YtbdmodalljibjaaGreat
end
noncomputable section
namespace Go.Gv
theorem gZ{σ ρ:Type}{f:σ→Option (Step σ ρ)}(n:Nat)(S:Nat→σ)(r:ρ)(hs:∀k,k < n→f (S k)=some (.next (S (k+1))))(he:f (S n)=some (.stop r)):loop f (S 0)=some r:=by
  have key:∀d k,k+d=n→loop f (S k)=some r:=by
    intro d
    induction d with
    | zero => intro k hk; obtain rfl : k = n := by omega
              exact bP he
    | succ d ih=>intro k hk;rw [bT (hs k (by omega))];exact ih (k+1) (by omega)
  exact key n 0 (by omega)
theorem aEB{σ ρ:Type}{f:σ→Option (Step σ ρ)}(n:Nat)(S:Nat→σ)(g:Nat→ρ)
    (h:∀k,k≤n→f (S k)=some (.stop (g k))∨(k < n∧f (S k)=some (.next (S (k+1)))∧g k=g (k+1))):∀k,k≤n→loop f (S k)=some (g k):=by
  have key:∀d k,k+d=n→loop f (S k)=some (g k):=by
    intro d
    induction d with
    | zero =>
      intro k hk
      rcases h k (by omega) with h1 | ⟨h1,_⟩
      · exact bP h1
      · omega
    | succ d ih =>
      intro k hk
      rcases h k (by omega) with h1 | ⟨_,h2,h3⟩
      · exact bP h1
      · rw [bT h2,h3];exact ih (k+1) (by omega)
  intro k hk
  exact key (n - k) k (by omega)
theorem qE{σ ρ:Type}{f:σ→Option (Step σ ρ)}(n:Nat)(S:Nat→σ)(p:Nat→Prop)[DecidablePred p](yes no:ρ)
    (h1:∀k,k < n→p k→f (S k)=some (.next (S (k+1)))) (h2:∀k,k < n→¬p k→f (S k)=some (.stop no)) (h3:f (S n)=some (.stop yes)) :
    loop f (S 0)=some (if ∀k,k < n→p k then yes else no):=by
  classical
  have key:∀d k,k+d=n→loop f (S k)=some (if ∀j,k≤j→j < n→p j then yes else no):=by
    intro d
    induction d with
    | zero =>
      intro k hk;obtain rfl:k=n:=by omega
      rw [bP h3,if_pos (fun j a b=>by omega)]
    | succ d ih =>
      intro k hk
      by_cases hp:p k
      · rw [bT (h1 k (by omega) hp),ih (k+1) (by omega)]
        by_cases h:∀j,k+1≤j→j < n→p j
        · rw [if_pos h,if_pos]
          intro j a b
          by_cases e:j=k
          · subst e;exact hp
          · exact h j (by omega) b
        · rw [if_neg h,if_neg]
          exact fun q=>h fun j a b=>q j (by omega) b
      · rw [bP (h2 k (by omega) hp),if_neg]
        exact fun q=>hp (q k (Nat.le_refl _) (by omega))
  have:=key n 0 (by omega)
  rw [this]
  by_cases h:∀k,k < n→p k
  · rw [if_pos h,if_pos (fun j _ b=>h j b)]
  · rw [if_neg h,if_neg (fun q=>h fun k a=>q k (Nat.zero_le _) a)]
theorem mP{α σ ρ:Type}{f:σ→Option (Step σ ρ)}(l:List α)(S:Nat→σ)(p:α→Prop)[DecidablePred p](yes no:ρ)
    (h1:∀k (h:k < l.length),p l[k]→f (S k)=some (.next (S (k+1)))) (h2:∀k (h:k < l.length),¬p l[k]→f (S k)=some (.stop no)) (h3:f (S l.length)=some (.stop yes)) :
    loop f (S 0)=some (if ∀x∈l,p x then yes else no):=by
  classical
  have:=qE (f:=f) l.length S (fun k=>∀h:k < l.length,p l[k]) yes no (fun k h hp=>h1 k h (hp h)) (fun k h hp=>h2 k h (fun q=>hp fun _=>q)) h3
  rw [this]
  by_cases h:∀x∈l,p x
  · rw [if_pos h,if_pos (fun k hk _=>h _ (List.getElem_mem hk))]
  · rw [if_neg h,if_neg]
    intro q
    refine h fun x hx=>?_
    obtain⟨k,hk,rfl⟩:=List.mem_iff_getElem.1 hx
    exact q k hk hk
theorem aO{x:Int}(h1:-9223372036854775808≤x)(h2:x≤9223372036854775807):aW x=x:=BV ⟨h1,h2⟩
theorem fB{α:Type}{l:List α}{i:Int}(h0:0≤i)(h1:i < l.length):idx l i=some (l[i.toNat]'(by omega)):=idx_eq h0 h1
theorem wrap_i64{x:Int}(h1:-9223372036854775808≤x)(h2:x≤9223372036854775807):IntKind.i64.wrap x=x:=BV ⟨h1,h2⟩
theorem zQ{x y:Int}(h1:0≤x):x.tdiv y=x / y:=Int.tdiv_eq_ediv_of_nonneg h1
theorem n7{x y:Int}(h1:0≤x):x.tmod y=x % y:=Int.tmod_eq_emod_of_nonneg h1
theorem aKJ{x:Int}{k:Nat}(h1:0≤x)(hk:k≤63):oY .i64 x k=x / 2 ^ k:=by
  unfold oY
  have:min ((k:Int).toNat) IntKind.i64.bits=k:=by simp [IntKind.bits];omega
  rw [this,Int.fdiv_eq_ediv_of_nonneg _ (by exact Int.le_of_lt (Int.pow_pos (by omega)))]
end Go.Gv
end
noncomputable section
namespace Go.Gv
theorem d9(n a b:Int):cD n a b=some (decide (a≤n∧n≤b)):=by
  unfold cD l7
  by_cases h:a≤n <;> simp [h]
theorem bL(n a b:Int):bH n a b=some (decide (a≤n∧n≤b)):=by
  unfold bH AZ
  by_cases h:a≤n <;> simp [h]
theorem map_take{α β:Type}(f:α→β){l:List α}{k:Nat}(h:k < l.length):(l.take (k+1)).map f=(l.take k).map f ++ [f l[k]]:=by
  rw [List.take_succ_eq_append_getElem h,List.map_append];rfl
end Go.Gv
end
noncomputable section
namespace Go.Gv
def fC(c:Int):Int:=if c=0 then 8 else if c=1 then 16 else if c=2 then 40 else 0
def aR(c:Int):Int:=if c=0 then 12 else if c=1 then 20 else if c=2 then 44 else 0
def bW(c:Int):Int:=if c=0 then 4 else if c=1 then 2 else if c=2 then 1 else 0
theorem eO{c:Int}(h:0≤c∧c≤2):c=0∨c=1∨c=2:=by omega
theorem aH3{c:Int}(h:¬(0≤c∧c≤2)):fC c=0:=by unfold fC;rw [if_neg (by omega),if_neg (by omega),if_neg (by omega)]
theorem T5{c:Int}(h:¬(0≤c∧c≤2)):aR c=0:=by unfold aR;rw [if_neg (by omega),if_neg (by omega),if_neg (by omega)]
theorem YO{c:Int}(h:¬(0≤c∧c≤2)):bW c=0:=by unfold bW;rw [if_neg (by omega),if_neg (by omega),if_neg (by omega)]
theorem jB(c:Int):0≤bW c∧bW c≤4:=by unfold bW;split <;> (try split) <;> (try split) <;> omega
theorem LU(c:Int):0≤aR c∧aR c≤44:=by unfold aR;split <;> (try split) <;> (try split) <;> omega
theorem gK{c:Int}:0 < bW c↔0≤c∧c≤2:=by
  unfold bW;constructor
  · intro h;split at h <;> (try split at h) <;> (try split at h) <;> omega
  · intro h;rcases eO h with rfl | rfl | rfl <;> decide
theorem wS(c:Int):o6 c=some (fC c):=by
  unfold o6 fC
  by_cases h0:c=0 <;> by_cases h1:c=1 <;> by_cases h2:c=2 <;> simp [h0,h1,h2]
theorem gD(c:Int):gX c=some (decide (0≤c∧c≤2)):=by simp [gX,d9]
theorem I6(c:Int):uP c=some (fC c):=by
  unfold uP
  rw [gD]
  by_cases h:0≤c∧c≤2
  · rcases eO h with rfl | rfl | rfl <;> rfl
  · simp [h,aH3 h]
theorem OI(c:Int):rP c=some (aR c):=by
  unfold rP
  rw [bL]
  by_cases h:0≤c∧c≤2
  · rcases eO h with rfl | rfl | rfl <;> rfl
  · simp [h,T5 h]
theorem FF(c:Int):oF c=some (aR c):=by
  unfold oF
  rw [gD]
  by_cases h:0≤c∧c≤2
  · rcases eO h with rfl | rfl | rfl <;> rfl
  · simp [h,T5 h]
theorem eH(c:Int):i4 c=some (bW c):=by
  unfold i4
  rw [bL]
  by_cases h:0≤c∧c≤2
  · rcases eO h with rfl | rfl | rfl <;> rfl
  · simp [h,YO h]
theorem tO(c:Int):kX c=some (bW c):=by
  unfold kX
  rw [gD]
  by_cases h:0≤c∧c≤2
  · rcases eO h with rfl | rfl | rfl <;> rfl
  · simp [h,YO h]
theorem I7(s:Int):uH s=some (if 0≤s∧s≤23 then s / 4 else -1):=by
  unfold uH
  rw [bL]
  by_cases h:0≤s∧s≤23
  · simp [h,zQ h.1];rw [aO (by omega) (by omega)]
  · simp [h]
theorem HF(s:Int):qN s=some (if 0≤s∧s≤23 then s % 4 else -1):=by
  unfold qN
  rw [bL]
  by_cases h:0≤s∧s≤23
  · simp [h,n7 h.1]
  · simp [h]
def eI(s c:Int):Int:=if (0≤s∧s≤23)∧s % 4 < bW c then s / 4 * 64+8+s % 4 * aR c else -1
theorem CM{i c:Int}(h0:0≤i)(h1:i < bW c):0≤i * aR c∧i * aR c+aR c≤56:=by
  unfold bW at h1;unfold aR
  split at h1
  · rw [if_pos ‹_›];omega
  · split at h1
    · rw [if_neg ‹_›,if_pos ‹_›];omega
    · split at h1
      · rw [if_neg ‹_›,if_neg ‹_›,if_pos ‹_›];omega
      · omega
theorem lI(s c:Int):mY s c=some (eI s c):=by
  unfold mY xT eI
  rw [I7,HF,eH,OI]
  by_cases h:0≤s∧s≤23
  · have hp:=jB c
    have h1:¬s / 4 < 0:=by omega
    have h2:aW (bW c - 1)=bW c - 1:=aO (by omega) (by omega)
    by_cases h3:s % 4 < bW c
    · have hm:=CM (by omega) h3
      have hs:=LU c
      have h4:0≤s % 4∧s % 4≤bW c - 1:=by omega
      have h5:¬bW c - 1 < s % 4:=by omega
      have e1:aW (s / 4 * 64)=s / 4 * 64:=aO (by omega) (by omega)
      have e2:aW (s / 4 * 64+8)=s / 4 * 64+8:=aO (by omega) (by omega)
      have e3:aW (s % 4 * aR c)=s % 4 * aR c:=aO (by omega) (by omega)
      have e4:aW (s / 4 * 64+8+s % 4 * aR c)=s / 4 * 64+8+s % 4 * aR c:=aO (by omega) (by omega)
      simp [h,h1,h2,h3,h4,h5,bL,e1,e2,e3,e4]
    · have h4:¬s % 4≤bW c - 1:=by omega
      simp [h,h1,h2,h3,h4,bL]
  · simp [h]
theorem qF(s:Int):jD s=some (decide (0≤s∧s≤23)):=by simp [jD,d9]
theorem sK(s c:Int):pQ s c=some (eI s c):=by
  unfold pQ r5 eI
  rw [qF,gD,tO,FF]
  by_cases h:0≤s∧s≤23
  · have hp:=jB c
    rw [n7 h.1,zQ h.1]
    by_cases h3:s % 4 < bW c
    · have hm:=CM (by omega) h3
      have hs:=LU c
      have hc:0≤c∧c≤2:=gK.1 (by omega)
      have e0:aW (s / 4)=s / 4:=aO (by omega) (by omega)
      have e1:aW (s / 4 * 64)=s / 4 * 64:=aO (by omega) (by omega)
      have e2:aW (s / 4 * 64+8)=s / 4 * 64+8:=aO (by omega) (by omega)
      have e3:aW (s % 4 * aR c)=s % 4 * aR c:=aO (by omega) (by omega)
      have e4:aW (s / 4 * 64+8+s % 4 * aR c)=s / 4 * 64+8+s % 4 * aR c:=aO (by omega) (by omega)
      have h5:¬bW c≤s % 4:=by omega
      simp [h,hc,h3,h5,e0,e1,e2,e3,e4]
    · have h5:bW c≤s % 4:=by omega
      by_cases hc:0≤c∧c≤2 <;> simp [h,hc,h3,h5]
  · simp [h]
end Go.Gv
end
noncomputable section
namespace Go.Gv
def ldF(l:List Int):Int:=l.foldl (fun n x=>n * 256+x) 0
def oX(l:List Int):Prop:=∀x∈l,0≤x∧x≤255
instance (l:List Int):Decidable (oX l):=by unfold oX;infer_instance
theorem T6{l:List Int}{k:Nat}(h:k < l.length):ldF (l.take (k+1))=ldF (l.take k) * 256+l[k]:=by
  unfold ldF
  rw [List.take_succ_eq_append_getElem h,List.foldl_append];rfl
theorem WW{l:List Int}(h:oX l):∀k,k≤l.length→0≤ldF (l.take k)∧ldF (l.take k) < 256 ^ k:=by
  intro k
  induction k with
  | zero=>intro _;simp [ldF]
  | succ k ih =>
    intro hk
    have h1:=ih (by omega)
    have h2:=h _ (List.getElem_mem (show k < l.length by omega))
    rw [T6 (by omega),Int.pow_succ]
    omega
theorem aMZ{k:Nat}(h:k≤6):(256:Int) ^ k≤281474976710656:=by
  have h1:(256:Nat) ^ k≤256 ^ 6:=Nat.pow_le_pow_right (by omega) h
  have h2:(256:Nat) ^ 6=281474976710656:=by decide
  rw [h2] at h1
  have h3:((256 ^ k:Nat):Int)≤281474976710656:=by omega
  rw [Int.natCast_pow] at h3
  exact h3
def ld(b:List Int)(at_ w:Nat):Int:=ldF ((b.drop at_).take w)
theorem aDG{n x:Int}{k:Nat}(hk:k≤6)(h:0≤n∧n < 256 ^ k)(hx:0≤x∧x≤255):aW (aW (n * 256)+x)=n * 256+x∧aW (aW (256 * n)+x)=n * 256+x:=by
  have:=aMZ hk
  rw [Int.mul_comm 256 n,aO (x:=n * 256) (by omega) (by omega),aO (by omega) (by omega)]
  exact⟨rfl,rfl⟩
theorem aBP{b:List Int}{a w:Nat}(h:a+w≤b.length):((b.drop a).take w).length=w:=by simp;omega
theorem T7{b:List Int}{a w k:Nat}(h:k < ((b.drop a).take w).length)(h':a+k < b.length):((b.drop a).take w)[k]=b[a+k]:=by simp
theorem YP{b:List Int}(hb:oX b)(a w:Nat):oX ((b.drop a).take w):=fun x hx=>hb x (List.mem_of_mem_drop (List.mem_of_mem_take hx))
theorem I8{b:List Int}(hb:oX b){a w:Nat}(hw:w≤7)(h:a+w≤b.length)(hl:b.length≤100000):zC b (a:Int) (w:Int)=some (ld b a w):=by
  unfold zC
  have hlen:=aBP h
  have hbb:=YP hb a w
  have key:loop (o5 b (a:Int) (w:Int)) (0,0)=some (ld b a w):=by
    refine gZ (f:=o5 b (a:Int) (w:Int)) w (fun k=>(ldF (((b.drop a).take w).take k),(k:Int))) _ (fun k hk=>?_) ?_
    · have hb1:=WW hbb k (by omega)
      have hk':k < ((b.drop a).take w).length:=by omega
      have hx:=hbb _ (List.getElem_mem hk')
      have hs:=aDG (by omega) hb1 hx
      rw [T7 hk' (by omega)] at hs
      have e1:aW ((a:Int)+k)=((a+k:Nat):Int):=by rw [aO (by omega) (by omega)];omega
      simp only [o5]
      rw [if_pos (by simp;omega),e1,aV (by omega)]
      simp only [aH,hs.1,T6 hk',T7 hk' (show a+k < b.length by omega)]
      rw [aO (x:=(k:Int)+1) (by omega) (by omega)];rfl
    · have:((b.drop a).take w).take w=(b.drop a).take w:=by rw [List.take_take];simp
      simp [o5,this,ld]
  rw [key];rfl
theorem AI{b:List Int}(hb:oX b){a w:Nat}(hw:w≤7)(h:a+w≤b.length)(hl:b.length≤100000):nA b (a:Int) (w:Int)=some (ld b a w):=by
  unfold nA
  have hlen:=aBP h
  have hbb:=YP hb a w
  have e0:aW ((a:Int)+w)=((a+w:Nat):Int):=by rw [aO (by omega) (by omega)];omega
  have e2:(b.take (a+w)).drop a=(b.drop a).take w:=by rw [List.drop_take];congr 1;omega
  rw [aS (by rw [e0];omega)]
  have key:loop (nV b (a:Int) (w:Int)) (0,0)=some (ld b a w):=by
    refine gZ (f:=nV b (a:Int) (w:Int)) w (fun k=>(ldF (((b.drop a).take w).take k),(k:Int))) _ (fun k hk=>?_) ?_
    · have hb1:=WW hbb k (by omega)
      have hk':k < ((b.drop a).take w).length:=by omega
      have hx:=hbb _ (List.getElem_mem hk')
      have hs:=aDG (by omega) hb1 hx
      simp only [nV,e0,Int.toNat_natCast,e2]
      rw [if_pos (by simp;omega),aV hk']
      simp only [aH,hs.2,T6 hk']
      rw [aO (x:=(k:Int)+1) (by omega) (by omega)];rfl
    · have:((b.drop a).take w).take w=(b.drop a).take w:=by rw [List.take_take];simp
      simp only [nV,e0,Int.toNat_natCast,e2,this,ld]
      rw [if_neg (by rw [hlen];simp)]
  rw [key];rfl
theorem BO{l:List Int}(hl:l.length≤maxLen)(f:Int→Bool):dQ l (fun x=>some (f x))=some (l.any f):=by
  unfold dQ pO
  have key:∀k:Nat,k≤l.length→loop (fJ l (fun x=>some (f x))) (k:Int)=some (if (l.drop k).any f then Out.ret ((k+(l.drop k).findIdx f:Nat):Int) else Out.brk ()):=by
    refine XM l.length _ fun k hk=>?_
    by_cases h3:k < l.length
    · have hd:l.drop k=l[k] :: l.drop (k+1):=List.drop_eq_getElem_cons h3
      simp only [fJ]
      rw [if_pos (by simp;omega),aV h3,i3 (rK h3 hl),hd]
      simp only [aH,List.any_cons,List.findIdx_cons]
      by_cases h4:f l[k]=true
      · left;simp [h4]
      · right
        have h4:f l[k]=false:=by simpa using h4
        refine⟨h3,by simp [h4],?_⟩
        simp only [h4,Bool.false_or,cond_false]
        congr 2;omega
    · left
      obtain rfl:k=l.length:=by omega
      simp [fJ]
  have t0:loop (fJ l (fun x=>some (f x))) 0=_:=key 0 (by omega)
  rw [t0]
  simp only [List.drop_zero]
  by_cases h:l.any f=true
  · simp [h,l9]
  · have h:l.any f=false:=by simpa using h
    simp [h,l9,uO]
def BOk(b:List Int):Prop:=b.length≤1000∧oX b
instance (b:List Int):Decidable (BOk b):=by unfold BOk;infer_instance
theorem QM{b:List Int}(hl:b.length≤maxLen):A0 b=some (decide (BOk b)):=by
  unfold A0
  have key:loop (kD b) 0=some (if ∀x∈b,0≤x∧x≤255 then Out.brk () else Out.ret false):=by
    refine mP (f:=kD b) b (fun k=>(k:Int)) (fun x=>0≤x∧x≤255) _ _ (fun k h hp=>?_) (fun k h hp=>?_) ?_
    · simp only [kD]
      rw [if_pos (by simp;omega),aV h,i3 (rK h hl)]
      simp [bL,hp]
    · simp only [kD]
      rw [if_pos (by simp;omega),aV h]
      simp only [aH,bL,hp,decide_false,wX,if_true]
    · simp [kD]
  rw [key]
  by_cases h:∀x∈b,0≤x∧x≤255
  · rw [if_pos h]
    have:BOk b↔b.length≤1000:=⟨fun q=>q.1,fun q=>⟨q,h⟩⟩
    simp only [aH,zW,GV,this]
    congr 1;rw [Bool.eq_iff_iff];simp;omega
  · rw [if_neg h]
    have:¬BOk b:=fun q=>h q.2
    simp [zW,this]
theorem J4{α:Type}{p:α→Prop}[DecidablePred p](l:List α):(l.any fun x=>!decide (p x))=!decide (∀x∈l,p x):=by
  rw [Bool.eq_iff_iff];simp
theorem QN{b:List Int}(hl:b.length≤maxLen):A4 b=some (decide (BOk b)):=by
  unfold A4 sY
  have e:(fun y0=>vQ y0)=fun y:Int=>some (!decide (0≤y∧y≤255)):=by
    funext y;simp [vQ,H8,d9]
  rw [e,BO hl,J4]
  by_cases h:b.length≤1000
  · have:BOk b↔∀x∈b,0≤x∧x≤255:=⟨fun q=>q.2,fun q=>⟨h,q⟩⟩
    have h':(b.length:Int)≤1000:=by omega
    simp [h',this]
  · have:¬BOk b:=fun q=>h q.1
    have h':¬(b.length:Int)≤1000:=by omega
    simp [h',this]
def dM(h:aB):Prop:=h.Bytes.length=384∧h.Class.length=6∧oX h.Bytes∧∀c∈h.Class,-1≤c∧c≤2
instance (h:aB):Decidable (dM h):=by unfold dM;infer_instance
theorem HH{h:aB}(hl:h.Bytes.length≤maxLen):uX h=some (decide (dM h)):=by
  unfold uX nL
  by_cases h1:h.Bytes.length=384
  · by_cases h2:h.Class.length=6
    · rw [QM hl]
      have n1:((h.Bytes.length:Int) != 384)=false:=by simp;omega
      have n2:((h.Class.length:Int) != 6)=false:=by simp;omega
      simp only [n1,n2,bE,if_false,aH]
      by_cases h3:oX h.Bytes
      · have b1:BOk h.Bytes:=⟨by omega,h3⟩
        have key:loop (kE h) 0=some (if ∀x∈h.Class,-1≤x∧x≤2 then Out.brk () else Out.ret false):=by
          refine mP (f:=kE h) h.Class (fun k=>(k:Int)) (fun x=>-1≤x∧x≤2) _ _ (fun k h hp=>?_) (fun k h hp=>?_) ?_
          · simp only [kE]
            rw [if_pos (by simp;omega),aV h,aO (by omega) (by omega)]
            simp [bL,hp]
          · simp only [kE]
            rw [if_pos (by simp;omega),aV h]
            simp only [aH,bL]
            rw [bK hp];rfl
          · simp [kE,h2]
        rw [key]
        have:dM h↔∀x∈h.Class,-1≤x∧x≤2:=⟨fun q=>q.2.2.2,fun q=>⟨h1,h2,h3,q⟩⟩
        simp only [b1,decide_true,eU,bE,if_false,this]
        by_cases h4:∀x∈h.Class,-1≤x∧x≤2
        · rw [if_pos h4,bB h4];rfl
        · rw [if_neg h4,bK h4];rfl
      · have b1:¬BOk h.Bytes:=fun q=>h3 q.2
        have:¬dM h:=fun q=>h3 q.2.2.1
        simp [b1,this]
    · have n1:((h.Bytes.length:Int) != 384)=false:=by simp;omega
      have n2:((h.Class.length:Int) != 6)=true:=by simp;omega
      have:¬dM h:=fun q=>h2 q.2.1
      simp [n1,n2,this]
  · have n1:((h.Bytes.length:Int) != 384)=true:=by simp;omega
    have:¬dM h:=fun q=>h1 q.1
    simp [n1,this]
theorem CN{h:aB}(hl:h.Bytes.length≤maxLen):zE h=some (decide (dM h)):=by
  unfold zE mA
  by_cases h1:h.Bytes.length=384
  · have n1:((h.Bytes.length:Int) == 384)=true:=by simp;omega
    rw [QN hl]
    by_cases h3:oX h.Bytes
    · have b1:BOk h.Bytes:=⟨by omega,h3⟩
      by_cases h2:h.Class.length=6
      · have n2:((h.Class.length:Int) == 6)=true:=by simp;omega
        have e:(fun y0=>xY y0)=fun y:Int=>some (!decide (-1≤y∧y≤2)):=by
          funext y;simp [xY,d9]
        rw [e,BO (by rw [h2];simp [maxLen]),J4]
        have:dM h↔∀x∈h.Class,-1≤x∧x≤2:=⟨fun q=>q.2.2.2,fun q=>⟨h1,h2,h3,q⟩⟩
        simp [n1,n2,b1,this]
      · have n2:((h.Class.length:Int) == 6)=false:=by simp;omega
        have:¬dM h:=fun q=>h2 q.2.1
        simp [n1,n2,b1,this]
    · have b1:¬BOk h.Bytes:=fun q=>h3 q.2
      have:¬dM h:=fun q=>h3 q.2.2.1
      simp [n1,b1,this]
  · have n1:((h.Bytes.length:Int) == 384)=false:=by simp;omega
    have:¬dM h:=fun q=>h1 q.1
    simp [n1,this]
end Go.Gv
end
noncomputable section
namespace Go.Gv
def cR(h:aB)(p:Nat):List Int:=(h.Bytes.drop (p * 64)).take 64
def bQ(h:aB)(p:Nat):Int:=h.Class.getD p 0
def j4(h:aB)(p:Nat):Prop:=
  if bQ h p < 0 then ∀x∈cR h p,x=0
  else ((cR h p).getD 0 0=171∧(cR h p).getD 1 0=bQ h p∧(cR h p).getD 2 0=bW (bQ h p))∧(∀x∈((cR h p).drop 3).take 5,x=0)∧∀i,i < (bW (bQ h p)).toNat→1≤ld h.Bytes (p * 64+8+i * (aR (bQ h p)).toNat) 4∧ld h.Bytes (p * 64+8+i * (aR (bQ h p)).toNat) 4≤7
instance (h:aB) (p:Nat):Decidable (j4 h p):=by unfold j4;infer_instance
noncomputable section
variable {h:aB} (hs:dM h) {p:Nat} (hp:p < 6)
include hs hp
theorem CP:(cR h p).length=64:=aBP (by have:=hs.1;omega)
theorem I9{k:Nat}(hk:k < 64):h.Bytes[p * 64+k]'(by have:=hs.1;omega)=(cR h p)[k]'(by rw [CP hs hp];exact hk):=(T7 (show k < ((h.Bytes.drop (p * 64)).take 64).length by have:=CP hs hp;unfold cR at this;omega) _).symm
theorem WX{k:Nat}(hk:k < 64):h.Bytes[p * 64+k]'(by have:=hs.1;omega)=(cR h p).getD k 0:=by
  rw [I9 hs hp hk,List.getD_eq_getElem?_getD,List.getElem?_eq_getElem (by rw [CP hs hp];exact hk)];rfl
theorem J5:h.Class[p]'(by have:=hs.2.1;omega)=bQ h p:=by
  unfold bQ
  rw [List.getD_eq_getElem?_getD,List.getElem?_eq_getElem (by have:=hs.2.1;omega)];rfl
theorem RC:idx h.Class (p:Int)=some (bQ h p):=by rw [aV (by have:=hs.2.1;omega),J5 hs hp]
theorem T8{k:Nat}(hk:k < 64):idx h.Bytes (((p * 64+k:Nat)):Int)=some ((cR h p).getD k 0):=by
  rw [aV (by have:=hs.1;omega),WX hs hp hk]
theorem aEC:oX (cR h p):=YP hs.2.2.1 _ _
theorem rD{c:Int}(hc:bQ h p=c){i:Nat}(hi:i < (bW c).toNat):(8+i * (aR c).toNat)+4≤64∧0≤(i:Int) * aR c∧((8+i * (aR c).toNat:Nat):Int)=8+(i:Int) * aR c:=by
  have h1:(i:Int) < bW c:=by omega
  have hc2:0≤c∧c≤2:=gK.1 (by omega)
  rcases eO hc2 with rfl | rfl | rfl
  · have e:aR 0=12:=rfl
    have g:(12:Int).toNat=12:=rfl
    have f:(bW 0).toNat=4:=rfl
    rw [e,g];rw [f] at hi;omega
  · have e:aR 1=20:=rfl
    have g:(20:Int).toNat=20:=rfl
    have f:(bW 1).toNat=2:=rfl
    rw [e,g];rw [f] at hi;omega
  · have e:aR 2=44:=rfl
    have g:(44:Int).toNat=44:=rfl
    have f:(bW 2).toNat=1:=rfl
    rw [e,g];rw [f] at hi;omega
theorem aH4{i:Nat}(hi:i < (bW (bQ h p)).toNat):eI ((p:Int) * 4+i) (bQ h p)=((p * 64+(8+i * (aR (bQ h p)).toNat):Nat):Int):=by
  have hz:=rD hs hp rfl hi
  have hle:=jB (bQ h p)
  unfold eI
  rw [if_pos (by omega)]
  have e1:((p:Int) * 4+i) / 4=p:=by omega
  have e2:((p:Int) * 4+i) % 4=i:=by omega
  rw [e1,e2]
  omega
theorem JA:DE h (p:Int)=some (decide (j4 h p)):=by
  have hb:=hs.1
  have hl:=CP hs hp
  have e0:aW ((p:Int) * 64)=((p * 64+0:Nat):Int):=by rw [aO (by omega) (by omega)];omega
  have e1:aW (((p * 64+0:Nat):Int)+1)=((p * 64+1:Nat):Int):=by rw [aO (by omega) (by omega)];omega
  have e2:aW (((p * 64+0:Nat):Int)+2)=((p * 64+2:Nat):Int):=by rw [aO (by omega) (by omega)];omega
  have e3:aW (((p * 64+0:Nat):Int)+3)=((p * 64+3:Nat):Int):=by rw [aO (by omega) (by omega)];omega
  have e8:aW (((p * 64+0:Nat):Int)+8)=((p * 64+8:Nat):Int):=by rw [aO (by omega) (by omega)];omega
  have e64:aW (((p * 64+0:Nat):Int)+64)=((p * 64+64:Nat):Int):=by rw [aO (by omega) (by omega)];omega
  unfold DE
  rw [RC hs hp]
  simp only [aH]
  by_cases hc:bQ h p < 0
  · simp only [hc,decide_true,if_true,e0]
    have key:loop (lV h (p:Int)) (((p * 64+0:Nat)):Int)=some (if ∀x∈cR h p,x=0 then Out.brk () else Out.ret false):=by
      refine mP (f:=lV h (p:Int)) (cR h p) (fun k=>((p * 64+k:Nat):Int)) (fun x=>x=0) _ _ (fun k hk hx=>?_) (fun k hk hx=>?_) ?_
      · simp only [lV,e0,e64]
        rw [if_pos (by simp;omega),aV (by omega),I9 hs hp (by omega),aO (by omega) (by omega)]
        simp only [aH,hx];simp;omega
      · simp only [lV,e0,e64]
        rw [if_pos (by simp;omega),aV (by omega),I9 hs hp (by omega)]
        have hx':((cR h p)[k] != 0)=true:=by simpa using hx
        simp only [aH,hx',if_true]
      · simp only [lV,e0,e64,hl]
        rw [if_neg (by simp)]
    rw [key]
    have hP:j4 h p↔∀x∈cR h p,x=0:=by unfold j4;rw [if_pos hc]
    by_cases h4:∀x∈cR h p,x=0
    · rw [if_pos h4,bB (hP.2 h4)];rfl
    · rw [if_neg h4,bK (fun q=>h4 (hP.1 q))];rfl
  · have hP:j4 h p↔((cR h p).getD 0 0=171∧(cR h p).getD 1 0=bQ h p∧(cR h p).getD 2 0=bW (bQ h p))∧(∀x∈((cR h p).drop 3).take 5,x=0)∧∀i,i < (bW (bQ h p)).toNat→1≤ld h.Bytes (p * 64+8+i * (aR (bQ h p)).toNat) 4∧ld h.Bytes (p * 64+8+i * (aR (bQ h p)).toNat) 4≤7:=by unfold j4;rw [if_neg hc]
    simp only [hc,decide_false,bE,if_false,e0,e1,e2,T8 hs hp (show 0 < 64 by omega),T8 hs hp (show 1 < 64 by omega),T8 hs hp (show 2 < 64 by omega),aH,eH]
    by_cases a0:(cR h p).getD 0 0=171
    · by_cases a1:(cR h p).getD 1 0=bQ h p
      · by_cases a2:(cR h p).getD 2 0=bW (bQ h p)
        · have n0:((cR h p).getD 0 0 != 171)=false:=by simp only [bne_eq_false_iff_eq];exact a0
          have n1:((cR h p).getD 1 0 != bQ h p)=false:=by simp only [bne_eq_false_iff_eq];exact a1
          have n2:((cR h p).getD 2 0 != bW (bQ h p))=false:=by simp only [bne_eq_false_iff_eq];exact a2
          simp only [n0,n1,n2,bE,if_false,hJ,e0,e3]
          have hl5:(((cR h p).drop 3).take 5).length=5:=by simp [hl]
          have key:loop (lX h (p:Int)) (((p * 64+3:Nat)):Int)=some (if ∀x∈((cR h p).drop 3).take 5,x=0 then Out.brk () else Out.ret false):=by
            refine mP (f:=lX h (p:Int)) (((cR h p).drop 3).take 5) (fun k=>((p * 64+(3+k):Nat):Int)) (fun x=>x=0) _ _ (fun k hk hx=>?_) (fun k hk hx=>?_) ?_
            · simp only [lX,e0,e8]
              rw [if_pos (by simp;omega),aV (by omega),I9 hs hp (by omega),aO (by omega) (by omega),←T7 hk (by omega),hx]
              simp;omega
            · simp only [lX,e0,e8]
              rw [if_pos (by simp;omega),aV (by omega),I9 hs hp (by omega),←T7 hk (by omega)]
              have hx':((((cR h p).drop 3).take 5)[k] != 0)=true:=by simp only [bne_iff_ne];exact hx
              simp only [aH,hx',if_true]
            · simp only [lX,e0,e8,hl5]
              rw [if_neg (by simp)]
          rw [key]
          by_cases h4:∀x∈((cR h p).drop 3).take 5,x=0
          · rw [if_pos h4]
            simp only [aH,H7,H6]
            have key2:loop (lW h (p:Int) (bQ h p)) 0=some (if ∀i,i < (bW (bQ h p)).toNat→1≤ld h.Bytes (p * 64+8+i * (aR (bQ h p)).toNat) 4∧ld h.Bytes (p * 64+8+i * (aR (bQ h p)).toNat) 4≤7 then Out.brk () else Out.ret false):=by
              have hle:=jB (bQ h p)
              have hst:∀k:Nat,k < (bW (bQ h p)).toNat→lW h (p:Int) (bQ h p) (k:Int)=if 1≤ld h.Bytes (p * 64+8+k * (aR (bQ h p)).toNat) 4∧ld h.Bytes (p * 64+8+k * (aR (bQ h p)).toNat) 4≤7 then some (.next ((k+1:Nat):Int)) else some (.stop (Out.ret false)):=by
                intro k hk
                have hz:=rD hs hp rfl hk
                have s1:mV (p:Int) (k:Int)=some ((p:Int) * 4+k):=by
                  unfold mV o7
                  rw [bL,bL]
                  have g1:(0:Int)≤p∧(p:Int)≤5:=by omega
                  have g2:(0:Int)≤k∧(k:Int)≤3:=by omega
                  simp only [aH,g1,g2,and_self,decide_true,eU,bE,if_false]
                  rw [aO (x:=(p:Int) * 4) (by omega) (by omega),aO (by omega) (by omega)]
                have l1:=I8 hs.2.2.1 (a:=p * 64+(8+k * (aR (bQ h p)).toNat)) (w:=4) (by omega) (by omega) (by omega)
                simp only [lW,eH,aH]
                rw [if_pos (by simp;omega),s1]
                simp only [aH,lI,aH4 hs hp hk]
                rw [show((4:Nat):Int)=4 from rfl] at l1
                rw [l1,Nat.add_assoc,aO (x:=(k:Int)+1) (by omega) (by omega)]
                simp only [aH,bL]
                by_cases q:1≤ld h.Bytes (p * 64+(8+k * (aR (bQ h p)).toNat)) 4∧ld h.Bytes (p * 64+(8+k * (aR (bQ h p)).toNat)) 4≤7
                · rw [if_pos q,bB q];rfl
                · rw [if_neg q,bK q];rfl
              refine qE (f:=lW h (p:Int) (bQ h p)) (bW (bQ h p)).toNat (fun k=>(k:Int)) (fun i=>1≤ld h.Bytes (p * 64+8+i * (aR (bQ h p)).toNat) 4∧ld h.Bytes (p * 64+8+i * (aR (bQ h p)).toNat) 4≤7) _ _ (fun k hk hx=>?_) (fun k hk hx=>?_) ?_
              · rw [hst k hk,if_pos hx]
              · rw [hst k hk,if_neg hx]
              · simp only [lW,eH,aH]
                rw [if_neg (by simp;omega)]
            rw [key2]
            by_cases h5:∀i,i < (bW (bQ h p)).toNat→1≤ld h.Bytes (p * 64+8+i * (aR (bQ h p)).toNat) 4∧ld h.Bytes (p * 64+8+i * (aR (bQ h p)).toNat) 4≤7
            · rw [if_pos h5,bB (hP.2 ⟨⟨a0,a1,a2⟩,h4,h5⟩)];rfl
            · rw [if_neg h5,bK (fun q=>h5 (hP.1 q).2.2)];rfl
          · rw [if_neg h4,bK (fun q=>h4 (hP.1 q).2.1)];rfl
        · have n0:((cR h p).getD 0 0 != 171)=false:=by simp only [bne_eq_false_iff_eq];exact a0
          have n1:((cR h p).getD 1 0 != bQ h p)=false:=by simp only [bne_eq_false_iff_eq];exact a1
          have n2:((cR h p).getD 2 0 != bW (bQ h p))=true:=by simp only [bne_iff_ne];exact a2
          simp only [n0,n1,n2,bE,if_false,hJ,if_true]
          rw [bK (fun q=>a2 (hP.1 q).1.2.2)]
      · have n0:((cR h p).getD 0 0 != 171)=false:=by simp only [bne_eq_false_iff_eq];exact a0
        have n1:((cR h p).getD 1 0 != bQ h p)=true:=by simp only [bne_iff_ne];exact a1
        simp only [n0,n1,bE,if_false,hJ,if_true]
        rw [bK (fun q=>a1 (hP.1 q).1.2.1)]
    · have n0:((cR h p).getD 0 0 != 171)=true:=by simp only [bne_iff_ne];exact a0
      simp only [n0,bE,if_false,hJ,if_true]
      rw [bK (fun q=>a0 (hP.1 q).1.1)]
end
end Go.Gv
end
noncomputable section
namespace Go.Gv
theorem JB{l:List Int}(hl:l.length≤maxLen):zF l=some (decide (∀x∈l,x=0)):=by
  unfold zF
  have e:(fun y0=>xZ y0)=fun y:Int=>some (!decide (y=0)):=by
    funext y;simp [xZ,bne];rfl
  rw [e,BO hl,J4]
  simp
noncomputable section
variable {h:aB} (hs:dM h) {p:Nat} (hp:p < 6)
include hs hp
theorem aLD:(h.Bytes.take ((p+1) * 64)).drop (p * 64)=cR h p:=by
  unfold cR
  rw [List.drop_take];congr 1;omega
theorem aKK{a:Nat}(ha:a+4≤64):ld (cR h p) a 4=ld h.Bytes (p * 64+a) 4:=by
  unfold ld cR
  rw [List.drop_take,List.take_take,List.drop_drop]
  congr 2;omega
theorem aBQ{k:Nat}(hk:k < 64):idx (cR h p) (k:Int)=some ((cR h p).getD k 0):=by
  have:=CP hs hp
  rw [aV (by omega),List.getD_eq_getElem?_getD,List.getElem?_eq_getElem (by omega)];rfl
theorem JC:DJ h (p:Int)=some (decide (j4 h p)):=by
  have hb:=hs.1
  have hl:=CP hs hp
  have hm:(cR h p).length≤maxLen:=by rw [hl];simp [maxLen]
  have e0:aW ((p:Int) * 64)=((p * 64:Nat):Int):=by rw [aO (by omega) (by omega)];omega
  have e1:aW (aW ((p:Int)+1) * 64)=(((p+1) * 64:Nat):Int):=by rw [aO (x:=(p:Int)+1) (by omega) (by omega),aO (by omega) (by omega)];omega
  have i0:=aBQ hs hp (show 0 < 64 by omega)
  have i1:=aBQ hs hp (show 1 < 64 by omega)
  have i2:=aBQ hs hp (show 2 < 64 by omega)
  rw [show((0:Nat):Int)=0 from rfl] at i0
  rw [show((1:Nat):Int)=1 from rfl] at i1
  rw [show((2:Nat):Int)=2 from rfl] at i2
  unfold DJ
  rw [RC hs hp]
  simp only [aH,e0,e1,Int.toNat_natCast,aLD hs hp]
  rw [aS (by omega)]
  by_cases hc:bQ h p < 0
  · have hP:j4 h p↔∀x∈cR h p,x=0:=by unfold j4;rw [if_pos hc]
    simp only [hc,decide_true,if_true,JB hm,aH,hP]
  · have hP:j4 h p↔((cR h p).getD 0 0=171∧(cR h p).getD 1 0=bQ h p∧(cR h p).getD 2 0=bW (bQ h p))∧(∀x∈((cR h p).drop 3).take 5,x=0)∧∀i,i < (bW (bQ h p)).toNat→1≤ld h.Bytes (p * 64+8+i * (aR (bQ h p)).toNat) 4∧ld h.Bytes (p * 64+8+i * (aR (bQ h p)).toNat) 4≤7:=by unfold j4;rw [if_neg hc]
    simp only [hc,decide_false,bE,if_false,i0,i1,i2,aH,tO]
    by_cases a0:(cR h p).getD 0 0=171
    · by_cases a1:(cR h p).getD 1 0=bQ h p
      · by_cases a2:(cR h p).getD 2 0=bW (bQ h p)
        · have n0:((cR h p).getD 0 0 != 171)=false:=by simp only [bne_eq_false_iff_eq];exact a0
          have n1:((cR h p).getD 1 0 != bQ h p)=false:=by simp only [bne_eq_false_iff_eq];exact a1
          have n2:((cR h p).getD 2 0 != bW (bQ h p))=false:=by simp only [bne_eq_false_iff_eq];exact a2
          have t8:((cR h p).take (8:Int).toNat).drop (3:Int).toNat=((cR h p).drop 3).take 5:=by
            rw [show(8:Int).toNat=8 from rfl,show(3:Int).toNat=3 from rfl,List.drop_take]
          simp only [n0,n1,n2,bE,if_false,fT,t8]
          rw [aS (by omega),JB (by simp [maxLen];omega)]
          by_cases h4:∀x∈((cR h p).drop 3).take 5,x=0
          · simp only [bB h4,aH,eU,bE,if_false,tO]
            have key2:loop (mB h (p:Int) (bQ h p) (bW (bQ h p))) 0=some (if ∀i,i < (bW (bQ h p)).toNat→1≤ld h.Bytes (p * 64+8+i * (aR (bQ h p)).toNat) 4∧ld h.Bytes (p * 64+8+i * (aR (bQ h p)).toNat) 4≤7 then Out.brk () else Out.ret false):=by
              have hle:=jB (bQ h p)
              have hst:∀k:Nat,k < (bW (bQ h p)).toNat→mB h (p:Int) (bQ h p) (bW (bQ h p)) (k:Int)=if 1≤ld h.Bytes (p * 64+8+k * (aR (bQ h p)).toNat) 4∧ld h.Bytes (p * 64+8+k * (aR (bQ h p)).toNat) 4≤7 then some (.next ((k+1:Nat):Int)) else some (.stop (Out.ret false)):=by
                intro k hk
                have hz:=rD hs hp rfl hk
                have e5:aW (8+aW ((k:Int) * aR (bQ h p)))=((8+k * (aR (bQ h p)).toNat:Nat):Int):=by
                  rw [aO (x:=(k:Int) * aR (bQ h p)) (by omega) (by omega),aO (by omega) (by omega)];omega
                have l1:=AI (aEC hs hp) (a:=8+k * (aR (bQ h p)).toNat) (w:=4) (by omega) (by omega) (by omega)
                rw [show((4:Nat):Int)=4 from rfl,aKK hs hp (by omega)] at l1
                simp only [mB,FF,aH,e0,e1,Int.toNat_natCast,aLD hs hp,e5]
                rw [if_pos (by simp;omega),l1,Nat.add_assoc,aO (x:=(k:Int)+1) (by omega) (by omega)]
                simp only [aH,d9]
                by_cases q:1≤ld h.Bytes (p * 64+(8+k * (aR (bQ h p)).toNat)) 4∧ld h.Bytes (p * 64+(8+k * (aR (bQ h p)).toNat)) 4≤7
                · rw [if_pos q,bB q];rfl
                · rw [if_neg q,bK q];rfl
              refine qE (f:=mB h (p:Int) (bQ h p) (bW (bQ h p))) (bW (bQ h p)).toNat (fun k=>(k:Int)) (fun i=>1≤ld h.Bytes (p * 64+8+i * (aR (bQ h p)).toNat) 4∧ld h.Bytes (p * 64+8+i * (aR (bQ h p)).toNat) 4≤7) _ _ (fun k hk hx=>?_) (fun k hk hx=>?_) ?_
              · rw [hst k hk,if_pos hx]
              · rw [hst k hk,if_neg hx]
              · simp only [mB]
                rw [if_neg (by simp;omega)]
            rw [key2]
            by_cases h5:∀i,i < (bW (bQ h p)).toNat→1≤ld h.Bytes (p * 64+8+i * (aR (bQ h p)).toNat) 4∧ld h.Bytes (p * 64+8+i * (aR (bQ h p)).toNat) 4≤7
            · rw [if_pos h5,bB (hP.2 ⟨⟨a0,a1,a2⟩,h4,h5⟩)];rfl
            · rw [if_neg h5,bK (fun q=>h5 (hP.1 q).2.2)];rfl
          · simp only [bK h4,aH,wX,if_true]
            rw [bK (fun q=>h4 (hP.1 q).2.1)]
        · have n0:((cR h p).getD 0 0 != 171)=false:=by simp only [bne_eq_false_iff_eq];exact a0
          have n1:((cR h p).getD 1 0 != bQ h p)=false:=by simp only [bne_eq_false_iff_eq];exact a1
          have n2:((cR h p).getD 2 0 != bW (bQ h p))=true:=by simp only [bne_iff_ne];exact a2
          simp only [n0,n1,n2,bE,if_false,fT,if_true]
          rw [bK (fun q=>a2 (hP.1 q).1.2.2)]
      · have n0:((cR h p).getD 0 0 != 171)=false:=by simp only [bne_eq_false_iff_eq];exact a0
        have n1:((cR h p).getD 1 0 != bQ h p)=true:=by simp only [bne_iff_ne];exact a1
        simp only [n0,n1,bE,if_false,fT,if_true]
        rw [bK (fun q=>a1 (hP.1 q).1.2.1)]
    · have n0:((cR h p).getD 0 0 != 171)=true:=by simp only [bne_iff_ne];exact a0
      simp only [n0,bE,if_false,fT,if_true]
      rw [bK (fun q=>a0 (hP.1 q).1.1)]
end
instance (h:aB):Decidable (∀p,p < 6→j4 h p):=Nat.decidableBallLT 6 fun p _=>j4 h p
def LV(h:aB):Prop:=dM h∧∀p,p < 6→j4 h p
instance (h:aB):Decidable (LV h):=by unfold LV;infer_instance
theorem JD{h:aB}(hl:h.Bytes.length≤maxLen):uI h=some (decide (LV h)):=by
  unfold uI
  rw [HH hl]
  by_cases hs:dM h
  · have key:loop (o8 h) 0=some (if ∀p,p < 6→j4 h p then Out.brk () else Out.ret false):=by
      refine qE (f:=o8 h) 6 (fun k=>(k:Int)) (fun p=>j4 h p) _ _ (fun k hk hx=>?_) (fun k hk hx=>?_) ?_
      · simp only [o8]
        rw [if_pos (by simp;omega),JA hs hk,aO (by omega) (by omega),bB hx];rfl
      · simp only [o8]
        rw [if_pos (by simp;omega),JA hs hk,bK hx];rfl
      · rfl
    simp only [aH,bB hs,eU,bE,if_false]
    rw [key]
    by_cases h4:∀p,p < 6→j4 h p
    · rw [if_pos h4,bB (show LV h from ⟨hs,h4⟩)];rfl
    · rw [if_neg h4,bK (fun q:LV h=>h4 q.2)];rfl
  · rw [bK (fun q:LV h=>hs q.1),bK hs];rfl
theorem CQ{h:aB}(hl:h.Bytes.length≤maxLen):zG h=some (decide (LV h)):=by
  unfold zG
  rw [CN hl]
  by_cases hs:dM h
  · have key:loop (pP h) 0=some (if ∀p,p < 6→j4 h p then Out.brk () else Out.ret false):=by
      refine qE (f:=pP h) 6 (fun k=>(k:Int)) (fun p=>j4 h p) _ _ (fun k hk hx=>?_) (fun k hk hx=>?_) ?_
      · simp only [pP]
        rw [if_pos (by simp;omega),JC hs hk,aO (by omega) (by omega),bB hx];rfl
      · simp only [pP]
        rw [if_pos (by simp;omega),JC hs hk,bK hx];rfl
      · rfl
    simp only [aH,bB hs,eU,bE,if_false]
    rw [key]
    by_cases h4:∀p,p < 6→j4 h p
    · rw [if_pos h4,bB (show LV h from ⟨hs,h4⟩)];rfl
    · rw [if_neg h4,bK (fun q:LV h=>h4 q.2)];rfl
  · rw [bK (fun q:LV h=>hs q.1),bK hs];rfl
def aX(h:aB)(s:Int):Int:=if (0≤s∧s≤23)∧s % 4 < bW (bQ h (s / 4).toNat) then bQ h (s / 4).toNat else -1
theorem rE{h:aB}{s:Int}(hc:0≤aX h s):(0≤s∧s≤23)∧s % 4 < bW (bQ h (s / 4).toNat)∧aX h s=bQ h (s / 4).toNat:=by
  unfold aX at hc ⊢
  split at hc
  · rename_i h1;exact⟨h1.1,h1.2,by rw [if_pos h1]⟩
  · omega
theorem gE{h:aB}(hs:dM h)(s:Int):gR h s=some (aX h s):=by
  unfold gR nM aX
  rw [I7,HF]
  by_cases h1:0≤s∧s≤23
  · obtain⟨k,rfl⟩:=Int.eq_ofNat_of_zero_le h1.1
    have hk:k / 4 < 6:=by omega
    have e1:((k:Int) / 4)=((k / 4:Nat):Int):=by omega
    have hi:=RC hs hk
    have n1:¬((k / 4:Nat):Int) < 0:=by omega
    simp only [h1,and_self,if_true,aH,e1,n1,decide_false,bE,if_false,hi,Int.toNat_natCast,true_and]
    by_cases h2:bQ h (k / 4) < 0
    · have h3:bW (bQ h (k / 4))=0:=YO (by omega)
      have h4:¬(k:Int) % 4 < 0:=by omega
      simp [h2,h3,h4]
    · by_cases h3:(k:Int) % 4 < bW (bQ h (k / 4))
      · have h4:¬bW (bQ h (k / 4))≤(k:Int) % 4:=by omega
        simp [h2,h3,h4,eH]
      · have h4:bW (bQ h (k / 4))≤(k:Int) % 4:=by omega
        simp [h2,h3,h4,eH]
  · simp [h1]
theorem kN{h:aB}(hs:dM h)(s:Int):kY h s=some (aX h s):=by
  unfold kY sZ aX
  rw [qF]
  by_cases h1:0≤s∧s≤23
  · obtain⟨k,rfl⟩:=Int.eq_ofNat_of_zero_le h1.1
    have hk:k / 4 < 6:=by omega
    have e1:((k:Int) / 4)=((k / 4:Nat):Int):=by omega
    have hi:=RC hs hk
    have e2:aW (Int.tdiv (k:Int) 4)=((k / 4:Nat):Int):=by rw [zQ (by omega),aO (by omega) (by omega)];omega
    simp only [h1,and_self,decide_true,eU,bE,if_true,aH,e1,e2,if_false,hi,Int.toNat_natCast,true_and,sK]
    by_cases h3:(k:Int) % 4 < bW (bQ h (k / 4))
    · have hm:=CM (c:=bQ h (k / 4)) (by omega) h3
      have hg:¬eI (k:Int) (bQ h (k / 4)) < 0:=by
        unfold eI;rw [if_pos ⟨h1,h3⟩];omega
      simp [h3,hg]
    · have hg:eI (k:Int) (bQ h (k / 4)) < 0:=by
        unfold eI;rw [if_neg (fun q=>h3 q.2)];omega
      simp [h3,hg]
  · simp [h1]
def g7(h:aB)(s:Int):Int:=ld h.Bytes (eI s (aX h s)).toNat 4
theorem y4{h:aB}{s:Int}(hc:0≤aX h s):0≤eI s (aX h s)∧eI s (aX h s)+4≤384:=by
  obtain⟨h1,h2,h3⟩:=rE hc
  rw [h3]
  have hm:=CM (c:=bQ h (s / 4).toNat) (by omega) h2
  have hst:0 < aR (bQ h (s / 4).toNat):=by
    have:0≤bQ h (s / 4).toNat∧bQ h (s / 4).toNat≤2:=gK.1 (by omega)
    rcases eO this with e | e | e <;> rw [e] <;> decide
  have:4≤aR (bQ h (s / 4).toNat):=by
    have:0≤bQ h (s / 4).toNat∧bQ h (s / 4).toNat≤2:=gK.1 (by omega)
    rcases eO this with e | e | e <;> rw [e] <;> decide
  unfold eI;rw [if_pos ⟨h1,h2⟩];omega
theorem lJ{h:aB}(hs:dM h){s:Int}(hc:0≤aX h s):o9 h s=some (g7 h s):=by
  have hg:=y4 hc
  unfold o9
  rw [gE hs]
  simp only [aH,lI]
  have l1:=I8 hs.2.2.1 (a:=(eI s (aX h s)).toNat) (w:=4) (by omega) (by have:=hs.1;omega) (by have:=hs.1;omega)
  rw [show((4:Nat):Int)=4 from rfl,Int.toNat_of_nonneg hg.1] at l1
  rw [l1];rfl
theorem y5{h:aB}(hs:dM h){s:Int}(hc:0≤aX h s):tY h s=some (g7 h s):=by
  have hg:=y4 hc
  have hm:h.Bytes.length≤maxLen:=by rw [hs.1];simp [maxLen]
  unfold tY vR
  rw [CN hm,kN hs]
  have l1:=AI hs.2.2.1 (a:=(eI s (aX h s)).toNat) (w:=4) (by omega) (by have:=hs.1;omega) (by have:=hs.1;omega)
  rw [show((4:Nat):Int)=4 from rfl,Int.toNat_of_nonneg hg.1] at l1
  have n1:¬aX h s < 0:=by omega
  simp [hs,n1,sK,l1,g7]
end Go.Gv
end
noncomputable section
namespace Go.Gv
def cA(l:List aE):List Int:=l.flatMap aE.aL
def cS(l:aA):List Int:=cA l.Global++cA l.bD
def U2(l:aA):Prop:=l.Global.length=3∧l.bD.length=9∧(∀s∈l.bD,s.aL.length≤2)∧(∀x∈cS l,0≤x∧x≤23)∧(cS l).Nodup
instance (l:aA):Decidable (U2 l):=by unfold U2;infer_instance
theorem FG{l:List aE}{k:Nat}(h:k < l.length):cA (l.take (k+1))=cA (l.take k)++l[k].aL:=by
  unfold cA
  rw [List.take_succ_eq_append_getElem h,List.flatMap_append];simp
theorem RD(l:List aE)(k:Nat):(cA (l.take k)).length≤(cA l).length:=by
  have:cA l=cA (l.take k)++cA (l.drop k):=by
    unfold cA;rw [←List.flatMap_append,List.take_append_drop]
  rw [this];simp
theorem JE(l:List aE){k:Nat}(h:k < l.length):l[k].aL.length≤(cA l).length:=by
  have h1:=RD l (k+1)
  rw [FG h] at h1
  simp at h1;omega
theorem EL{l:aA}(h:(cS l).length≤1073741824)(hg:l.Global.length≤maxLen)(ho:l.bD.length≤maxLen):xG l=some (cS l):=by
  have hsum:(cA l.Global).length+(cA l.bD).length≤1073741824:=by simpa [cS] using h
  unfold xG
  have k1:loop (rR l) ([],0)=some (cA l.Global):=by
    refine gZ (f:=rR l) l.Global.length (fun k=>(cA (l.Global.take k),(k:Int))) _ (fun k hk=>?_) ?_
    · have h1:=RD l.Global (k+1)
      rw [FG hk] at h1
      simp only [rR]
      rw [if_pos (by simp;omega),aV hk]
      simp only [aH]
      rw [aS (by simp at h1;omega),FG hk,i3 (rK hk hg)]
    · simp [rR]
  rw [k1]
  simp only [aH,KH,KG]
  have k2:loop (rQ l) (cA l.Global,0)=some (cS l):=by
    have:=gZ (f:=rQ l) l.bD.length (fun k=>(cA l.Global++cA (l.bD.take k),(k:Int))) (cS l) (fun k hk=>?_) ?_
    · simpa [cA] using this
    · have h1:=RD l.bD (k+1)
      rw [FG hk] at h1
      simp only [rQ]
      rw [if_pos (by simp;omega),aV hk]
      simp only [aH]
      rw [aS (by simp at h1 ⊢;omega),FG hk,i3 (rK hk ho),List.append_assoc]
    · simp [rQ,cS]
  rw [k2];rfl
theorem y6{l:List Int}(hl:l.length≤maxLen)(x:Int):tU l x=some (decide (x∈l)):=by
  unfold tU
  have key:loop (n9 l x) 0=some (if ∀y∈l,y≠x then Out.brk () else Out.ret true):=by
    refine mP (f:=n9 l x) l (fun k=>(k:Int)) (fun y=>y≠x) _ _ (fun k h hp=>?_) (fun k h hp=>?_) ?_
    · simp only [n9]
      rw [if_pos (by simp;omega),aV h,i3 (rK h hl)]
      have:(l[k] == x)=false:=by simpa using hp
      simp only [aH,this,bE,if_false]
    · simp only [n9]
      rw [if_pos (by simp;omega),aV h]
      have:(l[k] == x)=true:=by simpa using hp
      simp only [aH,this,if_true]
    · simp [n9]
  rw [key]
  by_cases h:x∈l
  · rw [if_neg (fun q=>q x h rfl),bB h];rfl
  · rw [if_pos (fun y hy (e:y=x)=>h (e ▸ hy)),bK h];rfl
theorem GN(l:List Int):l.Nodup↔∀k (h:k < l.length),l[k]∉l.take k:=by
  unfold List.Nodup
  rw [List.pairwise_iff_getElem]
  constructor
  · intro h k hk hm
    obtain⟨i,hi,he⟩:=List.mem_take_iff_getElem.1 hm
    exact h i k (by omega) hk (by omega) he
  · intro h i j hi hj hij he
    exact h j hj (List.mem_take_iff_getElem.2 ⟨i,by omega,he⟩)
theorem tP{l:aA}(h:(cS l).length≤1073741824):mZ l=some (decide (U2 l)):=by
  unfold mZ sQ
  by_cases hg:l.Global.length=3
  · by_cases ho:l.bD.length=9
    · have n1:((l.Global.length:Int) != 3)=false:=by simp;omega
      have n2:((l.bD.length:Int) != 9)=false:=by simp;omega
      simp only [n1,n2,bE,if_false]
      have k1:loop (kH l) 0=some (if ∀s∈l.bD,s.aL.length≤2 then Out.brk () else Out.ret false):=by
        refine mP (f:=kH l) l.bD (fun k=>(k:Int)) (fun s=>s.aL.length≤2) _ _ (fun k hk hp=>?_) (fun k hk hp=>?_) ?_
        · simp only [kH]
          rw [if_pos (by simp;omega),aV hk,aO (by omega) (by omega)]
          simp only [aH]
          rw [if_neg (by simp;omega)];rfl
        · simp only [kH]
          rw [if_pos (by simp;omega),aV hk]
          simp only [aH]
          rw [if_pos (by simp;omega)]
        · simp [kH]
      rw [k1]
      by_cases h2:∀s∈l.bD,s.aL.length≤2
      · rw [if_pos h2]
        simp only [aH,GX,GW]
        rw [EL h (by rw [hg];simp [maxLen]) (by rw [ho];simp [maxLen])]
        simp only [aH]
        have k2:loop (kG (cS l)) 0=some (if ∀k,k < (cS l).length→(0≤(cS l).getD k 0∧(cS l).getD k 0≤23)∧(cS l).getD k 0∉(cS l).take k then Out.brk () else Out.ret false):=by
          have hst:∀k,k < (cS l).length→kG (cS l) (k:Int)=if (0≤(cS l).getD k 0∧(cS l).getD k 0≤23)∧(cS l).getD k 0∉(cS l).take k then some (.next ((k+1:Nat):Int)) else some (.stop (Out.ret false)):=by
            intro k hk
            have e:(cS l).getD k 0=(cS l)[k]:=by rw [List.getD_eq_getElem?_getD,List.getElem?_eq_getElem hk];rfl
            rw [e]
            simp only [kG]
            rw [if_pos (by simp;omega),aV hk]
            simp only [aH,bL,sP]
            by_cases q:0≤(cS l)[k]∧(cS l)[k]≤23
            · rw [bB q]
              simp only [eU,bE,if_false,Int.toNat_natCast,List.drop_zero]
              rw [aS (by omega),y6 (by simp [maxLen];omega),aO (by omega) (by omega)]
              by_cases q2:(cS l)[k]∈(cS l).take k
              · rw [if_neg (fun x=>x.2 q2),bB q2];rfl
              · rw [if_pos ⟨q,q2⟩,bK q2];rfl
            · rw [bK q];simp only [wX,if_true];rw [if_neg (fun x=>q x.1)]
          refine qE (f:=kG (cS l)) (cS l).length (fun k=>(k:Int)) (fun k=>(0≤(cS l).getD k 0∧(cS l).getD k 0≤23)∧(cS l).getD k 0∉(cS l).take k) _ _ (fun k hk hx=>?_) (fun k hk hx=>?_) ?_
          · rw [hst k hk,if_pos hx]
          · rw [hst k hk,if_neg hx]
          · simp [kG]
        rw [k2]
        have hiff:U2 l↔∀k,k < (cS l).length→(0≤(cS l).getD k 0∧(cS l).getD k 0≤23)∧(cS l).getD k 0∉(cS l).take k:=by
          have e:∀k (hk:k < (cS l).length),(cS l).getD k 0=(cS l)[k]:=fun k hk=>by rw [List.getD_eq_getElem?_getD,List.getElem?_eq_getElem hk];rfl
          constructor
          · rintro⟨_,_,_,q1,q2⟩ k hk
            rw [e k hk]
            exact⟨q1 _ (List.getElem_mem hk),(GN _).1 q2 k hk⟩
          · intro q
            refine⟨hg,ho,h2,fun x hx=>?_,(GN _).2 fun k hk=>?_⟩
            · obtain⟨k,hk,rfl⟩:=List.mem_iff_getElem.1 hx
              have:=(q k hk).1;rw [e k hk] at this;exact this
            · have:=(q k hk).2;rw [e k hk] at this;exact this
        by_cases q:U2 l
        · rw [if_pos (hiff.1 q),bB q];rfl
        · rw [if_neg (fun x=>q (hiff.2 x)),bK q];rfl
      · rw [if_neg h2,bK (fun q:U2 l=>h2 q.2.2.1)];rfl
    · have n1:((l.Global.length:Int) != 3)=false:=by simp;omega
      have n2:((l.bD.length:Int) != 9)=true:=by simp;omega
      simp only [n1,n2,bE,if_false,if_true]
      rw [bK (fun q:U2 l=>ho q.2.1)]
  · have n1:((l.Global.length:Int) != 3)=true:=by simp;omega
    simp only [n1,if_true]
    rw [bK (fun q:U2 l=>hg q.1)]
def sL:List Bool→List Int→Option (List Bool)
  | met,[]=>some met
  | met,x :: r=>if (0≤x∧x≤23)∧met.getD x.toNat true=false then sL (met.set x.toNat true) r else none
theorem WY:∀{xs:List Int} {met m:List Bool},sL met xs=some m→m.length=met.length
  | [],met,m,h=>by simp [sL] at h;rw [h]
  | x :: r, met, m, h => by
    simp only [sL] at h
    split at h
    · have:=WY h;simpa using this
    · cases h
theorem ND:∀(a b:List Int) (met:List Bool),sL met (a++b)=(sL met a).bind fun m=>sL m b
  | [],b,met=>rfl
  | x :: r, b, met => by
    simp only [List.cons_append,sL]
    split
    · exact ND r b _
    · rfl
theorem LW:∀(xs:List Int) (met:List Bool),met.length=24→((sL met xs).isSome=true↔(∀x∈xs,0≤x∧x≤23)∧xs.Nodup∧∀x∈xs,met.getD x.toNat true=false)
  | [],met,hm=>by simp [sL]
  | x :: r, met, hm => by
    simp only [sL]
    by_cases h:(0≤x∧x≤23)∧met.getD x.toNat true=false
    · rw [if_pos h,LW r _ (by simpa using hm)]
      have hset:∀y,0≤y∧y≤23→(((met.set x.toNat true).getD y.toNat true=false)↔(y≠x∧met.getD y.toNat true=false)):=by
        intro y hy
        rw [List.getD_eq_getElem?_getD,List.getD_eq_getElem?_getD]
        by_cases e:y=x
        · subst e;rw [List.getElem?_set_self (by omega)];simp
        · rw [List.getElem?_set_ne (by omega)];simp [e]
      constructor
      · rintro⟨q1,q2,q3⟩
        refine⟨fun y hy=>?_,List.nodup_cons.2 ⟨fun hx=>?_,q2⟩,fun y hy=>?_⟩
        · rcases List.mem_cons.1 hy with rfl | hy
          · exact h.1
          · exact q1 y hy
        · exact((hset x h.1).1 (q3 x hx)).1 rfl
        · rcases List.mem_cons.1 hy with rfl | hy
          · exact h.2
          · exact((hset y (q1 y hy)).1 (q3 y hy)).2
      · rintro⟨q1,q2,q3⟩
        have q2:=List.nodup_cons.1 q2
        refine⟨fun y hy=>q1 y (List.mem_cons_of_mem _ hy),q2.2,fun y hy=>(hset y (q1 y (List.mem_cons_of_mem _ hy))).2 ⟨fun e=>q2.1 (e ▸ hy),q3 y (List.mem_cons_of_mem _ hy)⟩⟩
    · rw [if_neg h]
      constructor
      · intro q;cases q
      · rintro⟨q1,q2,q3⟩
        exact(h ⟨q1 x List.mem_cons_self,q3 x List.mem_cons_self⟩).elim
def YQ:Option (List Bool)→Out (List Bool) Bool
  | some m=>.brk m
  | none=>.ret false
theorem aOT{s:aE}(hl:s.aL.length≤maxLen):∀d k (met:List Bool),k+d=s.aL.length→met.length=24→loop (iN s) ((k:Int),met)=some (YQ (sL met (s.aL.drop k))):=by
  intro d
  induction d with
  | zero =>
    intro k met hk hm
    rw [bP (r:=Out.brk met) (by simp [iN];omega),List.drop_eq_nil_of_le (by omega)];rfl
  | succ d ih =>
    intro k met hk hm
    have hk':k < s.aL.length:=by omega
    have hd:s.aL.drop k=s.aL[k] :: s.aL.drop (k+1):=List.drop_eq_getElem_cons hk'
    have hst:iN s ((k:Int),met)=if (0≤s.aL[k]∧s.aL[k]≤23)∧met.getD s.aL[k].toNat true=false then some (.next (((k+1:Nat):Int),met.set s.aL[k].toNat true)) else some (.stop (Out.ret false)):=by
      simp only [iN]
      rw [if_pos (by simp;omega),aV hk']
      simp only [aH,qF]
      generalize s.aL[k]=x
      by_cases q:0≤x∧x≤23
      · obtain⟨j,rfl⟩:=Int.eq_ofNat_of_zero_le q.1
        have hj:j < met.length:=by omega
        have e:met.getD j true=met[j]:=by rw [List.getD_eq_getElem?_getD,List.getElem?_eq_getElem hj];rfl
        simp only [q,and_self,decide_true,eU,bE,if_false,kL,Int.toNat_natCast,true_and,e]
        rw [aS (by omega),aV hj]
        simp only [aH]
        cases met[j]
        · simp only [bE,if_false,if_true]
          rw [aS (by omega),i3 (rK hk' hl)]
        · simp
      · rw [bK q];simp only [wX,if_true,kL];rw [if_neg (fun x=>q x.1)]
    rw [hd,sL]
    by_cases q:(0≤s.aL[k]∧s.aL[k]≤23)∧met.getD s.aL[k].toNat true=false
    · rw [if_pos q] at hst ⊢
      rw [bT hst,ih (k+1) _ (by omega) (by simpa using hm)]
    · rw [if_neg q] at hst ⊢
      rw [bP hst];rfl
def O3(l:List aE):Prop:=∀s∈l,s.aL.length≤2
instance (l:List aE):Decidable (O3 l):=by unfold O3;infer_instance
theorem aOU{l:aA}(ho:l.bD.length=9)(hn:(l.bD++l.Global).length≤1000)(hs:∀s∈l.bD++l.Global,s.aL.length≤maxLen):∀d k (met:List Bool),k+d=(l.bD++l.Global).length→met.length=24 →
    loop (iP l) ((k:Int),met)=some (if O3 (((l.bD++l.Global).drop k).take (9 - k))∧(sL met (cA ((l.bD++l.Global).drop k))).isSome=true then Out.brk () else Out.ret false):=by
  intro d
  induction d with
  | zero =>
    intro k met hk hm
    rw [List.drop_eq_nil_of_le (by omega),if_pos ⟨by simp [O3],rfl⟩]
    refine bP ?_
    simp only [iP]
    rw [if_neg (by simp;simp at hk;omega)]
  | succ d ih =>
    intro k met hk hm
    have hk':k < (l.bD++l.Global).length:=by omega
    have hd:(l.bD++l.Global).drop k=(l.bD++l.Global)[k] :: (l.bD++l.Global).drop (k+1):=List.drop_eq_getElem_cons hk'
    have hsk:=hs _ (List.getElem_mem hk')
    have hf:cA ((l.bD++l.Global).drop k)=(l.bD++l.Global)[k].aL++cA ((l.bD++l.Global).drop (k+1)):=by unfold cA;rw [hd,List.flatMap_cons]
    have hin:∀b:Bool,iO (k:Int) met (l.bD++l.Global)[k] b=if b then some (.stop (Out.ret false)) else (match sL met (l.bD++l.Global)[k].aL with | some m=>some (.next (((k+1:Nat):Int),m)) | none=>some (.stop (Out.ret false))):=by
      intro b
      have h4:=aOT hsk _ 0 met (Nat.zero_add _) hm
      rw [show((0:Nat):Int)=0 from rfl,List.drop_zero] at h4
      unfold iO
      rw [h4]
      cases b
      · simp only [bE,if_false,aH]
        cases sL met (l.bD++l.Global)[k].aL with
        | none=>rfl
        | some m=>simp only [YQ,GY,sW];rw [aO (by omega) (by omega)];rfl
      · rfl
    have hst:iP l ((k:Int),met)=iO (k:Int) met (l.bD++l.Global)[k] (decide (k < 9∧2 < (l.bD++l.Global)[k].aL.length)):=by
      simp only [iP]
      rw [if_pos (by simp;simp at hk';omega),aV hk']
      simp only [aH]
      by_cases h9:k < 9
      · rw [if_pos (by simp;omega)]
        congr 1
        rw [Bool.eq_iff_iff];simp only [decide_eq_true_eq];omega
      · rw [if_neg (by simp;omega),bK (by omega)]
    rw [hin] at hst
    by_cases h2:k < 9∧2 < (l.bD++l.Global)[k].aL.length
    · rw [bB h2] at hst
      simp only [if_true] at hst
      rw [bP hst,if_neg]
      rintro⟨q,_⟩
      have e:9 - k=(9 - (k+1))+1:=by omega
      rw [hd,e,List.take_succ_cons] at q
      have:=q _ List.mem_cons_self
      omega
    · rw [bK h2] at hst
      simp only [bE,if_false] at hst
      have hcond:O3 (((l.bD++l.Global).drop k).take (9 - k))↔O3 (((l.bD++l.Global).drop (k+1)).take (9 - (k+1))):=by
        unfold O3
        by_cases h9:k < 9
        · have e:9 - k=(9 - (k+1))+1:=by omega
          rw [hd,e,List.take_succ_cons,List.forall_mem_cons]
          exact⟨fun q=>q.2,fun q=>⟨by omega,q⟩⟩
        · have e:9 - k=0:=by omega
          have e':9 - (k+1)=0:=by omega
          rw [e,e'];simp
      rw [hf,ND]
      cases hg:sL met (l.bD++l.Global)[k].aL with
      | none =>
        rw [hg] at hst
        rw [bP hst,if_neg (by simp)]
      | some m =>
        rw [hg] at hst
        rw [bT hst,ih (k+1) m (by omega) (by rw [WY hg];exact hm)]
        simp only [aH,hcond]
theorem HI{l:aA}(h:(cS l).length≤1073741824):gW l=some (decide (U2 l)):=by
  unfold gW nU
  by_cases hg:l.Global.length=3
  · by_cases ho:l.bD.length=9
    · have n1:((l.Global.length:Int) != 3)=false:=by simp;omega
      have n2:((l.bD.length:Int) != 9)=false:=by simp;omega
      simp only [n1,n2,bE,if_false]
      rw [aS (by omega)]
      have hsl:∀s∈l.bD++l.Global,s.aL.length≤maxLen:=by
        intro s hm
        have hsum:(cA l.Global).length+(cA l.bD).length≤1073741824:=by simpa [cS] using h
        have hb:(1073741824:Nat)≤maxLen:=by simp [maxLen]
        rcases List.mem_append.1 hm with hm | hm
        · obtain⟨k,hk,rfl⟩:=List.mem_iff_getElem.1 hm
          have:=JE l.bD hk;omega
        · obtain⟨k,hk,rfl⟩:=List.mem_iff_getElem.1 hm
          have:=JE l.Global hk;omega
      have key:=aOU ho (by simp;omega) hsl (l.bD++l.Global).length 0 [false,false,false,false,false,false,false,false,false,false,false,false,false,false,false,false,false,false,false,false,false,false,false,false] (by omega) rfl
      rw [show((0:Nat):Int)=0 from rfl,List.drop_zero,Nat.sub_zero] at key
      rw [key]
      have et:(l.bD++l.Global).take 9=l.bD:=by rw [←ho];simp
      have ef:cA (l.bD++l.Global)=cA l.bD++cA l.Global:=by simp [cA]
      have hm0:∀j:Nat,j < 24→[false,false,false,false,false,false,false,false,false,false,false,false,false,false,false,false,false,false,false,false,false,false,false,false].getD j true=false:=by decide
      have hiff:U2 l↔O3 ((l.bD++l.Global).take 9)∧(sL [false,false,false,false,false,false,false,false,false,false,false,false,false,false,false,false,false,false,false,false,false,false,false,false] (cA (l.bD++l.Global))).isSome=true:=by
        rw [LW _ _ rfl,et,ef]
        have hp:(cA l.bD++cA l.Global).Perm (cS l):=List.perm_append_comm
        constructor
        · rintro⟨_,_,q1,q2,q3⟩
          exact⟨q1,fun x hx=>q2 x (hp.mem_iff.1 hx),hp.nodup_iff.2 q3,fun x hx=>hm0 _ (by have:=q2 x (hp.mem_iff.1 hx);omega)⟩
        · rintro⟨q1,q2,q3,_⟩
          exact⟨hg,ho,q1,fun x hx=>q2 x (hp.mem_iff.2 hx),hp.nodup_iff.1 q3⟩
      by_cases q:U2 l
      · rw [if_pos (hiff.1 q),bB q];rfl
      · rw [if_neg (fun x=>q (hiff.2 x)),bK q];rfl
    · have n1:((l.Global.length:Int) != 3)=false:=by simp;omega
      have n2:((l.bD.length:Int) != 9)=true:=by simp;omega
      simp only [n1,n2,bE,if_false,if_true]
      rw [bK (fun q:U2 l=>ho q.2.1)]
  · have n1:((l.Global.length:Int) != 3)=true:=by simp;omega
    simp only [n1,if_true]
    rw [bK (fun q:U2 l=>hg q.1)]
end Go.Gv
end
noncomputable section
namespace Go.Gv
def wT(h:aB)(l:List Int)(c:Int):Prop:=∀x∈l,aX h x=c∧g7 h x≤6
instance (h:aB) (l:List Int) (c:Int):Decidable (wT h l c):=by unfold wT;infer_instance
theorem FH{h:aB}(hs:dM h){l:List Int}(hl:l.length≤maxLen){c:Int}(hc:0≤c):rS h l c=some (decide (wT h l c)):=by
  unfold rS
  have key:loop (jJ h l c) 0=some (if ∀x∈l,aX h x=c∧g7 h x≤6 then Out.brk () else Out.ret false):=by
    have hst:∀k (hk:k < l.length),jJ h l c (k:Int)=if aX h l[k]=c∧g7 h l[k]≤6 then some (.next ((k+1:Nat):Int)) else some (.stop (Out.ret false)):=by
      intro k hk
      simp only [jJ]
      rw [if_pos (by simp;omega),aV hk]
      generalize l[k]=x
      simp only [aH,gE hs,qO]
      by_cases q:aX h x=c
      · have n1:(aX h x != c)=false:=by simp only [bne_eq_false_iff_eq];exact q
        simp only [n1,bE,if_false,lJ hs (show 0≤aX h x by omega),aH,i3 (rK hk hl)]
        by_cases q2:g7 h x≤6
        · rw [if_neg (by simp;omega),if_pos ⟨q,q2⟩]
        · rw [if_pos (by simp;omega),if_neg (fun x=>q2 x.2)]
      · have n1:(aX h x != c)=true:=by simp only [bne_iff_ne];exact q
        simp only [n1,if_true]
        rw [if_neg (fun x=>q x.1)]
    refine mP (f:=jJ h l c) l (fun k=>(k:Int)) (fun x=>aX h x=c∧g7 h x≤6) _ _ (fun k hk hp=>?_) (fun k hk hp=>?_) ?_
    · rw [hst k hk,if_pos hp]
    · rw [hst k hk,if_neg hp]
    · simp [jJ]
  rw [key]
  by_cases q:∀x∈l,aX h x=c∧g7 h x≤6
  · rw [if_pos q,bB (show wT h l c from q)];rfl
  · rw [if_neg q,bK (show ¬wT h l c from q)];rfl
theorem FI{h:aB}(hs:dM h){s:aE}(hl:s.aL.length≤maxLen){c:Int}(hc:0≤c):r6 h s c=some (decide (wT h s.aL c)):=by
  unfold r6
  have key:loop (jK h s c) 0=some (if ∀x∈s.aL,aX h x=c∧g7 h x≤6 then Out.brk () else Out.ret false):=by
    have hst:∀k (hk:k < s.aL.length),jK h s c (k:Int)=if aX h s.aL[k]=c∧g7 h s.aL[k]≤6 then some (.next ((k+1:Nat):Int)) else some (.stop (Out.ret false)):=by
      intro k hk
      simp only [jK]
      rw [if_pos (by simp;omega),aV hk]
      generalize s.aL[k]=x
      simp only [aH,kN hs,qV]
      by_cases q:aX h x=c
      · have n1:(aX h x != c)=false:=by simp only [bne_eq_false_iff_eq];exact q
        simp only [n1,bE,if_false,y5 hs (show 0≤aX h x by omega),aH,i3 (rK hk hl)]
        by_cases q2:g7 h x≤6
        · rw [if_neg (by simp;omega),if_pos ⟨q,q2⟩]
        · rw [if_pos (by simp;omega),if_neg (fun x=>q2 x.2)]
      · have n1:(aX h x != c)=true:=by simp only [bne_iff_ne];exact q
        simp only [n1,if_true]
        rw [if_neg (fun x=>q x.1)]
    refine mP (f:=jK h s c) s.aL (fun k=>(k:Int)) (fun x=>aX h x=c∧g7 h x≤6) _ _ (fun k hk hp=>?_) (fun k hk hp=>?_) ?_
    · rw [hst k hk,if_pos hp]
    · rw [hst k hk,if_neg hp]
    · simp [jK]
  rw [key]
  by_cases q:∀x∈s.aL,aX h x=c∧g7 h x≤6
  · rw [if_pos q,bB (show wT h s.aL c from q)];rfl
  · rw [if_neg q,bK (show ¬wT h s.aL c from q)];rfl
def eF(l:List aE)(k:Nat):List Int:=(l.getD k ⟨[]⟩).aL
theorem cQ{l:List aE}{k:Nat}(h:k < l.length):l[k].aL=eF l k:=by
  unfold eF;rw [List.getD_eq_getElem?_getD,List.getElem?_eq_getElem h];rfl
def C7(m:Mem)(k:Nat):Prop:=wT m.aB (eF m.aA.Global k) (k:Int)
def wU(m:Mem)(k:Nat):Prop:=wT m.aB (eF m.aA.bD k) ((k % 3:Nat):Int)
instance (m:Mem) (k:Nat):Decidable (C7 m k):=by unfold C7;infer_instance
instance (m:Mem) (k:Nat):Decidable (wU m k):=by unfold wU;infer_instance
instance (m:Mem):Decidable (∀k,k < 3→C7 m k):=Nat.decidableBallLT 3 fun k _=>C7 m k
instance (m:Mem):Decidable (∀k,k < 9→wU m k):=Nat.decidableBallLT 9 fun k _=>wU m k
instance (m:Mem) (c:Nat):Decidable (∀w,w < 3→wU m (w * 3+c)):=Nat.decidableBallLT 3 fun w _=>wU m (w * 3+c)
instance (m:Mem):Decidable (∀k,k < 3→C7 m k∧∀w,w < 3→wU m (w * 3+k)):=Nat.decidableBallLT 3 fun k _=>C7 m k∧∀w,w < 3→wU m (w * 3+k)
def j7(m:Mem):Prop:=(LV m.aB∧U2 m.aA)∧(∀k,k < 3→C7 m k)∧∀k,k < 9→wU m k
instance (m:Mem):Decidable (j7 m):=by unfold j7;infer_instance
theorem U2.O4{l:aA}(h:U2 l)(hb:(cS l).length≤1073741824):(∀s∈l.Global,s.aL.length≤1073741824)∧∀s∈l.bD,s.aL.length≤1073741824:=by
  have hsum:(cA l.Global).length+(cA l.bD).length≤1073741824:=by simpa [cS] using hb
  constructor
  · intro s hm
    obtain⟨k,hk,rfl⟩:=List.mem_iff_getElem.1 hm
    have:=JE l.Global hk;omega
  · intro s hm
    obtain⟨k,hk,rfl⟩:=List.mem_iff_getElem.1 hm
    have:=JE l.bD hk;omega
theorem aDH{m:Mem}:(∀k,k < 3→C7 m k∧∀w,w < 3→wU m (w * 3+k))↔(∀k,k < 3→C7 m k)∧∀k,k < 9→wU m k:=by
  constructor
  · intro h
    refine⟨fun k hk=>(h k hk).1,fun k hk=>?_⟩
    have:=(h (k % 3) (by omega)).2 (k / 3) (by omega)
    have e:k / 3 * 3+k % 3=k:=by omega
    rwa [e] at this
  · rintro⟨h1,h2⟩ k hk
    exact⟨h1 k hk,fun w hw=>h2 _ (by omega)⟩
theorem EM{m:Mem}(hb:m.aB.Bytes.length≤maxLen)(hl:(cS m.aA).length≤1073741824):m3 m=some (decide (j7 m)):=by
  unfold m3 xU
  rw [JD hb,tP hl]
  by_cases h1:LV m.aB
  · by_cases h2:U2 m.aA
    · have hmx:(1073741824:Nat)≤maxLen:=by simp [maxLen]
      have hsl:=U2.O4 h2 hl
      simp only [bB h1,bB h2,aH,eU,bE,if_false]
      have k3:∀c:Nat,c < 3→loop (rT m (c:Int)) 0=some (if ∀w,w < 3→wU m (w * 3+c) then Out.brk () else Out.ret false):=by
        intro c hc
        have hst:∀w:Nat,w < 3→rT m (c:Int) (w:Int)=if wU m (w * 3+c) then some (.next ((w+1:Nat):Int)) else some (.stop (Out.ret false)):=by
          intro w hw
          have hk:w * 3+c < m.aA.bD.length:=by rw [h2.2.1];omega
          have e:jO (w:Int) (c:Int)=some ((w * 3+c:Nat):Int):=by
            unfold jO oA
            rw [bL,bL,bB (by omega),bB (by omega)]
            simp only [aH,eU,bE,if_false]
            rw [aO (x:=(w:Int) * 3) (by omega) (by omega),aO (by omega) (by omega)];rfl
          have hlen:=hsl.2 _ (List.getElem_mem hk)
          simp only [rT]
          rw [if_pos (by simp;omega),e]
          simp only [aH,aV hk]
          rw [FH h1.1 (by omega) (by omega),cQ hk]
          have em:(w * 3+c) % 3=c:=by omega
          have ho:wU m (w * 3+c)↔wT m.aB (eF m.aA.bD (w * 3+c)) (c:Int):=by unfold wU;rw [em]
          rw [aO (by omega) (by omega)]
          by_cases q:wU m (w * 3+c)
          · rw [if_pos q,bB (ho.1 q)];rfl
          · rw [if_neg q,bK (fun x=>q (ho.2 x))];rfl
        refine qE (f:=rT m (c:Int)) 3 (fun k=>(k:Int)) (fun w=>wU m (w * 3+c)) _ _ (fun k hk hx=>?_) (fun k hk hx=>?_) ?_
        · rw [hst k hk,if_pos hx]
        · rw [hst k hk,if_neg hx]
        · rfl
      have k2:loop (rU m) 0=some (if ∀k,k < 3→C7 m k∧∀w,w < 3→wU m (w * 3+k) then Out.brk () else Out.ret false):=by
        have hst:∀c:Nat,c < 3→rU m (c:Int)=if C7 m c∧∀w,w < 3→wU m (w * 3+c) then some (.next ((c+1:Nat):Int)) else some (.stop (Out.ret false)):=by
          intro c hc
          have hk:c < m.aA.Global.length:=by rw [h2.1];omega
          have hlen:=hsl.1 _ (List.getElem_mem hk)
          simp only [rU]
          rw [if_pos (by simp;omega)]
          simp only [aH,aV hk]
          rw [FH h1.1 (by omega) (by omega),cQ hk,k3 c hc]
          by_cases q:C7 m c
          · have q':wT m.aB (eF m.aA.Global c) (c:Int):=q
            rw [bB q']
            simp only [aH,eU,bE,if_false]
            by_cases q2:∀w,w < 3→wU m (w * 3+c)
            · rw [if_pos q2,if_pos ⟨q,q2⟩]
              simp only [KJ,KI]
              rw [aO (by omega) (by omega)];rfl
            · rw [if_neg q2,if_neg (fun x=>q2 x.2)];rfl
          · have q':¬wT m.aB (eF m.aA.Global c) (c:Int):=q
            rw [bK q',if_neg (fun x:C7 m c∧_=>q x.1)];rfl
        refine qE (f:=rU m) 3 (fun k=>(k:Int)) (fun k=>C7 m k∧∀w,w < 3→wU m (w * 3+k)) _ _ (fun k hk hx=>?_) (fun k hk hx=>?_) ?_
        · rw [hst k hk,if_pos hx]
        · rw [hst k hk,if_neg hx]
        · rfl
      rw [k2]
      by_cases q:∀k,k < 3→C7 m k∧∀w,w < 3→wU m (w * 3+k)
      · rw [if_pos q,bB (show j7 m from ⟨⟨h1,h2⟩,aDH.1 q⟩)];rfl
      · rw [if_neg q,bK (fun x:j7 m=>q (aDH.2 x.2))];rfl
    · rw [bK (fun q:j7 m=>h2 q.1.2),bB h1,bK h2];rfl
  · rw [bK (fun q:j7 m=>h1 q.1.1),bK h1];rfl
theorem K8{m:Mem}(hb:m.aB.Bytes.length≤maxLen)(hl:(cS m.aA).length≤1073741824):BY m=some (decide (j7 m)):=by
  unfold BY yA
  rw [CQ hb,HI hl]
  by_cases h1:LV m.aB
  · by_cases h2:U2 m.aA
    · have hmx:(1073741824:Nat)≤maxLen:=by simp [maxLen]
      have hsl:=U2.O4 h2 hl
      simp only [bB h1,bB h2,aH,eU,bE,if_false]
      have k3:loop (oG m) 0=some (if ∀k,k < 9→wU m k then Out.brk () else Out.ret false):=by
        have hst:∀w:Nat,w < 9→oG m (w:Int)=if wU m w then some (.next ((w+1:Nat):Int)) else some (.stop (Out.ret false)):=by
          intro w hw
          have hk:w < m.aA.bD.length:=by rw [h2.2.1];omega
          have hlen:=hsl.2 _ (List.getElem_mem hk)
          have em:Int.tmod (w:Int) 3=((w % 3:Nat):Int):=by rw [n7 (by omega)];omega
          simp only [oG]
          rw [if_pos (by simp;omega)]
          simp only [aH,aV hk,em]
          rw [FI h1.1 (by omega) (by omega),cQ hk,aO (by omega) (by omega)]
          by_cases q:wU m w
          · rw [if_pos q,bB (show wT m.aB (eF m.aA.bD w) ((w % 3:Nat):Int) from q)];rfl
          · rw [if_neg q,bK (show ¬wT m.aB (eF m.aA.bD w) ((w % 3:Nat):Int) from q)];rfl
        refine qE (f:=oG m) 9 (fun k=>(k:Int)) (fun w=>wU m w) _ _ (fun k hk hx=>?_) (fun k hk hx=>?_) ?_
        · rw [hst k hk,if_pos hx]
        · rw [hst k hk,if_neg hx]
        · simp [oG,h2.2.1]
      have k2:loop (oH m) 0=some (if ∀k,k < 3→C7 m k then Out.brk () else Out.ret false):=by
        have hst:∀w:Nat,w < 3→oH m (w:Int)=if C7 m w then some (.next ((w+1:Nat):Int)) else some (.stop (Out.ret false)):=by
          intro w hw
          have hk:w < m.aA.Global.length:=by rw [h2.1];omega
          have hlen:=hsl.1 _ (List.getElem_mem hk)
          simp only [oH]
          rw [if_pos (by simp;omega)]
          simp only [aH,aV hk]
          rw [FI h1.1 (by omega) (by omega),cQ hk,aO (by omega) (by omega)]
          by_cases q:C7 m w
          · rw [if_pos q,bB (show wT m.aB (eF m.aA.Global w) (w:Int) from q)];rfl
          · rw [if_neg q,bK (show ¬wT m.aB (eF m.aA.Global w) (w:Int) from q)];rfl
        refine qE (f:=oH m) 3 (fun k=>(k:Int)) (fun w=>C7 m w) _ _ (fun k hk hx=>?_) (fun k hk hx=>?_) ?_
        · rw [hst k hk,if_pos hx]
        · rw [hst k hk,if_neg hx]
        · simp [oH,h2.1]
      rw [k2]
      by_cases q:∀k,k < 3→C7 m k
      · rw [if_pos q]
        simp only [aH,KN,KM]
        rw [k3]
        by_cases q2:∀k,k < 9→wU m k
        · rw [if_pos q2,bB (show j7 m from ⟨⟨h1,h2⟩,q,q2⟩)];rfl
        · rw [if_neg q2,bK (fun x:j7 m=>q2 x.2.2)];rfl
      · rw [if_neg q,bK (fun x:j7 m=>q x.2.1)];rfl
    · rw [bK (fun q:j7 m=>h2 q.1.2),bB h1,bK h2];rfl
  · rw [bK (fun q:j7 m=>h1 q.1.1),bK h1];rfl
end Go.Gv
end
noncomputable section
namespace Go.Gv
theorem qG{l:List aE}{s:aE}(h:s∈l):s.aL.length≤(cA l).length:=by
  obtain⟨k,hk,rfl⟩:=List.mem_iff_getElem.1 h
  exact JE l hk
theorem fE(l:aA):(cS l).length=(cA l.Global).length+(cA l.bD).length:=by simp [cS]
def mQ(m:Mem):Prop:=m.aB.Bytes.length≤1048576∧m.aB.Class.length≤1048576∧m.aA.Global.length≤1048576∧m.aA.bD.length≤1048576∧(cS m.aA).length≤1048576
theorem mQ.O4{m:Mem}(h:mQ m):(∀s∈m.aA.Global,s.aL.length≤1048576)∧∀s∈m.aA.bD,s.aL.length≤1048576:=by
  have:=fE m.aA
  have h5:=h.2.2.2.2
  exact⟨fun s hm=>by have:=qG hm;omega,fun s hm=>by have:=qG hm;omega⟩
end Go.Gv
end
noncomputable section
namespace Go.Gv
def YR(e:Int)(p:gQ):Prop:=(0≤p.aI∧p.aI≤e)∧(0≤p.Seen∧p.Seen≤2)∧(p.On=false→p=⟨false,0,false,0⟩)
instance (e:Int) (p:gQ):Decidable (YR e p):=by unfold YR;infer_instance
def EN(c:aK):Prop:=(0≤c.aI∧c.aI≤100000)∧c.bM.length=3∧∀p∈c.bM,YR c.aI p
instance (c:aK):Decidable (EN c):=by unfold EN;infer_instance
theorem gG(c:aK):kQ c=some (decide (EN c)):=by
  unfold kQ
  rw [bL]
  by_cases h1:0≤c.aI∧c.aI≤100000
  · by_cases h2:c.bM.length=3
    · simp only [aH,h1,h2,kC]
      have key:∀k:Nat,k≤3→loop (nK c) (k:Int)=some (if ∀p∈c.bM.drop k,YR c.aI p then Out.brk () else Out.ret false):=by
        refine XM 3 _ fun k hk=>?_
        by_cases h3:k < 3
        · have hd:c.bM.drop k=c.bM[k] :: c.bM.drop (k+1):=List.drop_eq_getElem_cons (by omega)
          simp only [nK]
          rw [if_pos (by simp;omega),aV (by omega)]
          simp only [aH,bL,iL,hd]
          rw [i3 (by simp [maxLen];omega)]
          generalize c.bM[k]=p
          have hp:YR c.aI p↔decide (0≤p.aI∧p.aI≤c.aI)=true∧decide (0≤p.Seen∧p.Seen≤2)=true∧(p.On=false→decide (p=⟨false,0,false,0⟩)=true):=by simp only [YR,decide_eq_true_eq]
          simp only [List.forall_mem_cons,hp]
          generalize decide (0≤p.aI∧p.aI≤c.aI)=b1
          generalize decide (0≤p.Seen∧p.Seen≤2)=b2
          generalize decide (p=⟨false,0,false,0⟩)=b3
          generalize p.On=b4
          cases b1 <;> cases b2 <;> cases b3 <;> cases b4 <;> simp [h3]
        · left
          obtain rfl:k=3:=by omega
          simp [nK,List.drop_eq_nil_of_le (show c.bM.length≤3 by omega)]
      have:=key 0 (by omega)
      simp only [Int.ofNat_zero,List.drop_zero] at this
      have e:decide (EN c)=if ∀p∈c.bM,YR c.aI p then true else false:=by
        have:EN c↔∀p∈c.bM,YR c.aI p:=⟨fun h=>h.2.2,fun h=>⟨h1,h2,h⟩⟩
        simp [this]
      rw [e]
      simp only [Int.cast_ofNat_Int] at *
      have t0:loop (nK c) 0=_:=this
      by_cases h5:∀p∈c.bM,YR c.aI p
      · rw [if_pos h5] at t0 ⊢;rw [t0];simp [zV,GU]
      · rw [if_neg h5] at t0 ⊢;rw [t0];simp [zV]
    · simp [h1,h2,kC,EN]
      omega
  · simp [h1,kC,EN]
theorem aAB(p:gQ)(c:aK):pN p c=some (!decide (YR c.aI p)):=by
  unfold pN iG
  rw [d9,d9]
  have hp:decide (YR c.aI p)=(decide (0≤p.aI∧p.aI≤c.aI) && (decide (0≤p.Seen∧p.Seen≤2) && (p.On || decide (p=⟨false,0,false,0⟩)))):=by
    rw [Bool.eq_iff_iff];simp only [YR,decide_eq_true_eq,Bool.and_eq_true,Bool.or_eq_true]
    by_cases h:p.On=true
    · simp [h]
    · simp [(by simpa using h:p.On=false)]
  rw [hp]
  generalize decide (0≤p.aI∧p.aI≤c.aI)=b1
  generalize decide (0≤p.Seen∧p.Seen≤2)=b2
  generalize decide (p=⟨false,0,false,0⟩)=b3
  generalize p.On=b4
  cases b1 <;> cases b2 <;> cases b3 <;> cases b4 <;> rfl
theorem YS{l:List gQ}(hl:l.length≤maxLen)(f:gQ→Bool):iF l (fun x=>some (f x))=some (l.any f):=by
  unfold iF pM
  have key:∀k:Nat,k≤l.length→loop (fI l (fun x=>some (f x))) (k:Int)=some (if (l.drop k).any f then Out.ret ((k+(l.drop k).findIdx f:Nat):Int) else Out.brk ()):=by
    refine XM l.length _ fun k hk=>?_
    by_cases h3:k < l.length
    · have hd:l.drop k=l[k] :: l.drop (k+1):=List.drop_eq_getElem_cons h3
      simp only [fI]
      rw [if_pos (by simp;omega),aV h3,i3 (rK h3 hl),hd]
      simp only [aH,List.any_cons,List.findIdx_cons]
      by_cases h4:f l[k]=true
      · left;simp [h4]
      · right
        have h4:f l[k]=false:=by simpa using h4
        refine⟨h3,by simp [h4],?_⟩
        simp only [h4,Bool.false_or,cond_false]
        congr 2;omega
    · left
      obtain rfl:k=l.length:=by omega
      simp [fI]
  have t0:loop (fI l (fun x=>some (f x))) 0=_:=key 0 (by omega)
  rw [t0]
  simp only [List.drop_zero]
  by_cases h:l.any f=true
  · simp [h,l8]
  · have h:l.any f=false:=by simpa using h
    simp [h,l8,uN]
theorem n8{c:aK}(hc:c.bM.length≤maxLen):kW c=some (decide (EN c)):=by
  unfold kW nT
  rw [d9]
  have e:(fun y0=>pN y0 c)=fun y0=>some (!decide (YR c.aI y0)):=funext fun y=>aAB y c
  rw [e,YS hc]
  by_cases h1:0≤c.aI∧c.aI≤100000
  · by_cases h2:c.bM.length=3
    · have:EN c↔∀p∈c.bM,YR c.aI p:=⟨fun h=>h.2.2,fun h=>⟨h1,h2,h⟩⟩
      have e2:(c.bM.any fun y0=>!decide (YR c.aI y0))=!decide (∀p∈c.bM,YR c.aI p):=by
        rw [Bool.eq_iff_iff];simp
      simp [h1,h2,this,e2]
    · have:¬(c.bM.length:Int)=3:=by omega
      simp [h1,this,h2,EN]
  · simp [h1,EN]
end Go.Gv
end
noncomputable section
namespace Go.Gv
def a9(l:List aN):List bJ:=l.flatMap aN.Rows
theorem CR{l:List aN}{k:Nat}(h:k < l.length):a9 (l.take (k+1))=a9 (l.take k)++l[k].Rows:=by
  unfold a9
  rw [List.take_succ_eq_append_getElem h,List.flatMap_append];simp
theorem NF(l:List aN)(k:Nat):(a9 (l.take k)).length≤(a9 l).length:=by
  have:a9 l=a9 (l.take k)++a9 (l.drop k):=by
    unfold a9;rw [←List.flatMap_append,List.take_append_drop]
  rw [this];simp
theorem aED(l:List aN){k:Nat}(h:k < l.length):l[k].Rows.length≤(a9 l).length:=by
  have h1:=NF l (k+1)
  rw [CR h] at h1
  simp at h1;omega
theorem FJ{l:List aN}{s:aN}(h:s∈l):s.Rows.length≤(a9 l).length:=by
  obtain⟨k,hk,rfl⟩:=List.mem_iff_getElem.1 h
  exact aED l hk
theorem CS{l:List aN}(h:(a9 l).length≤1073741824)(hl:l.length≤maxLen):uJ l=some (a9 l):=by
  unfold uJ
  have k1:loop (pA l) ([],0)=some (a9 l):=by
    refine gZ (f:=pA l) l.length (fun k=>(a9 (l.take k),(k:Int))) _ (fun k hk=>?_) ?_
    · have h1:=NF l (k+1)
      rw [CR hk] at h1
      simp only [pA]
      rw [if_pos (by simp;omega),aV hk]
      simp only [aH]
      rw [aS (by simp at h1;omega),CR hk,i3 (rK hk hl)]
    · simp [pA]
  rw [k1];rfl
def mU(h:Int):Prop:=(32≤h∧h≤223)∧h % 32 < 24
instance (h:Int):Decidable (mU h):=by unfold mU;infer_instance
theorem gP(h:Int):gT h=some (decide (mU h)):=by
  unfold gT qP mU
  rw [bL]
  by_cases q:32≤h∧h≤223
  · simp [q,n7 (show 0≤h by omega)]
  · simp [q]
theorem mR(h:Int):fP h=some (decide (mU h)):=by
  unfold fP jL mU
  rw [d9]
  by_cases q:32≤h∧h≤223
  · simp [q,n7 (show 0≤h by omega)]
  · simp [q]
theorem mU.mod{h:Int}(q:mU h):Int.tmod h 32=h % 32∧0≤h % 32∧h % 32≤23:=by
  unfold mU at q
  exact⟨n7 (by omega),by omega,by omega⟩
theorem dA(h:Int):d5 h=some (if mU h then h % 32 else -1):=by
  unfold d5
  rw [gP]
  by_cases q:mU h
  · simp [q,q.mod.1]
  · simp [q]
def sM(r:bJ):Prop:=mU r.Handle∧0≤r.aI∧r.aI≤100000
instance (r:bJ):Decidable (sM r):=by unfold sM;infer_instance
def gL(r:bJ):Int:=r.Handle % 32
def lK(l:List aN):Prop:=l.length=3∧(a9 l).length≤24∧(∀r∈a9 l,sM r)∧((a9 l).map gL).Nodup
instance (l:List aN):Decidable (lK l):=by unfold lK;infer_instance
def rowAt(l:List bJ)(k:Nat):bJ:=l.getD k ⟨0,0⟩
theorem J6{l:List bJ}{k:Nat}(h:k < l.length):rowAt l k=l[k]:=by
  unfold rowAt;rw [List.getD_eq_getElem?_getD,List.getElem?_eq_getElem h];rfl
theorem AJ{l:List aN}(h:(a9 l).length≤1073741824)(hl:l.length≤maxLen):qQ l=some (decide (lK l)):=by
  unfold qQ sS
  rw [CS h hl]
  simp only [aH]
  by_cases h3:l.length=3
  · have n1:((l.length:Int) != 3)=false:=by simp;omega
    simp only [n1,bE,if_false]
    by_cases h24:(a9 l).length≤24
    · rw [if_neg (by simp;omega)]
      have hst:∀k,k < (a9 l).length→nO (a9 l) (((a9 l).take k).map gL,(k:Int))=if sM (rowAt (a9 l) k)∧gL (rowAt (a9 l) k)∉((a9 l).take k).map gL then some (.next (((a9 l).take (k+1)).map gL,((k+1:Nat):Int))) else some (.stop (Out.ret false)):=by
        intro k hk
        simp only [nO,nN]
        rw [if_pos (by simp;omega),aV hk,J6 hk]
        simp only [aH,dA,bL]
        by_cases q:mU (a9 l)[k].Handle
        · have hm:=q.mod
          rw [if_pos q,if_neg (by simp;omega)]
          by_cases q2:0≤(a9 l)[k].aI∧(a9 l)[k].aI≤100000
          · rw [bB q2]
            simp only [eU,bE,if_false]
            rw [y6 (by simp [maxLen];omega)]
            simp only [aH]
            by_cases q3:(a9 l)[k].Handle % 32∈((a9 l).take k).map gL
            · rw [bB q3];simp only [if_true];rw [if_neg (show ¬(sM (a9 l)[k]∧gL (a9 l)[k]∉((a9 l).take k).map gL) from fun x=>x.2 q3)]
            · rw [bK q3]
              simp only [bE,if_false]
              rw [if_pos (show sM (a9 l)[k]∧gL (a9 l)[k]∉((a9 l).take k).map gL from ⟨⟨q,q2⟩,q3⟩),aS (by simp;omega),aO (by omega) (by omega),map_take _ hk];rfl
          · rw [bK q2]
            simp only [wX,if_true]
            rw [if_neg (fun x:sM _∧_=>q2 x.1.2)]
        · rw [if_neg q,if_pos (by simp),if_neg (fun x:sM _∧_=>q x.1.1)];rfl
      have key:=qE (f:=nO (a9 l)) (a9 l).length (fun k=>(((a9 l).take k).map gL,(k:Int))) (fun k=>sM (rowAt (a9 l) k)∧gL (rowAt (a9 l) k)∉((a9 l).take k).map gL) (Out.brk ()) (Out.ret false) (fun k hk hx=>by rw [hst k hk,if_pos hx]) (fun k hk hx=>by rw [hst k hk,if_neg hx]) (by simp [nO])
      rw [List.take_zero,List.map_nil,show((0:Nat):Int)=0 from rfl] at key
      rw [key]
      have hiff:lK l↔∀k,k < (a9 l).length→sM (rowAt (a9 l) k)∧gL (rowAt (a9 l) k)∉((a9 l).take k).map gL:=by
        constructor
        · rintro⟨_,_,q1,q2⟩ k hk
          rw [J6 hk]
          refine⟨q1 _ (List.getElem_mem hk),?_⟩
          have:=(GN _).1 q2 k (by simpa using hk)
          rw [List.getElem_map,←List.map_take] at this
          exact this
        · intro q
          refine⟨h3,h24,fun x hx=>?_,(GN _).2 fun k hk=>?_⟩
          · obtain⟨k,hk,rfl⟩:=List.mem_iff_getElem.1 hx
            have:=(q k hk).1;rw [J6 hk] at this;exact this
          · have hk':k < (a9 l).length:=by simpa using hk
            have:=(q k hk').2;rw [J6 hk'] at this
            rw [List.getElem_map,←List.map_take];exact this
      by_cases q:lK l
      · rw [if_pos (hiff.1 q),bB q];rfl
      · rw [if_neg (fun x=>q (hiff.2 x)),bK q];rfl
    · rw [if_pos (by simp;omega),bK (fun q:lK l=>h24 q.2.1)]
  · have n1:((l.length:Int) != 3)=true:=by simp;omega
    simp only [n1,if_true]
    rw [bK (fun q:lK l=>h3 q.1)]
def WZ:List Bool→List bJ→Option (List Bool)
  | met,[]=>some met
  | met,r :: t=>if sM r∧met.getD (gL r).toNat true=false then WZ (met.set (gL r).toNat true) t else none
theorem aDI:∀{xs:List bJ} {met m:List Bool},WZ met xs=some m→m.length=met.length
  | [],met,m,h=>by simp [WZ] at h;rw [h]
  | x :: r, met, m, h => by
    simp only [WZ] at h
    split at h
    · have:=aDI h;simpa using this
    · cases h
theorem T9:∀(a b:List bJ) (met:List Bool),WZ met (a++b)=(WZ met a).bind fun m=>WZ m b
  | [],b,met=>rfl
  | x :: r, b, met => by
    simp only [List.cons_append,WZ]
    split
    · exact T9 r b _
    · rfl
theorem aAC:∀(xs:List bJ) (met:List Bool),(WZ met xs).isSome=true↔(∀r∈xs,sM r)∧(sL met (xs.map gL)).isSome=true
  | [],met=>by simp [WZ,sL]
  | x :: r, met => by
    simp only [WZ,List.map_cons,sL]
    by_cases h:sM x
    · have hm:=h.1.mod
      have hs:0≤gL x∧gL x≤23:=hm.2
      by_cases h2:met.getD (gL x).toNat true=false
      · rw [if_pos ⟨h,h2⟩,if_pos ⟨hs,h2⟩,aAC r _]
        simp [h]
      · rw [if_neg (fun q=>h2 q.2),if_neg (fun q=>h2 q.2)];simp
    · rw [if_neg (fun q=>h q.1)]
      constructor
      · intro q;cases q
      · rintro⟨q,_⟩;exact(h (q x List.mem_cons_self)).elim
theorem aEE{s:aN}(hl:s.Rows.length≤maxLen):∀d k (met:List Bool),k+d=s.Rows.length→met.length=24→loop (iQ s) ((k:Int),met)=some (YQ (WZ met (s.Rows.drop k))):=by
  intro d
  induction d with
  | zero =>
    intro k met hk hm
    rw [bP (r:=Out.brk met) (by simp [iQ];omega),List.drop_eq_nil_of_le (by omega)];rfl
  | succ d ih =>
    intro k met hk hm
    have hk':k < s.Rows.length:=by omega
    have hd:s.Rows.drop k=s.Rows[k] :: s.Rows.drop (k+1):=List.drop_eq_getElem_cons hk'
    have hst:iQ s ((k:Int),met)=if sM s.Rows[k]∧met.getD (gL s.Rows[k]).toNat true=false then some (.next (((k+1:Nat):Int),met.set (gL s.Rows[k]).toNat true)) else some (.stop (Out.ret false)):=by
      simp only [iQ]
      rw [if_pos (by simp;omega),aV hk']
      simp only [aH,mR,d9]
      generalize s.Rows[k]=x
      by_cases q:mU x.Handle
      · by_cases q2:0≤x.aI∧x.aI≤100000
        · have hm2:=q.mod
          obtain⟨j,hj0⟩:=Int.eq_ofNat_of_zero_le hm2.2.1
          have hj:j < met.length:=by omega
          have e:met.getD j true=met[j]:=by rw [List.getD_eq_getElem?_getD,List.getElem?_eq_getElem hj];rfl
          have hr:sM x:=⟨q,q2⟩
          simp only [q,q2,and_self,decide_true,eU,bE,if_false,fZ,hm2.1,hj0,Int.toNat_natCast,hr,true_and,gL,e]
          rw [aS (by omega),aV hj]
          simp only [aH]
          cases met[j]
          · simp only [bE,if_false,if_true]
            rw [aS (by omega),i3 (rK hk' hl)]
          · simp
        · rw [bB q,bK q2];simp only [eU,wX,bE,if_false,if_true,fZ];rw [if_neg (fun y:sM x∧_=>q2 y.1.2)]
      · rw [bK q];simp only [wX,if_true,fZ];rw [if_neg (fun y:sM x∧_=>q y.1.1)]
    rw [hd,WZ]
    by_cases q:sM s.Rows[k]∧met.getD (gL s.Rows[k]).toNat true=false
    · rw [if_pos q] at hst ⊢
      rw [bT hst,ih (k+1) _ (by omega) (by simpa using hm)]
    · rw [if_neg q] at hst ⊢
      rw [bP hst];rfl
theorem aEF{l:List aN}(hn:l.length≤1000)(hs:∀s∈l,s.Rows.length≤maxLen):∀d k (met:List Bool),k+d=l.length→met.length=24 →
    loop (iS l) ((k:Int),met)=some (if (WZ met (a9 (l.drop k))).isSome=true then Out.brk () else Out.ret false):=by
  intro d
  induction d with
  | zero =>
    intro k met hk hm
    rw [List.drop_eq_nil_of_le (by omega),if_pos (show(WZ met (a9 [])).isSome=true from rfl)]
    refine bP ?_
    simp only [iS]
    rw [if_neg (by simp;omega)]
  | succ d ih =>
    intro k met hk hm
    have hk':k < l.length:=by omega
    have hd:l.drop k=l[k] :: l.drop (k+1):=List.drop_eq_getElem_cons hk'
    have hsk:=hs _ (List.getElem_mem hk')
    have hf:a9 (l.drop k)=l[k].Rows++a9 (l.drop (k+1)):=by unfold a9;rw [hd,List.flatMap_cons]
    have h4:=aEE hsk _ 0 met (Nat.zero_add _) hm
    rw [show((0:Nat):Int)=0 from rfl,List.drop_zero] at h4
    have hst:iS l ((k:Int),met)=(match WZ met l[k].Rows with | some m=>some (.next (((k+1:Nat):Int),m)) | none=>some (.stop (Out.ret false))):=by
      simp only [iS]
      rw [if_pos (by simp;omega),aV hk']
      simp only [aH]
      rw [h4]
      cases WZ met l[k].Rows with
      | none=>rfl
      | some m=>simp only [aH,YQ,GZ,tB];rw [aO (by omega) (by omega)];rfl
    rw [hf,T9]
    cases hg:WZ met l[k].Rows with
    | none =>
      rw [hg] at hst
      rw [bP hst,if_neg (by simp)]
    | some m =>
      rw [hg] at hst
      rw [bT hst,ih (k+1) m (by omega) (by rw [aDI hg];exact hm)]
      simp only [aH]
theorem NG{l:List aN}(hn:l.length≤1000)(h:(a9 l).length≤1073741824):pR l=some ((a9 l).length:Int):=by
  unfold pR
  have key:loop (fU l) (0,0)=some ((a9 l).length:Int):=by
    refine gZ (f:=fU l) l.length (fun k=>(((a9 (l.take k)).length:Int),(k:Int))) _ (fun k hk=>?_) ?_
    · have h1:=NF l (k+1)
      rw [CR hk,List.length_append] at h1
      simp only [fU]
      rw [if_pos (by simp;omega),aV hk]
      simp only [aH]
      rw [aO (by omega) (by omega),aO (by omega) (by omega),CR hk,List.length_append]
      simp
    · simp [fU]
  rw [key];rfl
theorem tQ{l:List aN}(h:(a9 l).length≤1073741824):i7 l=some (decide (lK l)):=by
  unfold i7
  by_cases h3:l.length=3
  · have n1:((l.length:Int) != 3)=false:=by simp;omega
    have hb:(1073741824:Nat)≤maxLen:=by simp [maxLen]
    simp only [n1,bE,if_false]
    have key:=aEF (l:=l) (by omega) (fun s hs=>by have:=FJ hs;omega) l.length 0 [false,false,false,false,false,false,false,false,false,false,false,false,false,false,false,false,false,false,false,false,false,false,false,false] (by omega) rfl
    rw [show((0:Nat):Int)=0 from rfl,List.drop_zero] at key
    rw [key]
    have hm0:∀j:Nat,j < 24→[false,false,false,false,false,false,false,false,false,false,false,false,false,false,false,false,false,false,false,false,false,false,false,false].getD j true=false:=by decide
    have hiff:lK l↔(a9 l).length≤24∧(WZ [false,false,false,false,false,false,false,false,false,false,false,false,false,false,false,false,false,false,false,false,false,false,false,false] (a9 l)).isSome=true:=by
      rw [aAC,LW _ _ rfl]
      have hr:(∀r∈a9 l,sM r)→∀x∈(a9 l).map gL,0≤x∧x≤23:=by
        intro q x hx
        obtain⟨r,hr,rfl⟩:=List.mem_map.1 hx
        exact(q r hr).1.mod.2
      constructor
      · rintro⟨_,q1,q2,q3⟩
        exact⟨q1,q2,hr q2,q3,fun x hx=>hm0 _ (by have:=hr q2 x hx;omega)⟩
      · rintro⟨q1,q2,_,q3,_⟩
        exact⟨h3,q1,q2,q3⟩
    by_cases q:(WZ [false,false,false,false,false,false,false,false,false,false,false,false,false,false,false,false,false,false,false,false,false,false,false,false] (a9 l)).isSome=true
    · rw [if_pos q]
      simp only [aH,G0,tA]
      rw [NG (by omega) h]
      simp only [aH]
      congr 1
      rw [Bool.eq_iff_iff];simp only [decide_eq_true_eq]
      rw [hiff]
      exact⟨fun a=>⟨by omega,q⟩,fun a=>by omega⟩
    · rw [if_neg q,bK (fun x=>q (hiff.1 x).2)];rfl
  · have n1:((l.length:Int) != 3)=true:=by simp;omega
    simp only [n1,if_true]
    rw [bK (fun q:lK l=>h3 q.1)]
def j5(h:Int):Prop:=h=0∨mU h
instance (h:Int):Decidable (j5 h):=by unfold j5;infer_instance
def CT(z:List Int):Prop:=z.length=3∧∀h∈z,j5 h
instance (z:List Int):Decidable (CT z):=by unfold CT;infer_instance
theorem y7{z:List Int}(hl:z.length≤maxLen):tV z=some (decide (CT z)):=by
  unfold tV
  have hst:∀k (hk:k < z.length),rV z (k:Int)=if j5 z[k] then some (.next ((k+1:Nat):Int)) else some (.stop (Out.ret false)):=by
    intro k hk
    simp only [rV,xV]
    rw [if_pos (by simp;omega),aV hk,i3 (rK hk hl)]
    simp only [aH,gP]
    generalize z[k]=x
    by_cases q:x=0
    · have n:(x != 0)=false:=by simp only [bne_eq_false_iff_eq];exact q
      rw [n,if_pos (show j5 x from .inl q)];rfl
    · have n:(x != 0)=true:=by simp only [bne_iff_ne];exact q
      by_cases q2:mU x
      · rw [n,bB q2,if_pos (show j5 x from .inr q2)];rfl
      · rw [n,bK q2,if_neg (fun a:j5 x=>a.elim q q2)];rfl
  have key:=mP (f:=rV z) z (fun k=>(k:Int)) j5 (Out.brk ()) (Out.ret false) (fun k hk hx=>by rw [hst k hk,if_pos hx]) (fun k hk hx=>by rw [hst k hk,if_neg hx]) (by simp [rV])
  rw [show((0:Nat):Int)=0 from rfl] at key
  rw [key]
  by_cases q:∀x∈z,j5 x
  · rw [if_pos q]
    have:CT z↔z.length=3:=⟨fun a=>a.1,fun a=>⟨a,q⟩⟩
    simp only [aH,KL,KK,this]
    congr 1;rw [Bool.eq_iff_iff];simp only [beq_iff_eq,decide_eq_true_eq];omega
  · rw [if_neg q,bK (fun a:CT z=>q a.2)];rfl
theorem EO{z:List Int}(hl:z.length≤maxLen):xJ z=some (decide (CT z)):=by
  unfold xJ yC
  have e:(fun y0=>A5 y0)=fun y:Int=>some (!decide (j5 y)):=by
    funext y
    unfold A5 H9 vT
    rw [mR]
    by_cases q:y=0
    · have n:(y == 0)=true:=by simp only [beq_iff_eq];exact q
      rw [n,bB (show j5 y from .inl q)];rfl
    · have n:(y == 0)=false:=by simp only [beq_eq_false_iff_ne];exact q
      by_cases q2:mU y
      · rw [n,bB q2,bB (show j5 y from .inr q2)];rfl
      · rw [n,bK q2,bK (fun a:j5 y=>a.elim q q2)];rfl
  rw [e,BO hl,J4]
  by_cases h3:z.length=3
  · have n:((z.length:Int) == 3)=true:=by simp;omega
    have:CT z↔∀h∈z,j5 h:=⟨fun a=>a.2,fun a=>⟨h3,a⟩⟩
    simp only [n,if_true,aH,Bool.not_not,this]
  · have n:((z.length:Int) == 3)=false:=by simp;omega
    simp only [n,bE,if_false]
    rw [bK (fun a:CT z=>h3 a.1)]
end Go.Gv
end
noncomputable section
namespace Go.Gv
theorem NH{α:Type}(l:List α)(f:α→Bool){body:Int→Option (Step Int (Out Unit Int))}(hb:∀k (hk:k < l.length),body (k:Int)=if f l[k] then some (.stop (.ret (k:Int))) else some (.next ((k+1:Nat):Int)))(he:body (l.length:Int)=some (.stop (.brk ()))) :
    ∃o,loop body 0=some o∧match o with | .brk _=>l.any f=false | .ret r=>0≤r∧l.any f=true:=by
  have key:=aEB (f:=body) l.length (fun k=>(k:Int)) (fun k=>if (l.drop k).any f then Out.ret ((k+(l.drop k).findIdx f:Nat):Int) else Out.brk ()) (fun k hk=>by
    by_cases h:k < l.length
    · have hd:l.drop k=l[k] :: l.drop (k+1):=List.drop_eq_getElem_cons h
      rw [hb k h,hd]
      simp only [List.any_cons,List.findIdx_cons]
      by_cases h4:f l[k]=true
      · left;simp [h4]
      · right
        have h4:f l[k]=false:=by simpa using h4
        refine⟨h,by simp [h4],?_⟩
        simp only [h4,Bool.false_or,cond_false]
        congr 2;omega
    · left
      obtain rfl:k=l.length:=by omega
      rw [he];simp) 0 (Nat.zero_le _)
  rw [show((0:Nat):Int)=0 from rfl,List.drop_zero] at key
  refine⟨_,key,?_⟩
  by_cases h:l.any f=true
  · rw [if_pos h];exact⟨by omega,h⟩
  · rw [if_neg h];simpa using h
theorem K9{l:List bJ}(hl:l.length≤maxLen)(f:bJ→Bool):e9 l (fun x=>some (f x))=some (l.any f):=by
  obtain⟨o,e,h⟩:=NH l f (body:=gY l (fun x=>some (f x))) (fun k hk=>by
    simp only [gY]
    rw [if_pos (by simp;omega),aV hk,i3 (rK hk hl)];rfl) (by simp [gY])
  unfold e9 oO
  rw [e]
  cases o with
  | brk u=>simp only at h;simp [lE,r7,h]
  | ret r=>simp only at h;simp [lE,h]
theorem JF{l:List aN}(hl:l.length≤maxLen)(f:aN→Bool)(g:aN→Option Bool)(hg:∀x∈l,g x=some (f x)):eP l g=some (l.any f):=by
  obtain⟨o,e,h⟩:=NH l f (body:=gH l g) (fun k hk=>by
    simp only [gH]
    rw [if_pos (by simp;omega),aV hk,i3 (rK hk hl)]
    simp only [aH,hg _ (List.getElem_mem hk)]) (by simp [gH])
  unfold eP nB
  rw [e]
  cases o with
  | brk u=>simp only at h;simp [j9,rG,h]
  | ret r=>simp only at h;simp [j9,h]
theorem JG{l:List aE}(hl:l.length≤maxLen)(f:aE→Bool)(g:aE→Option Bool)(hg:∀x∈l,g x=some (f x)):eQ l g=some (l.any f):=by
  obtain⟨o,e,h⟩:=NH l f (body:=gI l g) (fun k hk=>by
    simp only [gI]
    rw [if_pos (by simp;omega),aV hk,i3 (rK hk hl)]
    simp only [aH,hg _ (List.getElem_mem hk)]) (by simp [gI])
  unfold eQ nC
  rw [e]
  cases o with
  | brk u=>simp only at h;simp [kA,rH,h]
  | ret r=>simp only at h;simp [kA,h]
theorem contains_eq{l:List Int}(hl:l.length≤maxLen)(v:Int):lQ l v=some (decide (v∈l)):=by
  obtain⟨o,e,h⟩:=NH l (fun x=>v == x) (body:=dD l v) (fun k hk=>by
    simp only [dD]
    rw [if_pos (by simp;omega),aV hk,i3 (rK hk hl)];rfl) (by simp [dD])
  have ha:l.any (fun x=>v == x)=decide (v∈l):=by
    rw [Bool.eq_iff_iff];simp
  rw [ha] at h
  unfold lQ jM
  rw [e]
  cases o with
  | brk u=>simp only at h;simp [lP,AQ,h]
  | ret r=>simp only at h;simp [lP,h]
theorem J7{l:List aE}{x:Int}:x∈cA l↔∃s∈l,x∈s.aL:=List.mem_flatMap
noncomputable section
variable {m:Mem} (hsh:dM m.aB) (hl:(cS m.aA).length≤1073741824) (hg:m.aA.Global.length≤maxLen) (ho:m.aA.bD.length≤maxLen)
include hl hg ho
theorem UA(s:Int):DF m.aA s=some (decide (s∈cS m.aA)):=by
  have hb:(1073741824:Nat)≤maxLen:=by simp [maxLen]
  unfold DF
  rw [EL hl hg ho]
  simp only [aH]
  rw [y6 (by omega)];rfl
theorem JH(s:Int):zH m.aA s=some (decide (s∈cS m.aA)):=by
  have hb:(1073741824:Nat)≤maxLen:=by simp [maxLen]
  have hal:=fE m.aA
  have e1:∀x∈m.aA.Global,lF x s=some (decide (s∈x.aL)):=fun x hx=>by
    have:=qG hx
    unfold lF;rw [contains_eq (by omega)];rfl
  have e2:∀x∈m.aA.bD,lF x s=some (decide (s∈x.aL)):=fun x hx=>by
    have:=qG hx
    unfold lF;rw [contains_eq (by omega)];rfl
  unfold zH vU
  rw [JG hg (fun x=>decide (s∈x.aL)) _ e1,JG ho (fun x=>decide (s∈x.aL)) _ e2]
  have a1:(m.aA.Global.any fun x=>decide (s∈x.aL))=decide (s∈cA m.aA.Global):=by
    rw [Bool.eq_iff_iff];simp [J7]
  have a2:(m.aA.bD.any fun x=>decide (s∈x.aL))=decide (s∈cA m.aA.bD):=by
    rw [Bool.eq_iff_iff];simp [J7]
  rw [a1,a2]
  simp only [aH,cS,List.mem_append]
  by_cases q:s∈cA m.aA.Global <;> simp [q]
def dX(m:Mem)(s:Int):Int:=if aX m.aB s < 0 then 0 else if s∈cS m.aA then 1 else if 6 < g7 m.aB s then 2 else 3
include hsh
theorem HJ(s:Int):uY m s=some (dX m s):=by
  unfold uY dX
  rw [gE hsh,UA hl hg ho]
  simp only [aH]
  by_cases q:aX m.aB s < 0
  · simp [q]
  · rw [lJ hsh (by omega)]
    by_cases q2:s∈cS m.aA
    · simp [q,q2]
    · by_cases q3:6 < g7 m.aB s <;> simp [q,q2,q3]
theorem QO(s:Int):A6 m s=some (dX m s):=by
  unfold A6 dX
  rw [kN hsh,JH hl hg ho]
  simp only [aH]
  by_cases q:aX m.aB s < 0
  · simp [q]
  · rw [y5 hsh (by omega)]
    by_cases q2:s∈cS m.aA
    · simp [q,q2]
    · by_cases q3:6 < g7 m.aB s <;> simp [q,q2,q3]
def jG(m:Mem)(h:Int):Prop:=mU h∧dX m (h % 32)=3∧g7 m.aB (h % 32)=h / 32
instance (m:Mem) (h:Int):Decidable (jG m h):=by unfold jG;infer_instance
omit hl hg ho hsh in
theorem mX{m:Mem}{s:Int}(h:dX m s=3):0≤aX m.aB s:=by
  unfold dX at h
  split at h
  · omega
  · omega
theorem iU(h:Int):kR m h=some (decide (jG m h)):=by
  unfold kR nP
  rw [gP,dA]
  by_cases q:mU h
  · have hm:=q.mod
    rw [bB q,if_pos q]
    simp only [aH,if_true,HJ hsh hl hg ho]
    by_cases q2:dX m (h % 32)=3
    · have n:(dX m (h % 32) == 3)=true:=by simpa using q2
      have eg:uZ h=some (h / 32):=by
        unfold uZ
        unfold mU at q
        rw [gP,bB (show mU h from q),zQ (by omega),aO (by omega) (by omega)];rfl
      rw [n,lJ hsh (mX q2),eg]
      simp only [if_true,aH]
      congr 1;rw [Bool.eq_iff_iff];simp only [beq_iff_eq,decide_eq_true_eq]
      exact⟨fun a=>⟨q,q2,a⟩,fun a=>a.2.2⟩
    · have n:(dX m (h % 32) == 3)=false:=by simpa using q2
      rw [n,bK (fun a:jG m h=>q2 a.2.1)];rfl
  · rw [bK q,bK (fun a:jG m h=>q a.1)];rfl
theorem CU(h:Int):uQ m h=some (decide (jG m h)):=by
  unfold uQ pS
  rw [mR]
  by_cases q:mU h
  · have hm:=q.mod
    rw [bB q,hm.1]
    simp only [aH,if_true,QO hsh hl hg ho]
    by_cases q2:dX m (h % 32)=3
    · have n:(dX m (h % 32) == 3)=true:=by simpa using q2
      have eg:aW (Int.tdiv h 32)=h / 32:=by
        unfold mU at q
        rw [zQ (by omega),aO (by omega) (by omega)]
      rw [n,y5 hsh (mX q2),eg]
      simp only [if_true,aH]
      congr 1;rw [Bool.eq_iff_iff];simp only [beq_iff_eq,decide_eq_true_eq]
      exact⟨fun a=>⟨q,q2,a⟩,fun a=>a.2.2⟩
    · have n:(dX m (h % 32) == 3)=false:=by simpa using q2
      rw [n,bK (fun a:jG m h=>q2 a.2.1)];rfl
  · rw [bK q,bK (fun a:jG m h=>q a.1)];rfl
end
def rF(b:aG)(r:bJ):Prop:=jG b.Mem r.Handle∧r.aI≤b.aK.aI
instance (b:aG) (r:bJ):Decidable (rF b r):=by unfold rF;infer_instance
def fL(b:aG):Prop:=(j7 b.Mem∧EN b.aK∧lK b.aP∧CT b.nZ)∧∀r∈a9 b.aP,rF b r
instance (b:aG):Decidable (fL b):=by unfold fL;infer_instance
def xO(b:aG):Prop:=mQ b.Mem∧b.aK.bM.length≤1048576∧b.aP.length≤1048576∧(a9 b.aP).length≤1048576∧b.nZ.length≤1048576
theorem xO.rows{b:aG}(h:xO b):∀s∈b.aP,s.Rows.length≤1048576:=fun s hs=>by
  have:=FJ hs;have:=h.2.2.2.1;omega
noncomputable section
variable {b:aG} (hf:b.Mem.aB.Bytes.length≤maxLen∧(cS b.Mem.aA).length≤1073741824∧b.aK.bM.length≤maxLen∧b.aP.length≤maxLen∧(a9 b.aP).length≤1073741824∧b.nZ.length≤maxLen)
include hf
theorem wV:pC b=some (decide (fL b)):=by
  obtain⟨f1,f2,f3,f4,f5,f6⟩:=hf
  unfold pC lY
  rw [EM f1 f2,gG,AJ f5 f4,y7 f6]
  by_cases q1:j7 b.Mem
  · by_cases q2:EN b.aK
    · by_cases q3:lK b.aP
      · by_cases q4:CT b.nZ
        · have hg:b.Mem.aA.Global.length≤maxLen:=by rw [q1.1.2.1];simp [maxLen]
          have ho:b.Mem.aA.bD.length≤maxLen:=by rw [q1.1.2.2.1];simp [maxLen]
          have hmx:(1073741824:Nat)≤maxLen:=by simp [maxLen]
          simp only [bB q1,bB q2,bB q3,bB q4,aH,eU,bE,if_false]
          rw [CS f5 f4]
          simp only [aH]
          have hst:∀k (hk:k < (a9 b.aP).length),pB b (a9 b.aP) (k:Int)=if rF b (a9 b.aP)[k] then some (.next ((k+1:Nat):Int)) else some (.stop (Out.ret false)):=by
            intro k hk
            simp only [pB,vA]
            rw [if_pos (by simp;omega),aV hk,i3 (show k < maxLen by omega)]
            generalize (a9 b.aP)[k]=r
            simp only [aH,iU q1.1.1.1 f2 hg ho]
            by_cases a1:jG b.Mem r.Handle
            · rw [bB a1]
              simp only [eU,bE,if_false]
              by_cases a2:r.aI≤b.aK.aI
              · rw [if_neg (by simp;omega),if_pos ⟨a1,a2⟩]
              · rw [if_pos (by simp;omega),if_neg (fun x=>a2 x.2)]
            · rw [bK a1]
              simp only [wX,if_true]
              rw [if_neg (fun x=>a1 x.1)]
          have key:=mP (f:=pB b (a9 b.aP)) (a9 b.aP) (fun k=>(k:Int)) (rF b) (Out.brk ()) (Out.ret false) (fun k hk hx=>by rw [hst k hk,if_pos hx]) (fun k hk hx=>by rw [hst k hk,if_neg hx]) (by simp [pB])
          rw [show((0:Nat):Int)=0 from rfl] at key
          rw [key]
          by_cases q:∀r∈a9 b.aP,rF b r
          · rw [if_pos q,bB (show fL b from ⟨⟨q1,q2,q3,q4⟩,q⟩)];rfl
          · rw [if_neg q,bK (fun x:fL b=>q x.2)];rfl
        · rw [bK (fun x:fL b=>q4 x.1.2.2.2),bB q1,bB q2,bB q3,bK q4];rfl
      · rw [bK (fun x:fL b=>q3 x.1.2.2.1),bB q1,bB q2,bK q3];rfl
    · rw [bK (fun x:fL b=>q2 x.1.2.1),bB q1,bK q2];rfl
  · rw [bK (fun x:fL b=>q1 x.1.1),bK q1];rfl
theorem UB:DK b=some (decide (fL b)):=by
  obtain⟨f1,f2,f3,f4,f5,f6⟩:=hf
  unfold DK mC
  rw [K8 f1 f2,n8 f3,tQ f5,EO f6]
  by_cases q1:j7 b.Mem
  · by_cases q2:EN b.aK
    · by_cases q3:lK b.aP
      · by_cases q4:CT b.nZ
        · have hg:b.Mem.aA.Global.length≤maxLen:=by rw [q1.1.2.1];simp [maxLen]
          have ho:b.Mem.aA.bD.length≤maxLen:=by rw [q1.1.2.2.1];simp [maxLen]
          have hmx:(1073741824:Nat)≤maxLen:=by simp [maxLen]
          simp only [bB q1,bB q2,bB q3,bB q4,aH,eU,bE,if_false]
          have e1:(fun y0=>tC y0 b)=fun r:bJ=>some (!decide (rF b r)):=by
            funext r
            unfold tC nD
            rw [CU q1.1.1.1 f2 hg ho]
            by_cases a1:jG b.Mem r.Handle
            · by_cases a2:r.aI≤b.aK.aI
              · rw [bB a1,bB (show rF b r from ⟨a1,a2⟩),bK (show ¬b.aK.aI < r.aI by omega)];rfl
              · rw [bB a1,bK (fun x:rF b r=>a2 x.2),bB (show b.aK.aI < r.aI by omega)];rfl
            · rw [bK a1,bK (fun x:rF b r=>a1 x.1)];rfl
          have e2:∀l∈b.aP,(fun y0=>yD y0 b) l=some (!decide (∀r∈l.Rows,rF b r)):=fun l hl=>by
            have:=FJ hl
            simp only [yD]
            rw [e1,K9 (by omega),J4];rfl
          rw [JF f4 _ _ e2,J4]
          have hiff:fL b↔∀l∈b.aP,∀r∈l.Rows,rF b r:=by
            constructor
            · intro x l hl r hr
              exact x.2 r (List.mem_flatMap.2 ⟨l,hl,hr⟩)
            · intro x
              refine⟨⟨q1,q2,q3,q4⟩,fun r hr=>?_⟩
              obtain⟨l,hl,hr⟩:=List.mem_flatMap.1 hr
              exact x l hl r hr
          simp only [aH,Bool.not_not,hiff]
        · rw [bK (fun x:fL b=>q4 x.1.2.2.2),bB q1,bB q2,bB q3,bK q4];rfl
      · rw [bK (fun x:fL b=>q3 x.1.2.2.1),bB q1,bB q2,bK q3];rfl
    · rw [bK (fun x:fL b=>q2 x.1.2.1),bB q1,bK q2];rfl
  · rw [bK (fun x:fL b=>q1 x.1.1),bK q1];rfl
end
end Go.Gv
end
noncomputable section
namespace Go.Gv
theorem UC{α:Type}{f:(List α×Int)→Option (Step (List α×Int) (List α))}(l:List α)
    (h:∀k (hk:k < l.length),f (l.take k,(k:Int))=some (.next (l.take k ++ [l[k]],((k+1:Nat):Int)))) (he:f (l,(l.length:Int))=some (.stop l)):loop f ([],0)=some l:=by
  have:=gZ (f:=f) l.length (fun k=>(l.take k,(k:Int))) l (fun k hk=>by rw [h k hk,List.take_succ_eq_append_getElem hk]) (by rw [List.take_length];exact he)
  simpa using this
theorem W0{α:Type}{f:(Int×List α)→Option (Step (Int×List α) (List α))}(l:List α)
    (h:∀k (hk:k < l.length),f ((k:Int),l.take k)=some (.next (((k+1:Nat):Int),l.take k ++ [l[k]]))) (he:f ((l.length:Int),l)=some (.stop l)):loop f (0,[])=some l:=by
  have:=gZ (f:=f) l.length (fun k=>((k:Int),l.take k)) l (fun k hk=>by rw [h k hk,List.take_succ_eq_append_getElem hk]) (by rw [List.take_length];exact he)
  simpa using this
theorem BR{l:List Int}(h:l.length≤1073741824):kS l=some l:=by
  unfold kS;rw [aS (by simpa using h)];rfl
theorem nJ{l:List Int}(h:l.length≤1073741824):d6 l=some l:=by
  unfold d6;rw [aS (by simpa using h)];rfl
theorem YT{l:List gQ}(h:l.length≤1073741824):qU l=some l:=by
  unfold qU;rw [aS (by simpa using h)];rfl
theorem WB{l:List bJ}(h:l.length≤1073741824):oT l=some l:=by
  unfold oT;rw [aS (by simpa using h)];rfl
theorem W1{l:List aE}(hl:l.length≤1048576)(hs:∀s∈l,s.aL.length≤1048576):zD l=some l:=by
  unfold zD
  rw [UC l]
  · rfl
  · intro k hk
    have:=hs _ (List.getElem_mem hk)
    simp only [BW]
    rw [if_pos (by simp;omega),aV hk]
    simp only [aH]
    rw [BR (by omega),aH,aS (by simp;omega),aO (by omega) (by omega)];rfl
  · simp [BW]
theorem y8{l:aA}(h1:l.Global.length≤1048576)(h2:l.bD.length≤1048576)(h3:∀s∈l.Global,s.aL.length≤1048576)(h4:∀s∈l.bD,s.aL.length≤1048576):pD l=some l:=by
  unfold pD;rw [W1 h1 h3,W1 h2 h4];rfl
theorem EP{l:aA}(h1:l.Global.length≤1048576)(h2:l.bD.length≤1048576)(h3:∀s∈l.Global,s.aL.length≤1048576)(h4:∀s∈l.bD,s.aL.length≤1048576):e7 l=some l:=by
  unfold e7
  rw [W0 l.Global]
  · simp only [aH,DI,DH]
    rw [W0 l.bD]
    · rfl
    · intro k hk
      have:=h4 _ (List.getElem_mem hk)
      simp only [vK]
      rw [if_pos (by simp;omega),aV hk]
      simp only [aH]
      rw [nJ (by omega),aH,aS (by simp;omega),vJ,aO (by omega) (by omega)];rfl
    · simp [vK]
  · intro k hk
    have:=h3 _ (List.getElem_mem hk)
    simp only [vM]
    rw [if_pos (by simp;omega),aV hk]
    simp only [aH]
    rw [nJ (by omega),aH,aS (by simp;omega),vL,aO (by omega) (by omega)];rfl
  · simp [vM]
theorem GO{h:aB}(h1:h.Bytes.length≤1048576)(h2:h.Class.length≤1048576):uK h=some h:=by
  unfold uK;rw [BR (by omega),BR (by omega)];rfl
theorem GP{h:aB}(h1:h.Bytes.length≤1048576)(h2:h.Class.length≤1048576):oE h=some h:=by
  unfold oE;rw [nJ (by omega),nJ (by omega)];rfl
theorem zR{m:Mem}(h:mQ m):pE m=some m:=by
  have a:=GO h.1 h.2.1
  have b:=y8 h.2.2.1 h.2.2.2.1 h.O4.1 h.O4.2
  unfold pE;rw [a,b];rfl
theorem O5{m:Mem}(h:mQ m):vN m=some m:=by
  have a:=GP h.1 h.2.1
  have b:=EP h.2.2.1 h.2.2.2.1 h.O4.1 h.O4.2
  unfold vN;rw [a,b];rfl
theorem jH{c:aK}(h:c.bM.length≤1048576):kT c=some c:=by
  unfold kT;rw [aS (by simp;omega)];rfl
theorem sN{c:aK}(h:c.bM.length≤1048576):hO c=some c:=by
  unfold hO;rw [YT (by omega)];rfl
theorem LA{l:List aN}(hl:l.length≤1048576)(hs:∀s∈l,s.Rows.length≤1048576):qR l=some l:=by
  unfold qR
  rw [UC l]
  · rfl
  · intro k hk
    have:=hs _ (List.getElem_mem hk)
    simp only [zX]
    rw [if_pos (by simp;omega),aV hk]
    simp only [aH]
    rw [aS (by simp;omega),aS (by simp;omega),aO (by omega) (by omega)];rfl
  · simp [zX]
theorem ER{l:List aN}(hl:l.length≤1048576)(hs:∀s∈l,s.Rows.length≤1048576):hQ l=some l:=by
  unfold hQ
  rw [UC l]
  · rfl
  · intro k hk
    have:=hs _ (List.getElem_mem hk)
    simp only [vO]
    rw [if_pos (by simp;omega),aV hk]
    simp only [aH]
    rw [WB (by omega),aH,aS (by simp;omega),aO (by omega) (by omega)];rfl
  · simp [vO]
theorem YU{b:aG}(h:xO b):A1 b=some b:=by
  have m:=zR h.1
  have c:=jH h.2.1
  have l:=LA h.2.2.1 h.rows
  have:=h.2.2.2.2
  unfold A1;rw [m,c,l,BR (by omega)];rfl
theorem YV{b:aG}(h:xO b):xX b=some b:=by
  have m:=O5 h.1
  have c:=sN h.2.1
  have l:=ER h.2.2.1 h.rows
  have:=h.2.2.2.2
  unfold xX;rw [m,c,l,nJ (by omega)];rfl
end Go.Gv
end
