import Derived.Test.YtbdmodalljibjaaGreatXLD
set_option linter.unusedVariables false
set_option linter.unusedSimpArgs false
set_option linter.unusedSectionVars false
set_option linter.constructorNameAsVariable false
set_option linter.unnecessarySimpa false
noncomputable section
set_option linter.unusedVariables false
set_option maxHeartbeats 4000000
set_option maxRecDepth 100000
namespace Go.Proofs.YtbdmodalljibjaaGreat
open Go.Gv
noncomputable section
variable {κ:Ctx}
theorem MI{s:Sub}{b:aI}{w_:Int}{s1 s2 s3 s4 s5 s6 s7:AC}{b0 b1:Nat×Nat}:VS Tryz.prog κ 361 (lP s b w_) [.p 0 0,.p 1 0,I w_] [b0,b1] [.box 0 [I s.Kind,I s.A,I s.Pc,I s.E,I s.Row,I s.B,I s.H,I s.Out,I s.Code,.b s.cQ],.box 1 [.h s1 b.Mem.aB.Bytes.length,.h s2 b.Mem.aB.Class.length,.h s3 b.Mem.aA.Global.length,.h s4 b.Mem.aA.aR.length,I b.aC.aE,.h s5 b.aC.aN.length,.h s6 b.aJ.length,.h s7 b.cA.length],ow s1 (b.Mem.aB.Bytes:List Int),ow s2 (b.Mem.aB.Class:List Int),ow s3 (b.Mem.aA.Global:List aD),ow s4 (b.Mem.aA.aR:List aD),ow s5 (b.aC.aN:List dS),ow s6 (b.aJ:List aK),ow s7 (b.cA:List Int)] (fun(r:Sub×aI) (y:Unit)=>.t []) (fun(r:Sub×aI) (y:Unit)=>[.box 0 [I r.1.Kind,I r.1.A,I r.1.Pc,I r.1.E,I r.1.Row,I r.1.B,I r.1.H,I r.1.Out,I r.1.Code,.b r.1.cQ],.box 1 [.h s1 r.2.Mem.aB.Bytes.length,.h s2 r.2.Mem.aB.Class.length,.h s3 r.2.Mem.aA.Global.length,.h s4 r.2.Mem.aA.aR.length,I r.2.aC.aE,.h s5 r.2.aC.aN.length,.h s6 r.2.aJ.length,.h s7 r.2.cA.length],ow s1 r.2.Mem.aB.Bytes,ow s2 r.2.Mem.aB.Class,ow s3 r.2.Mem.aA.Global,ow s4 r.2.Mem.aA.aR,ow s5 r.2.aC.aN,ow s6 r.2.aJ,ow s7 r.2.cA]):=
 cE tok Tryz.call361 Tryz.func361 Tryz.results361 Q Q<|fun hF=>aR8 Q Q Q Q<|wi hF<|ID 6 [0,1,2] [0,2,3,4,5,6,7,8,1] Out.brk [0,1] [0,2,3,4,5,6,7,8,1] Q Q (fun hF1 x2 hr1=>oB d8 6 Q Q Q fun x4 h1 s8 h2=>fun hG1=>gW 2 h2 h1 Q Q Q Q Q<|wi hG1<|bD [23] Q Q (fun hG1=>gW 2 h2 h1 Q Q Q Q Q<|wi hG1<|oB jA 12 Q Q Q fun x5 h3 _ h4=>fun hG1=>gW 3 h4 h3 Q Q Q Q Q<|wi hG1<|eM aG [0,8,11,15,16] Q<|c0 Q (fun _=>RQ) fun x6=>bD [42] Q Q (eM aG [8,11,15,16] Q<|fun hG1=>sR Q<|rI jA 13 [] h3 () Q Q Q Q Q Q Q<|rI d8 9 [17] h1 s8 Q Q Q Q Q Q Q<|JV (hT:=tok) () [0,8,1,2,3,4,5,18,7] (re hG1 Q hr1 hF1) Q Tryz.results361 Q Q Q Q)<|fun hG1=>sF Q<|rI jA 13 [] h3 () Q Q Q Q Q Q Q<|rI d8 9 [17] h1 s8 Q Q Q Q Q Q Q<|nxR () [0,1,2,3,4,5,18,7,8] hG1 Q)<|fun hG1=>sX Q<|rI d8 9 [12] h1 s8 Q Q Q Q Q Q Q<|bkR () [0,1,2,3,4,5,13,7,8] hG1 hr1 Q)<|wm (F:=AM s b) Q<|bP 0 0 0 10 [] Q Q Q Q Q (fun _=>b9) fun x3 _=>OR () [0,8,1,2,3,4,5,6,7] Q Q
theorem KT{s:List bM}{i j:Int}{s1:AC}:VS Tryz.prog κ 426 (vF s i j) [.h s1 s.length,I i,I j] [] [ow s1 (s:List bM)] (fun(r:(List bM)) (y:AC)=>.h y r.length) (fun(r:(List bM)) (y:AC)=>[ow y r]):=
 cE tok Tryz.call426 Tryz.func426 Tryz.results426 Q Q<|fun hF=>cpc 0 Q Q fun hc1=>aQO hc1 Q Q Q Q Q Q Q Q hF fun hF h1=>wi hF<|bD [16] Q Q (eA s1 [0] Q Q)<|eM aG [] Q<|fun hF=>U3 hc1 Q Q Q Q Q Q hF fun hF h2=>aE5 hc1 Q Q Q Q Q Q hF fun hF h3=>nd hF fun hab hF=>ap2 0 i.toNat j.toNat ⟨hab,h3.1⟩ Q Q Q Q Q Q Q Q Q fun h4=>aSH 0 (i.toNat+(s.length - j.toNat)) h4.2 (BU h4.1 h4.2) Q Q Q Q Q Q Q Q Q hF fun hF h5=>clr 0 (((((cX s i.toNat (s.drop j.toNat)).take (i.toNat+(s.length - j.toNat))).drop 0).length:Int).toNat) ((s.length:Int).toNat) ((⟨0,0⟩:bM):bM) h5 cH Q (fun _=>(aN9 (⟨0,0⟩:bM))) Q Q Q Q Q Q Q Q<|sR Q<|poR 0 0 (i.toNat+(s.length - j.toNat)) Q Q (aQN h4 (Nat.le_trans h5.1 h5.2)) (aN4 (Nat.le_of_eq (by rw [Int.toNat_natCast,BU h4.1 h4.2];rfl)) (Nat.le_trans h5.1 h5.2))<|JV (hT:=tok) (AC.sub s1 2 0) [0] hF Q Tryz.results426 Q Q Q Q
theorem WI{l:List aK}{w_ i:Int}{s1:AC}(h1:bE κ s1 l):VS Tryz.prog κ 363 (CE l w_ i) [.h s1 l.length,I w_,I i] [] [] (fun r (y:AC)=>.t [.h y r.1.length,.b r.2]) (fun r y=>[ow y r.1]):=
 cE tok Tryz.call363 Tryz.func363 Tryz.results363 Q Q<|c1 Q (fun h=>m7 (h.a h1)) fun x1 s2=>cW 0 0 (uJ w_ i x1) [1,2,8] 20 [0] Q (c0 Q (fun h=>xP (h.a h1)) fun x5=>dR [13,14] Q Q (bU [0] Q Q)<|c0 Q (fun h=>NB (h.a h1)) fun x6=>bU [0] Q Q) fun x2=>bD [20] Q Q (eA s2 [0] Q Q)<|oB d8 0 Q Q Q fun x3 h2 s3 h3=>fun hF=>gW 0 h3 h2 Q Q Q Q Q<|wi hF<|pW [4] Q Q Q Q (fun _=>KT) fun x4 s4=>fun hF=>gW 0 h3 h2 Q Q Q Q Q<|sR Q<|yA d8 1 [5] [6,8,22,24,35] (⟨x4⟩:aK) s4 Q Q Q Q Q Q Q Q<|JV (hT:=tok) s2 [6] hF Q Tryz.results363 Q Q Q Q
theorem YT{h:aB}{slot gen:Int}{s1 s2:AC}(h1:bE κ s1 h.Bytes)(h2:bE κ s2 h.Class):VS Tryz.prog κ 427 (J6 h slot gen) [.g [.h s1 h.Bytes.length,.h s2 h.Class.length],I slot,I gen] [] [] (fun r (y:AC×AC)=>.t [.g [.h y.1 r.1.Bytes.length,.h y.2 r.1.Class.length],.b r.2]) (fun r y=>[ow y.1 r.1.Bytes,ow y.2 r.1.Class]):=
 cE tok Tryz.call427 Tryz.func427 Tryz.results427 Q Q<|dL 0 3 (fun(p:Int×(List Int)×(List Int))=>C9 slot gen p.1 p.2.1 p.2.2) [1,2,6] (fun(p:Int×(List Int)×(List Int)) (u:AC×AC)=>[(8,.p 2 0),(9,I p.1)]) [1] (fun p u=>[ow u.1 (p.2.1:List Int),ow u.2 (p.2.2:List Int),.box 2 [.h u.1 p.2.1.length,.h u.2 p.2.2.length]]) Q (eM aG [0,1] Q<|fun hF=>bd hF fun x10 hA4 hF=>bd hF fun x11 hA5 hF=>cT Q Q (have hq9:=rb hA4;wi hq9<|c1 Q (fun h=>uM (h.a h1) (h.a h2)) fun u9 s6=>fun hq9=>match u9,hq9 with | _,rfl=>cT Q Q (have hq10:=rb hA5;wi hq10<|c0 Q (fun h=>xO (h.a h1) (h.a h2)) fun u10=>fun hq10=>match u10,hq10 with | _,rfl=>wi hF<|e7 (p:=(x11,x10.Bytes,x10.Class)) (s6.1,s6.2) [2,3,4,1] Q Q) (have hq11:=rb hA5;wi hq11<|c0 Q (fun h=>xO (h.a h1) (h.a h2)) fun u11=>fun hq11=>match u11,hq11 with | _,rfl=>wi hF<|e7 (p:=(x11,x10.Bytes,x10.Class)) (s6.1,s6.2) [2,3,4,1] Q Q)) (have hq12:=rb hA4;wi hq12<|c1 Q (fun h=>uM (h.a h1) (h.a h2)) fun u12 s7=>fun hq12=>match u12,hq12 with | _,rfl=>have hq13:=rb hA5;wi hq13<|c0 Q (fun h=>xO (h.a h1) (h.a h2)) fun u13=>fun hq13=>match u13,hq13 with | _,rfl=>wi hF<|e7 (p:=(x11,x10.Bytes,x10.Class)) (s7.1,s7.2) [3,4,2,1] Q Q)) fun⟨x1,x2,x3⟩ ⟨s3,s4⟩=>cW 0 3 (w6 slot gen x1 x2 x3) [1,2,6,8,9] 21 [3,0,1,2] Q (dR [16,17] Q Q (bU [3,0,1,2] Q Q)<|c0 Q (fun _=>cN) fun x9=>bU [3,0,1,2] Q Q) fun x4=>bD [21] Q Q (eA (s3,s4) [1,2] Q Q)<|dL 0 3 (C8 x3) [6,8] (fun(x5:(List Int)) (_:Unit)=>[]) [0,2] (fun x5 _=>[ow s3 (x5:List Int),.box 2 [.h s3 x5.length,.h s4 x3.length]]) Q (eM aG [0] Q<|fun hF=>bd hF fun x6 hA1 hF=>bd hF fun x7 hA2 hF=>bd hF fun x8 hA3 hF=>cT Q Q (have hq1:=rb hA1;wi hq1<|c0 Q (fun _=>sB) fun u1=>fun hq1=>match u1,hq1 with | _,rfl=>have hq2:=rb hA2;wi hq2<|c0 Q (fun _=>sC) fun u2=>fun hq2=>match u2,hq2 with | _,rfl=>have hq3:=rb hA3;wi hq3<|pW [1] Q Q Q Q (fun _=>pE) fun u3 _=>fun hq3=>un 4 [24] [] [(3,0)] Q Q Q Q Q Q fun hl2=>match u3,hq3 with | _,rfl=>wi hF<|bU (p:=(x8)) [4,3,0,2] Q Q) (have hq4:=rb hA1;wi hq4<|c0 Q (fun _=>sB) fun u4=>fun hq4=>match u4,hq4 with | _,rfl=>cT Q Q (have hq5:=rb hA2;wi hq5<|c0 Q (fun _=>sC) fun u5=>fun hq5=>match u5,hq5 with | _,rfl=>have hq6:=rb hA3;wi hq6<|pW [1] Q Q Q Q (fun _=>pE) fun u6 _=>fun hq6=>un 4 [24] [] [(3,0)] Q Q Q Q Q Q fun hl3=>match u6,hq6 with | _,rfl=>wi hF<|bU (p:=(x8)) [4,3,0,2] Q Q) (have hq7:=rb hA2;wi hq7<|c0 Q (fun _=>sC) fun u7=>fun hq7=>match u7,hq7 with | _,rfl=>have hq8:=rb hA3;wi hq8<|pW [1] Q Q Q Q (fun _=>pE) fun u8 _=>fun hq8=>un 4 [24] [] [(3,0)] Q Q Q Q Q Q fun hl4=>match u8,hq8 with | _,rfl=>wi hF<|bU (p:=(x8)) [4,3,0,2] Q Q))) fun x5 _=>eA (s3,s4) [0,3] Q Q
theorem aDE{l:aA}{w_ c slot:Int}{s1 s2:AC}(h1:bE κ s1 l.Global)(h2:bE κ s2 l.aR):VS Tryz.prog κ 428 (QN l w_ c slot) [.g [.h s1 l.Global.length,.h s2 l.aR.length],I w_,I c,I slot] [] [] (fun r (y:AC×AC)=>.t [.g [.h y.1 r.1.Global.length,.h y.2 r.1.aR.length],.b r.2]) (fun r y=>[ow y.1 r.1.Global,ow y.2 r.1.aR]):=
 cE tok Tryz.call428 Tryz.func428 Tryz.results428 Q Q<|c1 Q (fun h=>fT (h.a h1) (h.a h2)) fun x1 s3=>c0 Q (fun _=>O9) fun x2=>cW 0 3 (rX c slot x1 x2) [2,3,8,10,11] 34 [1,2,3,4] Q (c0 Q (fun h=>xM (h.a h1) (h.a h2)) fun x6=>dR [20,21] Q Q (bU [1,2,3,4] Q Q)<|dR [23,24,25] Q Q (bU [1,2,3,4] Q Q)<|c0 Q (fun _=>zY) fun x7=>dR [28,29,30] Q Q (bU [1,2,3,4] Q Q)<|c0 Q (fun h=>M8 (h.a h1) (h.a h2)) fun x8=>bU [1,2,3,4] Q Q) fun x3=>bD [34] Q Q (eA (s3.1,s3.2) [1,2] Q Q)<|oB cY 2 Q Q Q fun x4 h3 s4 h4=>fun hF=>gW 3 h4 h3 Q Q Q Q Q<|wi hF<|bD [45] Q Q (oB cY 1 Q Q Q fun x5 h5 s5 h6=>fun hF=>gW 4 h6 h5 Q Q Q Q Q<|ZU Q aS Q Q Q Q fun s6=>ap 11 aS Q Q Q Q Q Q Q (fun h=>(h.o 12 Q)) Q Q hF fun hF s7=>sR Q<|yA cY 8 [11] [47] (⟨x5.aO++([slot])⟩:aD) s7 Q Q Q Q Q Q Q Q<|D7 s3.1 List.length_set.symm [(60,0)] [(0,0),(3,0)] Q Q Q<|rI cY 4 [7] h3 s4 Q Q Q Q Q Q Q<|fR Q Q<|JV (hT:=tok) (s3.1,s3.2) [13,14] hF Q Tryz.results428 Q Q Q Q)<|fun hF=>ZU Q aS Q Q Q Q fun s8=>ap 7 aS Q Q Q Q Q Q Q (fun h=>(h.o 8 Q)) Q Q hF fun hF s9=>sR Q<|yA cY 4 [7] [37] (⟨x4.aO++([slot])⟩:aD) s9 Q Q Q Q Q Q Q Q<|D7 s3.2 List.length_set.symm [(60,1)] [(0,1),(3,1)] Q Q Q<|fR Q Q<|JV (hT:=tok) (s3.1,s3.2) [1,9] hF Q Tryz.results428 Q Q Q Q
theorem aBG{m:Mem}{w_ h:Int}{s1 s2 s3 s4:AC}(h1:bE κ s1 m.aB.Bytes)(h2:bE κ s2 m.aB.Class)(h3:bE κ s3 m.aA.Global)(h4:bE κ s4 m.aA.aR):VS Tryz.prog κ 364 (HE m w_ h) [.g [.h s1 m.aB.Bytes.length,.h s2 m.aB.Class.length,.h s3 m.aA.Global.length,.h s4 m.aA.aR.length],I w_,I h] [] [] (fun r (y:AC×AC×AC×AC)=>.g [.h y.1 r.aB.Bytes.length,.h y.2.1 r.aB.Class.length,.h y.2.2.1 r.aA.Global.length,.h y.2.2.2 r.aA.aR.length]) (fun r y=>[ow y.1 r.aB.Bytes,ow y.2.1 r.aB.Class,ow y.2.2.1 r.aA.Global,ow y.2.2.2 r.aA.aR]):=
 cE tok Tryz.call364 Tryz.func364 Tryz.results364 Q Q<|c1 Q (fun h=>YT (h.a h1) (h.a h2)) fun x1 s5=>dL 0 4 (FF m w_ h) [1,3,6,7,8] (fun(x2:Mem) (u:AC×AC)=>[(11,.p 3 0)]) [0,1] (fun x2 u=>[ow s5.1 (x2.aB.Bytes:List Int),ow s5.2 (x2.aB.Class:List Int),ow u.1 (x2.aA.Global:List aD),ow u.2 (x2.aA.aR:List aD),.box 3 [.h s5.1 x2.aB.Bytes.length,.h s5.2 x2.aB.Class.length,.h u.1 x2.aA.Global.length,.h u.2 x2.aA.aR.length]]) Q (eM aG [0,1,4] Q<|fun hF=>bd hF fun x6 hA1 hF=>cT Q Q (have hq1:=rb hA1;wi hq1<|c1 Q (fun h=>fT (h.a h3) (h.a h4)) fun u1 s12=>fun hq1=>match u1,hq1 with | _,rfl=>wi hF<|e7 (p:=((⟨x1.1,x6⟩:Mem))) (s12.1,s12.2) [2,3,5,6,7,0,1] Q Q) (have hq2:=rb hA1;wi hq2<|c1 Q (fun h=>fT (h.a h3) (h.a h4)) fun u2 s13=>fun hq2=>match u2,hq2 with | _,rfl=>wi hF<|e7 (p:=((⟨x1.1,x6⟩:Mem))) (s13.1,s13.2) [2,3,6,7,5,0,1] Q Q)) fun x2 ⟨s6,s7⟩=>dL 0 4 FE [6,11] (fun(x3:Mem) (u:AC×AC)=>[]) [6] (fun x3 u=>[ow s5.1 (x3.aB.Bytes:List Int),ow s5.2 (x3.aB.Class:List Int),ow u.1 (x3.aA.Global:List aD),ow u.2 (x3.aA.aR:List aD),.box 3 [.h s5.1 x3.aB.Bytes.length,.h s5.2 x3.aB.Class.length,.h u.1 x3.aA.Global.length,.h u.2 x3.aA.aR.length]]) Q (bD [31] Q Q (eM aG [5,6] Q<|c0 Q (fun h=>xN (h.a h1) (h.a h2)) fun x4=>c1 Q (fun h=>aDE (h.a h3) (h.a h4)) fun x5 s10=>e7 (s10.1,s10.2) [0,1,7,8,4,6] Q Q)<|e7 (s6,s7) [0,1,2,3,4,6] Q Q) fun x3 ⟨s8,s9⟩=>eA (s5.1,s5.2,s8,s9) [0,1,2,3] Q Q
theorem HU{s:Sub}{b:aI}{w_:Int}{s1 s2 s3 s4 s5 s6 s7:AC}{b0 b1:Nat×Nat}:VS Tryz.prog κ 237 (lQ s b w_) [.p 0 0,.p 1 0,I w_] [b0,b1] [.box 0 [I s.Kind,I s.A,I s.Pc,I s.E,I s.Row,I s.B,I s.H,I s.Out,I s.Code,.b s.cQ],.box 1 [.h s1 b.Mem.aB.Bytes.length,.h s2 b.Mem.aB.Class.length,.h s3 b.Mem.aA.Global.length,.h s4 b.Mem.aA.aR.length,I b.aC.aE,.h s5 b.aC.aN.length,.h s6 b.aJ.length,.h s7 b.cA.length],ow s1 (b.Mem.aB.Bytes:List Int),ow s2 (b.Mem.aB.Class:List Int),ow s3 (b.Mem.aA.Global:List aD),ow s4 (b.Mem.aA.aR:List aD),ow s5 (b.aC.aN:List dS),ow s6 (b.aJ:List aK),ow s7 (b.cA:List Int)] (fun(r:Sub×aI) (y:AC×AC×AC×AC×AC)=>.t []) (fun(r:Sub×aI) (y:AC×AC×AC×AC×AC)=>[.box 0 [I r.1.Kind,I r.1.A,I r.1.Pc,I r.1.E,I r.1.Row,I r.1.B,I r.1.H,I r.1.Out,I r.1.Code,.b r.1.cQ],.box 1 [.h y.1 r.2.Mem.aB.Bytes.length,.h y.2.1 r.2.Mem.aB.Class.length,.h y.2.2.1 r.2.Mem.aA.Global.length,.h y.2.2.2.1 r.2.Mem.aA.aR.length,I r.2.aC.aE,.h s5 r.2.aC.aN.length,.h y.2.2.2.2 r.2.aJ.length,.h s7 r.2.cA.length],ow y.1 r.2.Mem.aB.Bytes,ow y.2.1 r.2.Mem.aB.Class,ow y.2.2.1 r.2.Mem.aA.Global,ow y.2.2.2.1 r.2.Mem.aA.aR,ow s5 r.2.aC.aN,ow y.2.2.2.2 r.2.aJ,ow s7 r.2.cA]):=
 cE tok Tryz.call237 Tryz.func237 Tryz.results237 Q Q<|cW 0 2 (dY s b w_) [0,1,2] 6 [0,2,3,4,5,6,7,8,1] Q (eM aG [0,1] Q<|c0 Q (fun h=>NB (h.o 7 Q)) fun x13=>dR [16,17] Q Q (oB d8 7 Q Q Q fun x14 h7 s11 h8=>fun hF=>gW 2 h8 h7 Q Q Q Q Q<|wi hF<|oB jA 12 Q Q Q fun x15 h9 _ h10=>fun hF=>gW 3 h10 h9 Q Q Q Q Q<|sF Q<|rI jA 13 [] h9 () Q Q Q Q Q Q Q<|rI d8 9 [16] h7 s11 Q Q Q Q Q Q Q<|gP () [0,2,3,4,5,6,17,8,1] hF Q)<|bU [0,2,3,4,5,6,7,8,1] Q Q) fun x1=>bD [41,46] Q Q (OR (s1,s2,s3,s4,s6) [0,8,1,2,3,4,5,6,7] Q Q)<|bD [61,66] Q Q (aC8 0 0 0 10 8 1 0 8 [1,2,3,4,5,6,7] Q Q Q Q Q (fun _=>MI) fun x2 _=>OR (s1,s2,s3,s4,s6) [0,8,9,10,11,12,13,14,15] Q Q)<|cW 0 2 (dC s b w_ x1) [0,1,2,6] 71 [0,1,2,3,4,5,6,7,8] Q (dR [76,77] Q Q (c0 Q (fun _=>eO) fun x12=>dR [82,83,84] Q Q (bU [0,1,2,3,4,5,6,7,8] Q Q)<|bU [0,1,2,3,4,5,6,7,8] Q Q)<|bU [0,1,2,3,4,5,6,7,8] Q Q) fun x3=>bD [71] Q Q (eM aG [0,8] Q<|oB oI 7 Q Q Q fun x4 h1 _ h2=>fun hF=>gW 2 h2 h1 Q Q Q Q Q<|wi hF<|bD [101] Q Q (fun hF=>sR Q<|rI oI 9 [] h1 () Q Q Q Q Q Q Q<|JV (hT:=tok) (s1,s2,s3,s4,s6) [0,8,1,2,3,4,5,6,12] hF Q Tryz.results237 Q Q Q Q)<|bD [124] Q Q (fun hF=>sF Q<|rI oI 9 [] h1 () Q Q Q Q Q Q Q<|JV (hT:=tok) (s1,s2,s3,s4,s6) [0,8,1,2,3,4,5,6,12] hF Q Tryz.results237 Q Q Q Q)<|fun hF=>sF Q<|rI oI 9 [] h1 () Q Q Q Q Q Q Q<|JV (hT:=tok) (s1,s2,s3,s4,s6) [0,8,1,2,3,4,5,6,12] hF Q Tryz.results237 Q Q Q Q)<|cW 0 2 (cK s b w_) [0,1,2] 128 [0,1,2,3,4,5,6,7,8] Q (eM aG [0,8] Q<|dR [133,134] Q Q (dR [6,135,136,137] Q Q (oB d8 6 Q Q Q fun x9 h3 s10 h4=>fun hF=>gW 2 h4 h3 Q Q Q Q Q<|wi hF<|oB jA 12 Q Q Q fun x10 h5 _ h6=>fun hF=>gW 3 h6 h5 Q Q Q Q Q<|wi hF<|c0 Q (fun _=>RQ) fun x11=>fun hF=>sF Q<|rI jA 13 [] h5 () Q Q Q Q Q Q Q<|rI d8 9 [16] h3 s10 Q Q Q Q Q Q Q<|gP () [0,1,2,3,4,5,17,7,8] hF Q)<|bU [0,1,2,3,4,5,6,7,8] Q Q)<|bU [0,1,2,3,4,5,6,7,8] Q Q) fun x5=>bD [128] Q Q (eM aG [0] Q<|c1 Q (fun h=>WI (h.o 6 Q)) fun x6 s8=>eM aG [0] Q<|c1 Q (fun h=>aBG (h.o 1 Q) (h.o 2 Q) (h.o 3 Q) (h.o 4 Q)) fun x7 s9=>OR (s9.1,s9.2.1,s9.2.2.1,s9.2.2.2,s8) [0,8,10,11,12,13,5,9,7] Q Q)<|bP 0 0 0 10 [] Q Q Q Q Q (fun _=>b9) fun x8 _=>OR (s1,s2,s3,s4,s6) [0,8,1,2,3,4,5,6,7] Q Q
theorem PB{c:aC}{w_ e_:Int}{s1:AC}(h1:bE κ s1 c.aN):VS Tryz.prog κ 365 (HF c w_ e_) [.g [I c.aE,.h s1 c.aN.length],I w_,I e_] [] [] (fun r (y:AC)=>.t [.g [I r.1.aE,.h y r.1.aN.length],.b r.2]) (fun r y=>[ow y r.1.aN]):=
 cE tok Tryz.call365 Tryz.func365 Tryz.results365 Q Q<|c1 Q (fun h=>sA (h.a h1)) fun x1 s2=>cW 0 3 (tK w_ e_ x1) [1,2,6,8] 25 [1,2,3] Q (c0 Q (fun h=>m8 (h.a h1)) fun x4=>dR [13,14] Q Q (bU [1,2,3] Q Q)<|c0 Q (fun _=>eO) fun x5=>dR [17,18,19] Q Q (bU [1,2,3] Q Q)<|c0 Q (fun _=>cN) fun x6=>bU [1,2,3] Q Q) fun x2=>bD [25] Q Q (eA s2 [1] Q Q)<|oB BE 1 Q Q Q fun x3 h2 _ h3=>fun hF=>gW 3 h3 h2 Q Q Q Q Q<|sR Q<|yA BE 3 [] [28] (⟨true,e_,false,0⟩:dS) () Q Q Q Q Q Q Q Q<|D7 s2 List.length_set.symm [(33,1)] [(0,1),(2,1)] Q Q Q<|fR Q Q<|JV (hT:=tok) s2 [6] hF Q Tryz.results365 Q Q Q Q
theorem N0{s:Sub}{b:aI}{w_:Int}{s1 s2 s3 s4 s5 s6 s7:AC}{b0 b1:Nat×Nat}:VS Tryz.prog κ 238 (rY s b w_) [.p 0 0,.p 1 0,I w_] [b0,b1] [.box 0 [I s.Kind,I s.A,I s.Pc,I s.E,I s.Row,I s.B,I s.H,I s.Out,I s.Code,.b s.cQ],.box 1 [.h s1 b.Mem.aB.Bytes.length,.h s2 b.Mem.aB.Class.length,.h s3 b.Mem.aA.Global.length,.h s4 b.Mem.aA.aR.length,I b.aC.aE,.h s5 b.aC.aN.length,.h s6 b.aJ.length,.h s7 b.cA.length],ow s1 (b.Mem.aB.Bytes:List Int),ow s2 (b.Mem.aB.Class:List Int),ow s3 (b.Mem.aA.Global:List aD),ow s4 (b.Mem.aA.aR:List aD),ow s5 (b.aC.aN:List dS),ow s6 (b.aJ:List aK),ow s7 (b.cA:List Int)] (fun(r:Sub×aI) (y:AC)=>.t []) (fun(r:Sub×aI) (y:AC)=>[.box 0 [I r.1.Kind,I r.1.A,I r.1.Pc,I r.1.E,I r.1.Row,I r.1.B,I r.1.H,I r.1.Out,I r.1.Code,.b r.1.cQ],.box 1 [.h s1 r.2.Mem.aB.Bytes.length,.h s2 r.2.Mem.aB.Class.length,.h s3 r.2.Mem.aA.Global.length,.h s4 r.2.Mem.aA.aR.length,I r.2.aC.aE,.h y r.2.aC.aN.length,.h s6 r.2.aJ.length,.h s7 r.2.cA.length],ow s1 r.2.Mem.aB.Bytes,ow s2 r.2.Mem.aB.Class,ow s3 r.2.Mem.aA.Global,ow s4 r.2.Mem.aA.aR,ow y r.2.aC.aN,ow s6 r.2.aJ,ow s7 r.2.cA]):=
 cE tok Tryz.call238 Tryz.func238 Tryz.results238 Q Q<|bD [14,15] Q Q (OR s5 [0,1,2,3,4,5,6,7,8] Q Q)<|bD [27,28] Q Q (dL 0 3 (fun(p:Bool×Int×(List dS))=>sO s b p.1 p.2.1 p.2.2) [0,1] (fun(p:Bool×Int×(List dS)) (s8:AC)=>[(6,.p 2 0),(7,.b p.1)]) [0,2,3,4,5,6,7,8,1] (fun p s8=>[ow s8 (p.2.2:List dS),.box 2 [I p.2.1,.h s8 p.2.2.length]]) Q (eM aG [0,1] Q<|fun hF=>bd hF fun x5 hA1 hF=>cT Q Q (have hq1:=rb hA1;wi hq1<|c1 Q (fun h=>PB (h.o 6 Q)) fun u1 s10=>fun hq1=>match u1,hq1 with | _,rfl=>wi hF<|e7 (p:=(x5.2,x5.1.aE,x5.1.aN)) s10 [9,10,0,2,3,4,5,6,7,8,1] Q Q) (have hq2:=rb hA1;wi hq2<|c1 Q (fun h=>PB (h.o 6 Q)) fun u2 s11=>fun hq2=>match u2,hq2 with | _,rfl=>wi hF<|e7 (p:=(x5.2,x5.1.aE,x5.1.aN)) s11 [10,9,0,2,3,4,5,6,7,8,1] Q Q)) fun⟨x1,x2,x3⟩ s8=>bD [43] Q Q (bP 2 0 0 10 [] Q Q Q Q Q (fun _=>b9) fun x4 _=>eA s5 [2,10,3,4,5,6,7,8,9] Q Q)<|OR s8 [2,10,3,4,5,6,0,8,9] Q Q)<|bD [53,54] Q Q (eM aG [0,1] Q<|bD [64] Q Q (bP 0 0 0 10 [] Q Q Q Q Q (fun _=>b9) fun x6 _=>OR s5 [0,1,2,3,4,5,6,7,8] Q Q)<|OR s5 [0,1,2,3,4,5,6,7,8] Q Q)<|bP 0 0 0 10 [] Q Q Q Q Q (fun _=>b9) fun x7 _=>OR s5 [0,1,2,3,4,5,6,7,8] Q Q
theorem IX{s:Sub}{b:aI}{w_:Int}{s1 s2 s3 s4 s5 s6 s7:AC}{b0 b1:Nat×Nat}:VS Tryz.prog κ 130 (jP s b w_) [.p 0 0,.p 1 0,I w_] [b0,b1] [.box 0 [I s.Kind,I s.A,I s.Pc,I s.E,I s.Row,I s.B,I s.H,I s.Out,I s.Code,.b s.cQ],.box 1 [.h s1 b.Mem.aB.Bytes.length,.h s2 b.Mem.aB.Class.length,.h s3 b.Mem.aA.Global.length,.h s4 b.Mem.aA.aR.length,I b.aC.aE,.h s5 b.aC.aN.length,.h s6 b.aJ.length,.h s7 b.cA.length],ow s1 (b.Mem.aB.Bytes:List Int),ow s2 (b.Mem.aB.Class:List Int),ow s3 (b.Mem.aA.Global:List aD),ow s4 (b.Mem.aA.aR:List aD),ow s5 (b.aC.aN:List dS),ow s6 (b.aJ:List aK),ow s7 (b.cA:List Int)] (fun(r:Sub×aI) (y:AC×AC×AC×AC×AC×AC)=>.t []) (fun(r:Sub×aI) (y:AC×AC×AC×AC×AC×AC)=>[.box 0 [I r.1.Kind,I r.1.A,I r.1.Pc,I r.1.E,I r.1.Row,I r.1.B,I r.1.H,I r.1.Out,I r.1.Code,.b r.1.cQ],.box 1 [.h y.1 r.2.Mem.aB.Bytes.length,.h y.2.1 r.2.Mem.aB.Class.length,.h y.2.2.1 r.2.Mem.aA.Global.length,.h y.2.2.2.1 r.2.Mem.aA.aR.length,I r.2.aC.aE,.h y.2.2.2.2.1 r.2.aC.aN.length,.h y.2.2.2.2.2 r.2.aJ.length,.h s7 r.2.cA.length],ow y.1 r.2.Mem.aB.Bytes,ow y.2.1 r.2.Mem.aB.Class,ow y.2.2.1 r.2.Mem.aA.Global,ow y.2.2.2.1 r.2.Mem.aA.aR,ow y.2.2.2.2.1 r.2.aC.aN,ow y.2.2.2.2.2 r.2.aJ,ow s7 r.2.cA]):=
 cE tok Tryz.call130 Tryz.func130 Tryz.results130 Q Q<|bD [9] Q Q (eA (s1,s2,s3,s4,s5,s6) [0,1,2,3,4,5,6,7,8] Q Q)<|bD [16,17] Q Q (aC8 0 0 0 10 1 1 0 8 [2,3,4,5,6,7,8] Q Q Q Q Q (fun _=>KS) fun x1 s8=>OR (s8.1,s8.2.1,s8.2.2.1,s8.2.2.2,s5,s6) [0,1,9,10,11,12,13,14,15] Q Q)<|bD [22,23] Q Q (aC8 0 0 0 10 1 1 0 8 [2,3,4,5,6,7,8] Q Q Q Q Q (fun _=>JD) fun x2 s9=>OR (s1,s2,s3,s4,s5,s9) [0,1,9,10,11,12,13,14,15] Q Q)<|bD [28,29] Q Q (aC8 0 0 0 10 1 1 0 8 [2,3,4,5,6,7,8] Q Q Q Q Q (fun _=>HT) fun x3 s10=>OR (s1,s2,s3,s4,s10,s6) [0,1,9,10,11,12,13,14,15] Q Q)<|bD [33,34] Q Q (aC8 0 0 0 10 1 1 0 8 [2,3,4,5,6,7,8] Q Q Q Q Q (fun _=>HU) fun x4 s11=>OR (s11.1,s11.2.1,s11.2.2.1,s11.2.2.2.1,s5,s11.2.2.2.2) [0,1,9,10,11,12,13,14,15] Q Q)<|bD [39,40] Q Q (aC8 0 0 0 10 1 1 0 8 [2,3,4,5,6,7,8] Q Q Q Q Q (fun _=>N0) fun x5 s12=>OR (s1,s2,s3,s4,s12,s6) [0,1,9,10,11,12,13,14,15] Q Q)<|bP 0 0 0 10 [] Q Q Q Q Q (fun _=>b9) fun x6 _=>OR (s1,s2,s3,s4,s5,s6) [0,1,2,3,4,5,6,7,8] Q Q
theorem AR{p:dS}:V0 Tryz.prog κ 138 (kD p) [.g [.b p.On,I p.aE,.b p.d5,I p.Seen]] .b:=
 cE tok Tryz.call138 Tryz.func138 Tryz.results138 Q Q<|cW 0 1 gU [] 2 [] Q (dR [4,5] Q Q (bU [] Q Q)<|bU [] Q Q) fun x1=>cB Q Q
theorem HV{code:List UInt8}{s1:AC}(h1:bE κ s1 code):V0 Tryz.prog κ 20 (w7 code) [.h s1 code.length] .b:=
 cE tok Tryz.call20 Tryz.func20 Tryz.results20 Q Q<|cB Q Q
theorem HW{code:List UInt8}{s1:AC}(h1:bE κ s1 code):VP Tryz.prog κ 93 (yP code) [.h s1 code.length] (fun r=>[.h s1 code.length,I r.1,I r.2]):=
 cE tok Tryz.call93 Tryz.func93 Tryz.results93 Q Q<|LX () [0] (fun(p:Int×Int) (_:Unit)=>[(3,I p.1),(4,I p.2)]) [] [] (fun p _=>[]) id [0] (fun(x5:Int) (_:Unit)=>[(3,I x5)]) [] (fun x5 _=>[]) Q Q (fun hF1 ⟨x3,x4⟩ _ hr1=>cW 0 0 (zP code x3 x4) [0,3,4] 15 [] Q (dR [11,12] Q Q (bU [] Q Q)<|bU [] Q Q) fun x6=>bD [15] Q Q (E8 cU Q h1 Q fun x7 _ _=>C1 [] Q)<|C3 [] Q) fun x5 _=>rtP [0] Q Q Q Q
theorem tP{c:aL}{s1:AC}{b0:Nat×Nat}(h1:bE κ s1 c.b):VS Tryz.prog κ 208 (nK c) [.p 0 0] [b0] [.box 0 [.h s1 c.b.length,I c.i,I c.h]] (fun(r:Int×(Int×Int)) (y:Unit)=>I r.1) (fun(r:Int×(Int×Int)) (y:Unit)=>[.box 0 [.h s1 c.b.length,I r.2.1,I r.2.2]]):=
 cE tok Tryz.call208 Tryz.func208 Tryz.results208 Q Q<|eM aG [0] Q<|dL 1 1 (fun(p:Int×Int)=>w8 c p.1 p.2) [0] (fun(p:Int×Int) (_:Unit)=>[(3,I p.1)]) [] (fun p _=>[.box 0 [.h s1 c.b.length,I p.2,I (aX ((aX (c.h * 6364136223846793005))+1442695040888963407))]]) Q (eM aG [0] Q<|bD [34] Q Q (eM aG [0] Q<|E8 cU Q h1 Q fun x3 _ _=>bU (p:=(eN .and .i64 (aX ((eN .and .i64 (eN .xor .i64 (pX .i64 (aX ((aX (c.h * 6364136223846793005))+1442695040888963407)) 33) (pX .i64 (aX ((aX (c.h * 6364136223846793005))+1442695040888963407)) 45)) 255)+(x3.toNat:Int))) 255,aX (c.i+1))) [0] Q Q)<|bU (p:=(eN .and .i64 (eN .xor .i64 (pX .i64 (aX ((aX (c.h * 6364136223846793005))+1442695040888963407)) 33) (pX .i64 (aX ((aX (c.h * 6364136223846793005))+1442695040888963407)) 45)) 255,c.i)) [0] Q Q) fun⟨x1,x2⟩ _=>eA () [0] Q Q
theorem aH{c:aL}{n:Int}{s1:AC}{b0:Nat×Nat}(h1:bE κ s1 c.b):VS Tryz.prog κ 117 (aQ c n) [.p 0 0,I n] [b0] [.box 0 [.h s1 c.b.length,I c.i,I c.h]] (fun(r:Int×(Int×Int)) (y:Unit)=>I r.1) (fun(r:Int×(Int×Int)) (y:Unit)=>[.box 0 [.h s1 c.b.length,I r.2.1,I r.2.2]]):=
 cE tok Tryz.call117 Tryz.func117 Tryz.results117 Q Q<|bD [10] Q Q (eA () [0] Q Q)<|bD [12] Q Q (bP 0 0 0 3 [] Q Q Q Q Q (fun h=>tP (h.a h1)) fun x1 _=>fun hF=>aR4 Q Q Q Q hF fun hF=>wi hF<|eA () [0] Q Q)<|bP 0 0 0 3 [] Q Q Q Q Q (fun h=>tP (h.a h1)) fun x2 _=>bP 0 0 0 3 [] Q Q Q Q Q (fun h=>tP (c:=(⟨c.b,x2.2.1,x2.2.2⟩:aL)) (h.a h1)) fun x3 _=>bP 0 0 0 3 [] Q Q Q Q Q (fun h=>tP (c:=(⟨c.b,x3.2.1,x3.2.2⟩:aL)) (h.a h1)) fun x4 _=>bP 0 0 0 3 [] Q Q Q Q Q (fun h=>tP (c:=(⟨c.b,x4.2.1,x4.2.2⟩:aL)) (h.a h1)) fun x5 _=>fun hF=>aR4 Q Q Q Q hF fun hF=>wi hF<|eA () [0] Q Q
theorem cO{c:aL}{list:List Int}{s1:AC}{s2:AC}{b0:Nat×Nat}(h1:bE κ s1 c.b)(h2:bE κ s2 list):VS Tryz.prog κ 106 (dZ c list) [.p 0 0,.h s2 list.length] [b0] [.box 0 [.h s1 c.b.length,I c.i,I c.h]] (fun(r:Int×(Int×Int)) (y:Unit)=>I r.1) (fun(r:Int×(Int×Int)) (y:Unit)=>[.box 0 [.h s1 c.b.length,I r.2.1,I r.2.2]]):=
 cE tok Tryz.call106 Tryz.func106 Tryz.results106 Q Q<|bP 0 0 0 3 [] Q Q Q Q Q (fun h=>aH (h.a h1)) fun x1 _=>MF Q h2 Q fun x2=>eA () [0] Q Q
theorem pG{c:aL}{n:Int}{s1:AC}{b0:Nat×Nat}(h1:bE κ s1 c.b):VS Tryz.prog κ 176 (nL c n) [.p 0 0,I n] [b0] [.box 0 [.h s1 c.b.length,I c.i,I c.h]] (fun(r:Bool×(Int×Int)) (y:Unit)=>.b r.1) (fun(r:Bool×(Int×Int)) (y:Unit)=>[.box 0 [.h s1 c.b.length,I r.2.1,I r.2.2]]):=
 cE tok Tryz.call176 Tryz.func176 Tryz.results176 Q Q<|bP 0 0 0 3 [] Q Q Q Q Q (fun h=>aH (h.a h1)) fun x1 _=>eA () [0] Q Q
theorem KU:VS Tryz.prog κ 405 w9 [] [] [] (fun r (y:AC×AC)=>.g [.h y.1 r.Bytes.length,.h y.2 r.Class.length]) (fun r y=>[ow y.1 r.Bytes,ow y.2 r.Class]):=
 cE tok Tryz.call405 Tryz.func405 Tryz.results405 Q Q<|fun hF=>mks (0:Int) aS (fun w=>aN2 Q w) Q Q Q Q Q Q Q hF fun hF s1=>nw Int Q<|wi hF<|LX ⟨none,0⟩ [0,1] (fun(p:Int×(List Int)) (s3:AC)=>[(2,I p.1)]) [3,2,0,1] [0,1] (fun p s3=>[ow s3 (p.2:List Int),.box 1 [.h s1 (List.replicate ((384:Int).toNat) 0).length,.h s3 p.2.length]]) id [0,1] (fun(x5:(List Int)) (s4:AC)=>[]) [0,1] (fun x5 s4=>[ow s4 (x5:List Int),.box 1 [.h s1 (List.replicate ((384:Int).toNat) 0).length,.h s4 x5.length]]) Q Q (fun hF1 ⟨x3,x4⟩ s3 hr1=>bD [6] Q Q (fun hG1=>ZU Q aS Q Q Q Q fun s5=>ap 0 aS Q Q Q Q Q Q Q (fun h=>(h.o 4 Q)) Q Q hG1 fun hG1 s6=>wi hG1<|RK s6 [0,1,2,3] Q)<|T8 s3 [0,1,2,3] Q) fun x5 s4=>eA (s1,s4) [3,0] Q Q
theorem IY:VS Tryz.prog κ 406 pB [] [] [] (fun r (y:AC×AC)=>.g [.h y.1 r.Global.length,.h y.2 r.aR.length]) (fun r y=>[ow y.1 r.Global,ow y.2 r.aR]):=
 cE tok Tryz.call406 Tryz.func406 Tryz.results406 Q Q<|dL 0 1 (fun(_:Unit)=>rZ) [0] (fun(_:Unit) (u:AC×AC)=>[]) [] (fun _ u=>[ow u.1 (List.replicate ((3:Int).toNat) (⟨[]⟩:aD):List aD),ow u.2 (List.replicate ((9:Int).toNat) (⟨[]⟩:aD):List aD),.box 0 [.h u.1 (List.replicate ((3:Int).toNat) (⟨[]⟩:aD)).length,.h u.2 (List.replicate ((9:Int).toNat) (⟨[]⟩:aD)).length]]) Q (eM aG [] Q<|fun hF=>nd hF fun hA1 hF=>nd hF fun hA2 hF=>cT Q Q (have hq1:=rn hA1;mks ((⟨[]⟩:aD):aD) cR (fun _=>(OC (JY (⟨[]⟩:aD)) (aCH aJR))) Q Q Q Q Q Q Q hq1 fun hq1 s5=>have hq2:=rn hA2;mks ((⟨[]⟩:aD):aD) cR (fun _=>(OC (JY (⟨[]⟩:aD)) (aCH aJR))) Q Q Q Q Q Q Q hq2 fun hq2 s6=>wi hF<|e7 (p:=()) (s5,s6) [1,2,0] Q Q) (have hq3:=rn hA2;mks ((⟨[]⟩:aD):aD) cR (fun _=>(OC (JY (⟨[]⟩:aD)) (aCH aJR))) Q Q Q Q Q Q Q hq3 fun hq3 s7=>have hq4:=rn hA1;mks ((⟨[]⟩:aD):aD) cR (fun _=>(OC (JY (⟨[]⟩:aD)) (aCH aJR))) Q Q Q Q Q Q Q hq4 fun hq4 s8=>wi hF<|e7 (p:=()) (s8,s7) [2,1,0] Q Q)) fun _ ⟨s1,s2⟩=>eA (s1,s2) [0,1] Q Q
theorem NC:VS Tryz.prog κ 320 AN [] [] [] (fun r (y:AC×AC×AC×AC)=>.g [.h y.1 r.aB.Bytes.length,.h y.2.1 r.aB.Class.length,.h y.2.2.1 r.aA.Global.length,.h y.2.2.2 r.aA.aR.length]) (fun r y=>[ow y.1 r.aB.Bytes,ow y.2.1 r.aB.Class,ow y.2.2.1 r.aA.Global,ow y.2.2.2 r.aA.aR]):=
 cE tok Tryz.call320 Tryz.func320 Tryz.results320 Q Q<|c1 Q (fun _=>KU) fun x1 s1=>c1 Q (fun _=>IY) fun x2 s2=>eA (s1.1,s1.2,s2.1,s2.2) [1,2,3,4] Q Q
theorem IZ:VS Tryz.prog κ 321 tL [] [] [] (fun r (y:AC)=>.g [I r.aE,.h y r.aN.length]) (fun r y=>[ow y r.aN]):=
 cE tok Tryz.call321 Tryz.func321 Tryz.results321 Q Q<|fun hF=>mks ((⟨false,0,false,0⟩:dS):dS) AQ (fun w=>aN2 (aQS (⟨false,0,false,0⟩:dS)) w) Q Q Q Q Q Q Q hF fun hF s1=>wi hF<|eA s1 [1] Q Q
theorem I0:VS Tryz.prog κ 322 tM [] [] [] (fun r (y:AC)=>.h y r.length) (fun r y=>[ow y r]):=
 cE tok Tryz.call322 Tryz.func322 Tryz.results322 Q Q<|fun hF=>mks ((⟨[]⟩:aK):aK) q5 (fun _=>(OC (aDB (⟨[]⟩:aK)) (aCH aJR))) Q Q Q Q Q Q Q hF fun hF s1=>wi hF<|eA s1 [0] Q Q
theorem ND:VS Tryz.prog κ 323 AO [] [] [] (fun r (y:AC)=>.h y r.length) (fun r y=>[ow y r]):=
 cE tok Tryz.call323 Tryz.func323 Tryz.results323 Q Q<|fun hF=>mks (0:Int) aS (fun w=>aN2 Q w) Q Q Q Q Q Q Q hF fun hF s1=>wi hF<|eA s1 [0] Q Q
theorem WJ:VS Tryz.prog κ 209 CG [] [] [] (fun r (y:AC×AC×AC×AC×AC×AC×AC)=>.g [.h y.1 r.Mem.aB.Bytes.length,.h y.2.1 r.Mem.aB.Class.length,.h y.2.2.1 r.Mem.aA.Global.length,.h y.2.2.2.1 r.Mem.aA.aR.length,I r.aC.aE,.h y.2.2.2.2.1 r.aC.aN.length,.h y.2.2.2.2.2.1 r.aJ.length,.h y.2.2.2.2.2.2 r.cA.length]) (fun r y=>[ow y.1 r.Mem.aB.Bytes,ow y.2.1 r.Mem.aB.Class,ow y.2.2.1 r.Mem.aA.Global,ow y.2.2.2.1 r.Mem.aA.aR,ow y.2.2.2.2.1 r.aC.aN,ow y.2.2.2.2.2.1 r.aJ,ow y.2.2.2.2.2.2 r.cA]):=
 cE tok Tryz.call209 Tryz.func209 Tryz.results209 Q Q<|c1 Q (fun _=>NC) fun x1 s1=>c1 Q (fun _=>IZ) fun x2 s2=>c1 Q (fun _=>I0) fun x3 s3=>c1 Q (fun _=>ND) fun x4 s4=>eA (s1.1,s1.2.1,s1.2.2.1,s1.2.2.2,s2,s3,s4) [1,2,3,4,5,6,7] Q Q
theorem bV{b:aI}{w_:Int}{s:Sub}{s1 s2 s3 s4 s5 s6 s7:AC}(h1:bE κ s1 b.Mem.aB.Bytes)(h2:bE κ s2 b.Mem.aB.Class)(h3:bE κ s3 b.Mem.aA.Global)(h4:bE κ s4 b.Mem.aA.aR)(h5:bE κ s5 b.aC.aN)(h6:bE κ s6 b.aJ)(h7:bE κ s7 b.cA):VS Tryz.prog κ 342 (lR b w_ s) [.g [.h s1 b.Mem.aB.Bytes.length,.h s2 b.Mem.aB.Class.length,.h s3 b.Mem.aA.Global.length,.h s4 b.Mem.aA.aR.length,I b.aC.aE,.h s5 b.aC.aN.length,.h s6 b.aJ.length,.h s7 b.cA.length],I w_,.g [I s.Kind,I s.A,I s.Pc,I s.E,I s.Row,I s.B,I s.H,I s.Out,I s.Code,.b s.cQ]] [] [] (fun r (y:AC×AC×AC×AC×AC×AC×AC)=>.t [.g [.h y.1 r.1.Mem.aB.Bytes.length,.h y.2.1 r.1.Mem.aB.Class.length,.h y.2.2.1 r.1.Mem.aA.Global.length,.h y.2.2.2.1 r.1.Mem.aA.aR.length,I r.1.aC.aE,.h y.2.2.2.2.1 r.1.aC.aN.length,.h y.2.2.2.2.2.1 r.1.aJ.length,.h y.2.2.2.2.2.2 r.1.cA.length],.g [I r.2.Kind,I r.2.A,I r.2.Pc,I r.2.E,I r.2.Row,I r.2.B,I r.2.H,I r.2.Out,I r.2.Code,.b r.2.cQ]]) (fun r y=>[ow y.1 r.1.Mem.aB.Bytes,ow y.2.1 r.1.Mem.aB.Class,ow y.2.2.1 r.1.Mem.aA.Global,ow y.2.2.2.1 r.1.Mem.aA.aR,ow y.2.2.2.2.1 r.1.aC.aN,ow y.2.2.2.2.2.1 r.1.aJ,ow y.2.2.2.2.2.2 r.1.cA]):=
 cE tok Tryz.call342 Tryz.func342 Tryz.results342 Q Q<|c1 Q (fun h=>KM (h.a h1) (h.a h2) (h.a h3) (h.a h4) (h.a h5) (h.a h6) (h.a h7)) fun x1 s8=>dL 0 5 (fun(p:Bool×aI)=>xA w_ s p.1 p.2) [1,5,6,7,8] (fun(p:Bool×aI) (_:Unit)=>[(19,.b p.1)]) [1,2,3] (fun p _=>[ow s8.1 (p.2.Mem.aB.Bytes:List Int),ow s8.2.1 (p.2.Mem.aB.Class:List Int),ow s8.2.2.1 (p.2.Mem.aA.Global:List aD),ow s8.2.2.2.1 (p.2.Mem.aA.aR:List aD),ow s8.2.2.2.2.1 (p.2.aC.aN:List dS),ow s8.2.2.2.2.2.1 (p.2.aJ:List aK),ow s8.2.2.2.2.2.2 (p.2.cA:List Int),.box 4 [.h s8.1 p.2.Mem.aB.Bytes.length,.h s8.2.1 p.2.Mem.aB.Class.length,.h s8.2.2.1 p.2.Mem.aA.Global.length,.h s8.2.2.2.1 p.2.Mem.aA.aR.length,I p.2.aC.aE,.h s8.2.2.2.2.1 p.2.aC.aN.length,.h s8.2.2.2.2.2.1 p.2.aJ.length,.h s8.2.2.2.2.2.2 p.2.cA.length]]) Q (c0 Q (fun h=>jR (h.a h1) (h.a h2) (h.a h3) (h.a h4) (h.a h5) (h.a h6) (h.a h7)) fun x15=>dR [14,15] Q Q (bU (p:=(true,x1)) [4,5,6,7,8,9,10,11,1,2,3] Q Q)<|c0 Q (fun _=>aY) fun x16=>bU (p:=(!x16,x1)) [4,5,6,7,8,9,10,11,1,2,3] Q Q) fun⟨x2,x3⟩ _=>bD [19] Q Q (eM aG [7,8] Q<|eA (s8.1,s8.2.1,s8.2.2.1,s8.2.2.2.1,s8.2.2.2.2.1,s8.2.2.2.2.2.1,s8.2.2.2.2.2.2) [0,1,2,3,4,5,6] Q Q)<|LX (s8.1,s8.2.1,s8.2.2.1,s8.2.2.2.1,s8.2.2.2.2.1,s8.2.2.2.2.2.1,s8.2.2.2.2.2.2) [1,5,6,7,8] (fun(p:Int×Sub×aI) (u:AC×AC×AC×AC×AC×AC×AC)=>[(9,I p.1)]) [8,0,1,2,3,4,5,6,7,9,10] [9,10] (fun p u=>[.box 1 [I p.2.1.Kind,I p.2.1.A,I p.2.1.Pc,I p.2.1.E,I p.2.1.Row,I p.2.1.B,I p.2.1.H,I p.2.1.Out,I p.2.1.Code,.b p.2.1.cQ],ow u.1 (p.2.2.Mem.aB.Bytes:List Int),ow u.2.1 (p.2.2.Mem.aB.Class:List Int),ow u.2.2.1 (p.2.2.Mem.aA.Global:List aD),ow u.2.2.2.1 (p.2.2.Mem.aA.aR:List aD),ow u.2.2.2.2.1 (p.2.2.aC.aN:List dS),ow u.2.2.2.2.2.1 (p.2.2.aJ:List aK),ow u.2.2.2.2.2.2 (p.2.2.cA:List Int),.box 4 [.h u.1 p.2.2.Mem.aB.Bytes.length,.h u.2.1 p.2.2.Mem.aB.Class.length,.h u.2.2.1 p.2.2.Mem.aA.Global.length,.h u.2.2.2.1 p.2.2.Mem.aA.aR.length,I p.2.2.aC.aE,.h u.2.2.2.2.1 p.2.2.aC.aN.length,.h u.2.2.2.2.2.1 p.2.2.aJ.length,.h u.2.2.2.2.2.2 p.2.2.cA.length]]) id [5,6,7,8] (fun(p:Sub×aI) (u:AC×AC×AC×AC×AC×AC×AC)=>[]) [9,10] (fun p u=>[.box 1 [I p.1.Kind,I p.1.A,I p.1.Pc,I p.1.E,I p.1.Row,I p.1.B,I p.1.H,I p.1.Out,I p.1.Code,.b p.1.cQ],ow u.1 (p.2.Mem.aB.Bytes:List Int),ow u.2.1 (p.2.Mem.aB.Class:List Int),ow u.2.2.1 (p.2.Mem.aA.Global:List aD),ow u.2.2.2.1 (p.2.Mem.aA.aR:List aD),ow u.2.2.2.2.1 (p.2.aC.aN:List dS),ow u.2.2.2.2.2.1 (p.2.aJ:List aK),ow u.2.2.2.2.2.2 (p.2.cA:List Int),.box 4 [.h u.1 p.2.Mem.aB.Bytes.length,.h u.2.1 p.2.Mem.aB.Class.length,.h u.2.2.1 p.2.Mem.aA.Global.length,.h u.2.2.2.1 p.2.Mem.aA.aR.length,I p.2.aC.aE,.h u.2.2.2.2.1 p.2.aC.aN.length,.h u.2.2.2.2.2.1 p.2.aJ.length,.h u.2.2.2.2.2.2 p.2.cA.length]]) Q Q (fun hF2 ⟨x7,x8,x9⟩ ⟨s16,s17,s18,s19,s20,s21,s22⟩ hr2=>dL 0 5 (fun(p:Bool×aI)=>mY w_ x7 x8 p.1 p.2) [1,5,6,7,8,9] (fun(p:Bool×aI) (_:Unit)=>[(28,.b p.1)]) [0,9,10] (fun p _=>[ow s16 (p.2.Mem.aB.Bytes:List Int),ow s17 (p.2.Mem.aB.Class:List Int),ow s18 (p.2.Mem.aA.Global:List aD),ow s19 (p.2.Mem.aA.aR:List aD),ow s20 (p.2.aC.aN:List dS),ow s21 (p.2.aJ:List aK),ow s22 (p.2.cA:List Int),.box 4 [.h s16 p.2.Mem.aB.Bytes.length,.h s17 p.2.Mem.aB.Class.length,.h s18 p.2.Mem.aA.Global.length,.h s19 p.2.Mem.aA.aR.length,I p.2.aC.aE,.h s20 p.2.aC.aN.length,.h s21 p.2.aJ.length,.h s22 p.2.cA.length]]) Q (dR [23,24] Q Q (bU (p:=(!x8.cQ,x9)) [1,2,3,4,5,6,7,8,0,9,10] Q Q)<|bU (p:=(false,x9)) [1,2,3,4,5,6,7,8,0,9,10] Q Q) fun⟨x12,x13⟩ _=>bD [28] Q Q (pW [0,1,2,3,4,5,6] Q Q Q Q (fun _=>O6) fun x14 s30=>RK (s30.1,s30.2.1,s30.2.2.1,s30.2.2.2.1,s30.2.2.2.2.1,s30.2.2.2.2.2.1,s30.2.2.2.2.2.2) [8,11,12,13,14,15,16,17,7,9,10] Q)<|T8 (s16,s17,s18,s19,s20,s21,s22) [8,0,1,2,3,4,5,6,7,9,10] Q) fun⟨x10,x11⟩ ⟨s23,s24,s25,s26,s27,s28,s29⟩=>eM aG [0,8] Q<|eA (s23,s24,s25,s26,s27,s28,s29) [1,2,3,4,5,6,7] Q Q
theorem WK{c:aL}{most:Int}{s1:AC}{b0:Nat×Nat}(h1:bE κ s1 c.b):VS Tryz.prog κ 226 (CH c most) [.p 0 0,I most] [b0] [.box 0 [.h s1 c.b.length,I c.i,I c.h]] (fun(r:aI×Int×(Int×Int)) (y:AC×AC×AC×AC×AC×AC×AC)=>.t [.g [.h y.1 r.1.Mem.aB.Bytes.length,.h y.2.1 r.1.Mem.aB.Class.length,.h y.2.2.1 r.1.Mem.aA.Global.length,.h y.2.2.2.1 r.1.Mem.aA.aR.length,I r.1.aC.aE,.h y.2.2.2.2.1 r.1.aC.aN.length,.h y.2.2.2.2.2.1 r.1.aJ.length,.h y.2.2.2.2.2.2 r.1.cA.length],I r.2.1]) (fun(r:aI×Int×(Int×Int)) (y:AC×AC×AC×AC×AC×AC×AC)=>[.box 0 [.h s1 c.b.length,I r.2.2.1,I r.2.2.2],ow y.1 r.1.Mem.aB.Bytes,ow y.2.1 r.1.Mem.aB.Class,ow y.2.2.1 r.1.Mem.aA.Global,ow y.2.2.2.1 r.1.Mem.aA.aR,ow y.2.2.2.2.1 r.1.aC.aN,ow y.2.2.2.2.2.1 r.1.aJ,ow y.2.2.2.2.2.2 r.1.cA]):=
 cE tok Tryz.call226 Tryz.func226 Tryz.results226 Q Q<|c1 Q (fun _=>WJ) fun x1 s2=>fun hF=>ZU Q aS Q Q Q Q fun s3=>wi hF<|bP 0 0 0 3 [] Q Q Q Q Q (fun h=>aH (h.a h1)) fun x2 _=>LX (s3,s2.1,s2.2.1,s2.2.2.1,s2.2.2.2.1,s2.2.2.2.2.1,s2.2.2.2.2.2.1,s2.2.2.2.2.2.2) [0,4,6] (fun(p:(List Int)×Int×Int×Int×aI) (u:AC×AC×AC×AC×AC×AC×AC×AC)=>[(7,.h u.1 p.1.length),(8,I p.2.1)]) [10,0,2,3,4,5,6,7,8,9,1] [1] (fun p u=>[ow u.1 (p.1:List Int),.box 0 [.h s1 c.b.length,I p.2.2.1,I p.2.2.2.1],ow u.2.1 (p.2.2.2.2.Mem.aB.Bytes:List Int),ow u.2.2.1 (p.2.2.2.2.Mem.aB.Class:List Int),ow u.2.2.2.1 (p.2.2.2.2.Mem.aA.Global:List aD),ow u.2.2.2.2.1 (p.2.2.2.2.Mem.aA.aR:List aD),ow u.2.2.2.2.2.1 (p.2.2.2.2.aC.aN:List dS),ow u.2.2.2.2.2.2.1 (p.2.2.2.2.aJ:List aK),ow u.2.2.2.2.2.2.2 (p.2.2.2.2.cA:List Int),.box 2 [.h u.2.1 p.2.2.2.2.Mem.aB.Bytes.length,.h u.2.2.1 p.2.2.2.2.Mem.aB.Class.length,.h u.2.2.2.1 p.2.2.2.2.Mem.aA.Global.length,.h u.2.2.2.2.1 p.2.2.2.2.Mem.aA.aR.length,I p.2.2.2.2.aC.aE,.h u.2.2.2.2.2.1 p.2.2.2.2.aC.aN.length,.h u.2.2.2.2.2.2.1 p.2.2.2.2.aJ.length,.h u.2.2.2.2.2.2.2 p.2.2.2.2.cA.length]]) id [0,4,6] (fun(p:(List Int)×Int×Int×aI) (u:AC×AC×AC×AC×AC×AC×AC×AC)=>[(7,.h u.1 p.1.length)]) [1] (fun p u=>[ow u.1 (p.1:List Int),.box 0 [.h s1 c.b.length,I p.2.1,I p.2.2.1],ow u.2.1 (p.2.2.2.Mem.aB.Bytes:List Int),ow u.2.2.1 (p.2.2.2.Mem.aB.Class:List Int),ow u.2.2.2.1 (p.2.2.2.Mem.aA.Global:List aD),ow u.2.2.2.2.1 (p.2.2.2.Mem.aA.aR:List aD),ow u.2.2.2.2.2.1 (p.2.2.2.aC.aN:List dS),ow u.2.2.2.2.2.2.1 (p.2.2.2.aJ:List aK),ow u.2.2.2.2.2.2.2 (p.2.2.2.cA:List Int),.box 2 [.h u.2.1 p.2.2.2.Mem.aB.Bytes.length,.h u.2.2.1 p.2.2.2.Mem.aB.Class.length,.h u.2.2.2.1 p.2.2.2.Mem.aA.Global.length,.h u.2.2.2.2.1 p.2.2.2.Mem.aA.aR.length,I p.2.2.2.aC.aE,.h u.2.2.2.2.2.1 p.2.2.2.aC.aN.length,.h u.2.2.2.2.2.2.1 p.2.2.2.aJ.length,.h u.2.2.2.2.2.2.2 p.2.2.2.cA.length]]) Q Q (fun hF1 ⟨x8,x9,x10,x11,x12⟩ ⟨s12,s13,s14,s15,s16,s17,s18,s19⟩ hr1=>bD [21] Q Q (dL 2 3 (fun(p:(List Int)×Int×Int×aI)=>dN x9 p.1 p.2.1 p.2.2.1 p.2.2.2) [0,4,6,8] (fun(p:(List Int)×Int×Int×aI) (u:AC×AC×AC×AC×AC×AC×AC×AC)=>[(7,.h u.1 p.1.length)]) [10] (fun p u=>[ow u.1 (p.1:List Int),.box 0 [.h s1 c.b.length,I p.2.1,I p.2.2.1],ow u.2.1 (p.2.2.2.Mem.aB.Bytes:List Int),ow u.2.2.1 (p.2.2.2.Mem.aB.Class:List Int),ow u.2.2.2.1 (p.2.2.2.Mem.aA.Global:List aD),ow u.2.2.2.2.1 (p.2.2.2.Mem.aA.aR:List aD),ow u.2.2.2.2.2.1 (p.2.2.2.aC.aN:List dS),ow u.2.2.2.2.2.2.1 (p.2.2.2.aJ:List aK),ow u.2.2.2.2.2.2.2 (p.2.2.2.cA:List Int),.box 2 [.h u.2.1 p.2.2.2.Mem.aB.Bytes.length,.h u.2.2.1 p.2.2.2.Mem.aB.Class.length,.h u.2.2.2.1 p.2.2.2.Mem.aA.Global.length,.h u.2.2.2.2.1 p.2.2.2.Mem.aA.aR.length,I p.2.2.2.aC.aE,.h u.2.2.2.2.2.1 p.2.2.2.aC.aN.length,.h u.2.2.2.2.2.2.1 p.2.2.2.aJ.length,.h u.2.2.2.2.2.2.2 p.2.2.2.cA.length]]) Q (bP 1 0 0 3 [] Q Q Q Q Q (fun h=>aH (c:=(⟨c.b,x10,x11⟩:aL)) (h.a h1)) fun x27 _=>bP 1 0 0 3 [] Q Q Q Q Q (fun h=>aH (c:=(⟨c.b,x27.2.1,x27.2.2⟩:aL)) (h.a h1)) fun x28 _=>oB oI 0 Q Q Q fun x29 h4 _ h5=>fun hG1=>gW 3 h5 h4 Q Q Q Q Q<|wi hG1<|bP 1 0 0 3 [] Q Q Q Q Q (fun h=>aH (c:=(⟨c.b,x28.2.1,x28.2.2⟩:aL)) (h.a h1)) fun x30 _=>dL 0 4 (fun(p:Bool×aI)=>i6 c x8 x9 x27 x29 x30 p.1 p.2) [0,4,6,7,8,9,10,34] (fun(p:Bool×aI) (_:Unit)=>[(54,.b p.1)]) [1,10] (fun p _=>[ow s12 (x8:List Int),ow s13 (p.2.Mem.aB.Bytes:List Int),ow s14 (p.2.Mem.aB.Class:List Int),ow s15 (p.2.Mem.aA.Global:List aD),ow s16 (p.2.Mem.aA.aR:List aD),ow s17 (p.2.aC.aN:List dS),ow s18 (p.2.aJ:List aK),ow s19 (p.2.cA:List Int),.box 2 [.h s13 p.2.Mem.aB.Bytes.length,.h s14 p.2.Mem.aB.Class.length,.h s15 p.2.Mem.aA.Global.length,.h s16 p.2.Mem.aA.aR.length,I p.2.aC.aE,.h s17 p.2.aC.aN.length,.h s18 p.2.aJ.length,.h s19 p.2.cA.length]]) Q (bD [54,55] Q Q (fun hG1=>sF Q<|rI oI 11 [] h4 () Q Q Q Q Q Q Q<|gP (p:=(true,x12)) () [14,2,3,4,5,6,7,8,9,1,10] hG1 Q)<|bD [54,56] Q Q (fun hG1=>sF Q<|rI oI 11 [] h4 () Q Q Q Q Q Q Q<|gP (p:=(true,x12)) () [14,2,3,4,5,6,7,8,9,1,10] hG1 Q)<|bD [54,57] Q Q (fun hG1=>sF Q<|rI oI 11 [] h4 () Q Q Q Q Q Q Q<|gP (p:=(true,x12)) () [14,2,3,4,5,6,7,8,9,1,10] hG1 Q)<|fun hG1=>sF Q<|rI oI 11 [] h4 () Q Q Q Q Q Q Q<|gP (p:=(x30.1 == 3,x12)) () [14,2,3,4,5,6,7,8,9,1,10] hG1 Q) fun⟨x31,x32⟩ _=>bD [54] Q Q (dL 0 6 (fun(p:Int×Int×aI×aI×Sub)=>A9 c x8 x9 p.1 p.2.1 p.2.2.1 p.2.2.2.1 p.2.2.2.2) [0,4,6,7,8] (fun(p:Int×Int×aI×aI×Sub) (u:AC×AC×AC×AC×AC×AC×AC)=>[(11,.p 4 0),(12,.p 5 0)]) [0,10] (fun p u=>[.box 0 [.h s1 c.b.length,I p.1,I p.2.1],ow s13 (p.2.2.1.Mem.aB.Bytes:List Int),ow s14 (p.2.2.1.Mem.aB.Class:List Int),ow s15 (p.2.2.1.Mem.aA.Global:List aD),ow s16 (p.2.2.1.Mem.aA.aR:List aD),ow s17 (p.2.2.1.aC.aN:List dS),ow s18 (p.2.2.1.aJ:List aK),ow s19 (p.2.2.1.cA:List Int),.box 2 [.h s13 p.2.2.1.Mem.aB.Bytes.length,.h s14 p.2.2.1.Mem.aB.Class.length,.h s15 p.2.2.1.Mem.aA.Global.length,.h s16 p.2.2.1.Mem.aA.aR.length,I p.2.2.1.aC.aE,.h s17 p.2.2.1.aC.aN.length,.h s18 p.2.2.1.aJ.length,.h s19 p.2.2.1.cA.length],ow u.1 (p.2.2.2.1.Mem.aB.Bytes:List Int),ow u.2.1 (p.2.2.2.1.Mem.aB.Class:List Int),ow u.2.2.1 (p.2.2.2.1.Mem.aA.Global:List aD),ow u.2.2.2.1 (p.2.2.2.1.Mem.aA.aR:List aD),ow u.2.2.2.2.1 (p.2.2.2.1.aC.aN:List dS),ow u.2.2.2.2.2.1 (p.2.2.2.1.aJ:List aK),ow u.2.2.2.2.2.2 (p.2.2.2.1.cA:List Int),.box 4 [.h u.1 p.2.2.2.1.Mem.aB.Bytes.length,.h u.2.1 p.2.2.2.1.Mem.aB.Class.length,.h u.2.2.1 p.2.2.2.1.Mem.aA.Global.length,.h u.2.2.2.1 p.2.2.2.1.Mem.aA.aR.length,I p.2.2.2.1.aC.aE,.h u.2.2.2.2.1 p.2.2.2.1.aC.aN.length,.h u.2.2.2.2.2.1 p.2.2.2.1.aJ.length,.h u.2.2.2.2.2.2 p.2.2.2.1.cA.length],.box 5 [I p.2.2.2.2.Kind,I p.2.2.2.2.A,I p.2.2.2.2.Pc,I p.2.2.2.2.E,I p.2.2.2.2.Row,I p.2.2.2.2.B,I p.2.2.2.2.H,I p.2.2.2.2.Out,I p.2.2.2.2.Code,.b p.2.2.2.2.cQ]]) Q (eM aG [8,10] Q<|fun hG1=>bd hG1 fun x44 hA3 hG1=>bd hG1 fun x45 hA4 hG1=>bd hG1 fun x46 hA5 hG1=>X0 Q Q (have hq6:=rb hA3;wi hq6<|bP 9 0 0 3 [] Q Q Q Q Q (fun h=>aH (c:=(⟨c.b,x30.2.1,x30.2.2⟩:aL)) (h.a h1)) fun u6 _=>fun hq6=>match u6,hq6 with | _,rfl=>X0 Q Q (have hq7:=rb hA4;wi hq7<|c0 Q (fun _=>cL) fun u7=>fun hq7=>match u7,hq7 with | _,rfl=>X0 Q Q (have hq8:=rb hA5;wi hq8<|c1 Q (fun h=>bV (h.o 1 Q) (h.o 2 Q) (h.o 3 Q) (h.o 4 Q) (h.o 5 Q) (h.o 6 Q) (h.o 7 Q)) fun u8 s54=>fun hq8=>match u8,hq8 with | _,rfl=>cT Q Q (wi hG1<|e7 (p:=(x44.2.1,x44.2.2,x32,x46.1,x46.2)) (s54.1,s54.2.1,s54.2.2.1,s54.2.2.2.1,s54.2.2.2.2.1,s54.2.2.2.2.2.1,s54.2.2.2.2.2.2) [9,1,2,3,4,5,6,7,8,11,12,13,14,15,16,17,18,19,0,10] Q Q) (sF Q<|N8 5 4 Q<|fD Q Q<|gP (p:=(x44.2.1,x44.2.2,x32,x46.1,x46.2)) (s54.1,s54.2.1,s54.2.2.1,s54.2.2.2.1,s54.2.2.2.2.1,s54.2.2.2.2.2.1,s54.2.2.2.2.2.2) [9,1,2,3,4,5,6,7,8,11,12,13,14,15,16,17,19,18,0,10] hG1 Q)) (cT Q Q (have hq9:=rb hA5;wi hq9<|c1 Q (fun h=>bV (h.o 1 Q) (h.o 2 Q) (h.o 3 Q) (h.o 4 Q) (h.o 5 Q) (h.o 6 Q) (h.o 7 Q)) fun u9 s55=>fun hq9=>match u9,hq9 with | _,rfl=>wi hG1<|e7 (p:=(x44.2.1,x44.2.2,x32,x46.1,x46.2)) (s55.1,s55.2.1,s55.2.2.1,s55.2.2.2.1,s55.2.2.2.2.1,s55.2.2.2.2.2.1,s55.2.2.2.2.2.2) [9,1,2,3,4,5,6,7,8,12,13,14,15,16,17,18,11,19,0,10] Q Q) (have hq10:=rb hA5;wi hq10<|c1 Q (fun h=>bV (h.o 1 Q) (h.o 2 Q) (h.o 3 Q) (h.o 4 Q) (h.o 5 Q) (h.o 6 Q) (h.o 7 Q)) fun u10 s56=>fun hq10=>match u10,hq10 with | _,rfl=>wi hG1<|e7 (p:=(x44.2.1,x44.2.2,x32,x46.1,x46.2)) (s56.1,s56.2.1,s56.2.2.1,s56.2.2.2.1,s56.2.2.2.2.1,s56.2.2.2.2.2.1,s56.2.2.2.2.2.2) [9,1,2,3,4,5,6,7,8,13,14,15,16,17,18,19,11,12,0,10] Q Q)) (cT Q Q (have hq11:=rb hA5;wi hq11<|c1 Q (fun h=>bV (h.o 1 Q) (h.o 2 Q) (h.o 3 Q) (h.o 4 Q) (h.o 5 Q) (h.o 6 Q) (h.o 7 Q)) fun u11 s57=>fun hq11=>match u11,hq11 with | _,rfl=>sF Q<|N8 5 4 Q<|fD Q Q<|gP (p:=(x44.2.1,x44.2.2,x32,x46.1,x46.2)) (s57.1,s57.2.1,s57.2.2.1,s57.2.2.2.1,s57.2.2.2.2.1,s57.2.2.2.2.2.1,s57.2.2.2.2.2.2) [9,1,2,3,4,5,6,7,8,12,13,14,15,16,17,18,19,11,0,10] hG1 Q) (have hq12:=rb hA5;wi hq12<|c1 Q (fun h=>bV (h.o 1 Q) (h.o 2 Q) (h.o 3 Q) (h.o 4 Q) (h.o 5 Q) (h.o 6 Q) (h.o 7 Q)) fun u12 s58=>fun hq12=>match u12,hq12 with | _,rfl=>sF Q<|N8 5 4 Q<|fD Q Q<|gP (p:=(x44.2.1,x44.2.2,x32,x46.1,x46.2)) (s58.1,s58.2.1,s58.2.2.1,s58.2.2.2.1,s58.2.2.2.2.1,s58.2.2.2.2.2.1,s58.2.2.2.2.2.2) [9,1,2,3,4,5,6,7,8,13,14,15,16,17,18,19,12,11,0,10] hG1 Q))) (cT Q Q (have hq13:=rb hA4;wi hq13<|c0 Q (fun _=>cL) fun u13=>fun hq13=>match u13,hq13 with | _,rfl=>cT Q Q (have hq14:=rb hA5;wi hq14<|c1 Q (fun h=>bV (h.o 1 Q) (h.o 2 Q) (h.o 3 Q) (h.o 4 Q) (h.o 5 Q) (h.o 6 Q) (h.o 7 Q)) fun u14 s59=>fun hq14=>match u14,hq14 with | _,rfl=>wi hG1<|e7 (p:=(x44.2.1,x44.2.2,x32,x46.1,x46.2)) (s59.1,s59.2.1,s59.2.2.1,s59.2.2.2.1,s59.2.2.2.2.1,s59.2.2.2.2.2.1,s59.2.2.2.2.2.2) [9,1,2,3,4,5,6,7,8,12,13,14,15,16,17,18,11,19,0,10] Q Q) (have hq15:=rb hA5;wi hq15<|c1 Q (fun h=>bV (h.o 1 Q) (h.o 2 Q) (h.o 3 Q) (h.o 4 Q) (h.o 5 Q) (h.o 6 Q) (h.o 7 Q)) fun u15 s60=>fun hq15=>match u15,hq15 with | _,rfl=>wi hG1<|e7 (p:=(x44.2.1,x44.2.2,x32,x46.1,x46.2)) (s60.1,s60.2.1,s60.2.2.1,s60.2.2.2.1,s60.2.2.2.2.1,s60.2.2.2.2.2.1,s60.2.2.2.2.2.2) [9,1,2,3,4,5,6,7,8,13,14,15,16,17,18,19,11,12,0,10] Q Q)) (have hq16:=rb hA4;wi hq16<|c0 Q (fun _=>cL) fun u16=>fun hq16=>match u16,hq16 with | _,rfl=>have hq17:=rb hA5;wi hq17<|c1 Q (fun h=>bV (h.o 1 Q) (h.o 2 Q) (h.o 3 Q) (h.o 4 Q) (h.o 5 Q) (h.o 6 Q) (h.o 7 Q)) fun u17 s61=>fun hq17=>match u17,hq17 with | _,rfl=>wi hG1<|e7 (p:=(x44.2.1,x44.2.2,x32,x46.1,x46.2)) (s61.1,s61.2.1,s61.2.2.1,s61.2.2.2.1,s61.2.2.2.2.1,s61.2.2.2.2.2.1,s61.2.2.2.2.2.2) [9,1,2,3,4,5,6,7,8,13,14,15,16,17,18,19,11,12,0,10] Q Q)) (cT Q Q (have hq18:=rb hA4;wi hq18<|c0 Q (fun _=>cL) fun u18=>fun hq18=>match u18,hq18 with | _,rfl=>cT Q Q (have hq19:=rb hA5;wi hq19<|c1 Q (fun h=>bV (h.o 1 Q) (h.o 2 Q) (h.o 3 Q) (h.o 4 Q) (h.o 5 Q) (h.o 6 Q) (h.o 7 Q)) fun u19 s62=>fun hq19=>match u19,hq19 with | _,rfl=>sF Q<|N8 5 4 Q<|fD Q Q<|gP (p:=(x44.2.1,x44.2.2,x32,x46.1,x46.2)) (s62.1,s62.2.1,s62.2.2.1,s62.2.2.2.1,s62.2.2.2.2.1,s62.2.2.2.2.2.1,s62.2.2.2.2.2.2) [9,1,2,3,4,5,6,7,8,12,13,14,15,16,17,18,19,11,0,10] hG1 Q) (have hq20:=rb hA5;wi hq20<|c1 Q (fun h=>bV (h.o 1 Q) (h.o 2 Q) (h.o 3 Q) (h.o 4 Q) (h.o 5 Q) (h.o 6 Q) (h.o 7 Q)) fun u20 s63=>fun hq20=>match u20,hq20 with | _,rfl=>sF Q<|N8 5 4 Q<|fD Q Q<|gP (p:=(x44.2.1,x44.2.2,x32,x46.1,x46.2)) (s63.1,s63.2.1,s63.2.2.1,s63.2.2.2.1,s63.2.2.2.2.1,s63.2.2.2.2.2.1,s63.2.2.2.2.2.2) [9,1,2,3,4,5,6,7,8,13,14,15,16,17,18,19,12,11,0,10] hG1 Q)) (have hq21:=rb hA4;wi hq21<|c0 Q (fun _=>cL) fun u21=>fun hq21=>match u21,hq21 with | _,rfl=>have hq22:=rb hA5;wi hq22<|c1 Q (fun h=>bV (h.o 1 Q) (h.o 2 Q) (h.o 3 Q) (h.o 4 Q) (h.o 5 Q) (h.o 6 Q) (h.o 7 Q)) fun u22 s64=>fun hq22=>match u22,hq22 with | _,rfl=>sF Q<|N8 5 4 Q<|fD Q Q<|gP (p:=(x44.2.1,x44.2.2,x32,x46.1,x46.2)) (s64.1,s64.2.1,s64.2.2.1,s64.2.2.2.1,s64.2.2.2.2.1,s64.2.2.2.2.2.1,s64.2.2.2.2.2.2) [9,1,2,3,4,5,6,7,8,13,14,15,16,17,18,19,12,11,0,10] hG1 Q))) (cT Q Q (have hq23:=rb hA3;wi hq23<|bP 9 0 0 3 [] Q Q Q Q Q (fun h=>aH (c:=(⟨c.b,x30.2.1,x30.2.2⟩:aL)) (h.a h1)) fun u23 _=>fun hq23=>match u23,hq23 with | _,rfl=>cT Q Q (have hq24:=rb hA4;wi hq24<|c0 Q (fun _=>cL) fun u24=>fun hq24=>match u24,hq24 with | _,rfl=>cT Q Q (have hq25:=rb hA5;wi hq25<|c1 Q (fun h=>bV (h.o 1 Q) (h.o 2 Q) (h.o 3 Q) (h.o 4 Q) (h.o 5 Q) (h.o 6 Q) (h.o 7 Q)) fun u25 s65=>fun hq25=>match u25,hq25 with | _,rfl=>wi hG1<|e7 (p:=(x44.2.1,x44.2.2,x32,x46.1,x46.2)) (s65.1,s65.2.1,s65.2.2.1,s65.2.2.2.1,s65.2.2.2.2.1,s65.2.2.2.2.2.1,s65.2.2.2.2.2.2) [9,1,2,3,4,5,6,7,8,12,13,14,15,16,17,18,11,19,0,10] Q Q) (have hq26:=rb hA5;wi hq26<|c1 Q (fun h=>bV (h.o 1 Q) (h.o 2 Q) (h.o 3 Q) (h.o 4 Q) (h.o 5 Q) (h.o 6 Q) (h.o 7 Q)) fun u26 s66=>fun hq26=>match u26,hq26 with | _,rfl=>wi hG1<|e7 (p:=(x44.2.1,x44.2.2,x32,x46.1,x46.2)) (s66.1,s66.2.1,s66.2.2.1,s66.2.2.2.1,s66.2.2.2.2.1,s66.2.2.2.2.2.1,s66.2.2.2.2.2.2) [9,1,2,3,4,5,6,7,8,13,14,15,16,17,18,19,11,12,0,10] Q Q)) (have hq27:=rb hA4;wi hq27<|c0 Q (fun _=>cL) fun u27=>fun hq27=>match u27,hq27 with | _,rfl=>have hq28:=rb hA5;wi hq28<|c1 Q (fun h=>bV (h.o 1 Q) (h.o 2 Q) (h.o 3 Q) (h.o 4 Q) (h.o 5 Q) (h.o 6 Q) (h.o 7 Q)) fun u28 s67=>fun hq28=>match u28,hq28 with | _,rfl=>wi hG1<|e7 (p:=(x44.2.1,x44.2.2,x32,x46.1,x46.2)) (s67.1,s67.2.1,s67.2.2.1,s67.2.2.2.1,s67.2.2.2.2.1,s67.2.2.2.2.2.1,s67.2.2.2.2.2.2) [9,1,2,3,4,5,6,7,8,13,14,15,16,17,18,19,11,12,0,10] Q Q)) (have hq29:=rb hA3;wi hq29<|bP 9 0 0 3 [] Q Q Q Q Q (fun h=>aH (c:=(⟨c.b,x30.2.1,x30.2.2⟩:aL)) (h.a h1)) fun u29 _=>fun hq29=>match u29,hq29 with | _,rfl=>have hq30:=rb hA4;wi hq30<|c0 Q (fun _=>cL) fun u30=>fun hq30=>match u30,hq30 with | _,rfl=>have hq31:=rb hA5;wi hq31<|c1 Q (fun h=>bV (h.o 1 Q) (h.o 2 Q) (h.o 3 Q) (h.o 4 Q) (h.o 5 Q) (h.o 6 Q) (h.o 7 Q)) fun u31 s68=>fun hq31=>match u31,hq31 with | _,rfl=>wi hG1<|e7 (p:=(x44.2.1,x44.2.2,x32,x46.1,x46.2)) (s68.1,s68.2.1,s68.2.2.1,s68.2.2.2.1,s68.2.2.2.2.1,s68.2.2.2.2.2.1,s68.2.2.2.2.2.2) [9,1,2,3,4,5,6,7,8,13,14,15,16,17,18,19,11,12,0,10] Q Q)) (cT Q Q (have hq32:=rb hA3;wi hq32<|bP 9 0 0 3 [] Q Q Q Q Q (fun h=>aH (c:=(⟨c.b,x30.2.1,x30.2.2⟩:aL)) (h.a h1)) fun u32 _=>fun hq32=>match u32,hq32 with | _,rfl=>cT Q Q (have hq33:=rb hA4;wi hq33<|c0 Q (fun _=>cL) fun u33=>fun hq33=>match u33,hq33 with | _,rfl=>cT Q Q (have hq34:=rb hA5;wi hq34<|c1 Q (fun h=>bV (h.o 1 Q) (h.o 2 Q) (h.o 3 Q) (h.o 4 Q) (h.o 5 Q) (h.o 6 Q) (h.o 7 Q)) fun u34 s69=>fun hq34=>match u34,hq34 with | _,rfl=>sF Q<|N8 5 4 Q<|fD Q Q<|gP (p:=(x44.2.1,x44.2.2,x32,x46.1,x46.2)) (s69.1,s69.2.1,s69.2.2.1,s69.2.2.2.1,s69.2.2.2.2.1,s69.2.2.2.2.2.1,s69.2.2.2.2.2.2) [9,1,2,3,4,5,6,7,8,12,13,14,15,16,17,18,19,11,0,10] hG1 Q) (have hq35:=rb hA5;wi hq35<|c1 Q (fun h=>bV (h.o 1 Q) (h.o 2 Q) (h.o 3 Q) (h.o 4 Q) (h.o 5 Q) (h.o 6 Q) (h.o 7 Q)) fun u35 s70=>fun hq35=>match u35,hq35 with | _,rfl=>sF Q<|N8 5 4 Q<|fD Q Q<|gP (p:=(x44.2.1,x44.2.2,x32,x46.1,x46.2)) (s70.1,s70.2.1,s70.2.2.1,s70.2.2.2.1,s70.2.2.2.2.1,s70.2.2.2.2.2.1,s70.2.2.2.2.2.2) [9,1,2,3,4,5,6,7,8,13,14,15,16,17,18,19,12,11,0,10] hG1 Q)) (have hq36:=rb hA4;wi hq36<|c0 Q (fun _=>cL) fun u36=>fun hq36=>match u36,hq36 with | _,rfl=>have hq37:=rb hA5;wi hq37<|c1 Q (fun h=>bV (h.o 1 Q) (h.o 2 Q) (h.o 3 Q) (h.o 4 Q) (h.o 5 Q) (h.o 6 Q) (h.o 7 Q)) fun u37 s71=>fun hq37=>match u37,hq37 with | _,rfl=>sF Q<|N8 5 4 Q<|fD Q Q<|gP (p:=(x44.2.1,x44.2.2,x32,x46.1,x46.2)) (s71.1,s71.2.1,s71.2.2.1,s71.2.2.2.1,s71.2.2.2.2.1,s71.2.2.2.2.2.1,s71.2.2.2.2.2.2) [9,1,2,3,4,5,6,7,8,13,14,15,16,17,18,19,12,11,0,10] hG1 Q)) (have hq38:=rb hA3;wi hq38<|bP 9 0 0 3 [] Q Q Q Q Q (fun h=>aH (c:=(⟨c.b,x30.2.1,x30.2.2⟩:aL)) (h.a h1)) fun u38 _=>fun hq38=>match u38,hq38 with | _,rfl=>have hq39:=rb hA4;wi hq39<|c0 Q (fun _=>cL) fun u39=>fun hq39=>match u39,hq39 with | _,rfl=>have hq40:=rb hA5;wi hq40<|c1 Q (fun h=>bV (h.o 1 Q) (h.o 2 Q) (h.o 3 Q) (h.o 4 Q) (h.o 5 Q) (h.o 6 Q) (h.o 7 Q)) fun u40 s72=>fun hq40=>match u40,hq40 with | _,rfl=>sF Q<|N8 5 4 Q<|fD Q Q<|gP (p:=(x44.2.1,x44.2.2,x32,x46.1,x46.2)) (s72.1,s72.2.1,s72.2.2.1,s72.2.2.2.1,s72.2.2.2.2.1,s72.2.2.2.2.2.1,s72.2.2.2.2.2.2) [9,1,2,3,4,5,6,7,8,13,14,15,16,17,18,19,12,11,0,10] hG1 Q))) fun⟨x33,x34,x35,x36,x37⟩ ⟨s36,s37,s38,s39,s40,s41,s42⟩=>bD [72] Q Q (fun hG1=>ZU Q aS Q Q Q Q fun s43=>ap 18 aS Q Q Q Q Q Q Q (fun h=>(h.o 20 Q)) Q Q hG1 fun hG1 s44=>wi hG1<|dL 0 7 (fun(p:Int×Int×aI×Mem)=>A8 x8 x9 x37 p.1 p.2.1 p.2.2.1 p.2.2.2) [0,4,6,7,8] (fun(p:Int×Int×aI×Mem) (u:AC×AC×AC×AC)=>[(13,.p 6 0)]) [18,19] (fun p u=>[.box 0 [.h s1 c.b.length,I p.1,I p.2.1],ow s36 (p.2.2.1.Mem.aB.Bytes:List Int),ow s37 (p.2.2.1.Mem.aB.Class:List Int),ow s38 (p.2.2.1.Mem.aA.Global:List aD),ow s39 (p.2.2.1.Mem.aA.aR:List aD),ow s40 (p.2.2.1.aC.aN:List dS),ow s41 (p.2.2.1.aJ:List aK),ow s42 (p.2.2.1.cA:List Int),.box 2 [.h s36 p.2.2.1.Mem.aB.Bytes.length,.h s37 p.2.2.1.Mem.aB.Class.length,.h s38 p.2.2.1.Mem.aA.Global.length,.h s39 p.2.2.1.Mem.aA.aR.length,I p.2.2.1.aC.aE,.h s40 p.2.2.1.aC.aN.length,.h s41 p.2.2.1.aJ.length,.h s42 p.2.2.1.cA.length],ow u.1 (p.2.2.2.aB.Bytes:List Int),ow u.2.1 (p.2.2.2.aB.Class:List Int),ow u.2.2.1 (p.2.2.2.aA.Global:List aD),ow u.2.2.2 (p.2.2.2.aA.aR:List aD),.box 6 [.h u.1 p.2.2.2.aB.Bytes.length,.h u.2.1 p.2.2.2.aB.Class.length,.h u.2.2.1 p.2.2.2.aA.Global.length,.h u.2.2.2 p.2.2.2.aA.aR.length]]) Q (eM aG [8,16,17,19] Q<|fun hG1=>bd hG1 fun x42 hA1 hG1=>bd hG1 fun x43 hA2 hG1=>cT Q Q (have hq1:=rb hA1;wi hq1<|bP 0 0 0 3 [] Q Q Q Q Q (fun h=>aH (c:=(⟨c.b,x33,x34⟩:aL)) (h.a h1)) fun u1 _=>fun hq1=>match u1,hq1 with | _,rfl=>cT Q Q (have hq2:=rb hA2;wi hq2<|c1 Q (fun h=>iL (h.o 9 Q) (h.o 10 Q) (h.o 11 Q) (h.o 12 Q)) fun u2 s50=>fun hq2=>match u2,hq2 with | _,rfl=>wi hG1<|e7 (p:=(x42.2.1,x42.2.2,x36,x43.1)) (s50.1,s50.2.1,s50.2.2.1,s50.2.2.2) [0,9,10,11,12,13,14,15,8,21,22,23,24,25,18,19] Q Q) (have hq3:=rb hA2;wi hq3<|c1 Q (fun h=>iL (h.o 9 Q) (h.o 10 Q) (h.o 11 Q) (h.o 12 Q)) fun u3 s51=>fun hq3=>match u3,hq3 with | _,rfl=>wi hG1<|e7 (p:=(x42.2.1,x42.2.2,x36,x43.1)) (s51.1,s51.2.1,s51.2.2.1,s51.2.2.2) [0,9,10,11,12,13,14,15,8,22,23,24,25,21,18,19] Q Q)) (have hq4:=rb hA1;wi hq4<|bP 0 0 0 3 [] Q Q Q Q Q (fun h=>aH (c:=(⟨c.b,x33,x34⟩:aL)) (h.a h1)) fun u4 _=>fun hq4=>match u4,hq4 with | _,rfl=>have hq5:=rb hA2;wi hq5<|c1 Q (fun h=>iL (h.o 9 Q) (h.o 10 Q) (h.o 11 Q) (h.o 12 Q)) fun u5 s52=>fun hq5=>match u5,hq5 with | _,rfl=>wi hG1<|e7 (p:=(x42.2.1,x42.2.2,x36,x43.1)) (s52.1,s52.2.1,s52.2.2.1,s52.2.2.2) [0,9,10,11,12,13,14,15,8,22,23,24,25,21,18,19] Q Q)) fun⟨x38,x39,x40,x41⟩ ⟨s45,s46,s47,s48⟩=>e7 (p:=(x8++([x37.Out]),x38,x39,({x40 with Mem:=x41}:aI))) (s44,s45,s46,s47,s48,s40,s41,s42) [14,0,9,10,11,12,5,6,7,8,15] Q Q)<|e7 (p:=(x8,x33,x34,x36)) (s12,s36,s37,s38,s39,s40,s41,s42) [18,0,9,10,11,12,13,14,15,8,19] Q Q)<|dL 0 4 (fun(p:Bool×aI)=>oT c x8 x9 x27 x29 x30 p.1 p.2) [0,4,6,7,8,9,10,34] (fun(p:Bool×aI) (_:Unit)=>[(90,.b p.1)]) [0,9,10] (fun p _=>[ow s13 (p.2.Mem.aB.Bytes:List Int),ow s14 (p.2.Mem.aB.Class:List Int),ow s15 (p.2.Mem.aA.Global:List aD),ow s16 (p.2.Mem.aA.aR:List aD),ow s17 (p.2.aC.aN:List dS),ow s18 (p.2.aJ:List aK),ow s19 (p.2.cA:List Int),.box 2 [.h s13 p.2.Mem.aB.Bytes.length,.h s14 p.2.Mem.aB.Class.length,.h s15 p.2.Mem.aA.Global.length,.h s16 p.2.Mem.aA.aR.length,I p.2.aC.aE,.h s17 p.2.aC.aN.length,.h s18 p.2.aJ.length,.h s19 p.2.cA.length]]) Q (bD [90,91] Q Q (bU (p:=(true,x32)) [1,2,3,4,5,6,7,8,0,9,10] Q Q)<|bU (p:=(x30.1 == 5,x32)) [1,2,3,4,5,6,7,8,0,9,10] Q Q) fun⟨x47,x48⟩ _=>bD [90] Q Q (dL 0 4 (BA x8 x9 x30) [0,4,6,7,8] (fun(x49:aI) (u:AC×AC×AC×AC×AC×AC×AC)=>[]) [8,9,10] (fun x49 u=>[ow u.1 (x49.Mem.aB.Bytes:List Int),ow u.2.1 (x49.Mem.aB.Class:List Int),ow u.2.2.1 (x49.Mem.aA.Global:List aD),ow u.2.2.2.1 (x49.Mem.aA.aR:List aD),ow u.2.2.2.2.1 (x49.aC.aN:List dS),ow u.2.2.2.2.2.1 (x49.aJ:List aK),ow u.2.2.2.2.2.2 (x49.cA:List Int),.box 2 [.h u.1 x49.Mem.aB.Bytes.length,.h u.2.1 x49.Mem.aB.Class.length,.h u.2.2.1 x49.Mem.aA.Global.length,.h u.2.2.2.1 x49.Mem.aA.aR.length,I x49.aC.aE,.h u.2.2.2.2.1 x49.aC.aN.length,.h u.2.2.2.2.2.1 x49.aJ.length,.h u.2.2.2.2.2.2 x49.cA.length]]) Q (eM aG [9,10] Q<|fun hG1=>bd hG1 fun x50 hA6 hG1=>bd hG1 fun x51 hA7 hG1=>cT Q Q (have hq41:=rb hA6;wi hq41<|c0 Q (fun _=>cL) fun u41=>fun hq41=>match u41,hq41 with | _,rfl=>have hq42:=rb hA7;wi hq42<|c1 Q (fun h=>bV (h.o 0 Q) (h.o 1 Q) (h.o 2 Q) (h.o 3 Q) (h.o 4 Q) (h.o 5 Q) (h.o 6 Q)) fun u42 s81=>fun hq42=>match u42,hq42 with | _,rfl=>wi hG1<|e7 (p:=(x51.1)) (s81.1,s81.2.1,s81.2.2.1,s81.2.2.2.1,s81.2.2.2.2.1,s81.2.2.2.2.2.1,s81.2.2.2.2.2.2) [11,12,13,14,15,16,17,7,8,9,10] Q Q) (have hq43:=rb hA6;wi hq43<|c0 Q (fun _=>cL) fun u43=>fun hq43=>match u43,hq43 with | _,rfl=>have hq44:=rb hA7;wi hq44<|c1 Q (fun h=>bV (h.o 0 Q) (h.o 1 Q) (h.o 2 Q) (h.o 3 Q) (h.o 4 Q) (h.o 5 Q) (h.o 6 Q)) fun u44 s82=>fun hq44=>match u44,hq44 with | _,rfl=>wi hG1<|e7 (p:=(x51.1)) (s82.1,s82.2.1,s82.2.2.1,s82.2.2.2.1,s82.2.2.2.2.1,s82.2.2.2.2.2.1,s82.2.2.2.2.2.2) [11,12,13,14,15,16,17,7,8,9,10] Q Q)) fun x49 ⟨s73,s74,s75,s76,s77,s78,s79⟩=>e7 (p:=(x8,x30.2.1,x30.2.2,x49)) (s12,s73,s74,s75,s76,s77,s78,s79) [8,9,0,1,2,3,4,5,6,7,10] Q Q)<|dL 0 4 (fun(p:Bool×aI)=>oS c x8 x9 x27 x29 x30 p.1 p.2) [0,4,6,7,8,9,10,34] (fun(p:Bool×aI) (_:Unit)=>[(101,.b p.1)]) [8,9,10] (fun p _=>[ow s13 (p.2.Mem.aB.Bytes:List Int),ow s14 (p.2.Mem.aB.Class:List Int),ow s15 (p.2.Mem.aA.Global:List aD),ow s16 (p.2.Mem.aA.aR:List aD),ow s17 (p.2.aC.aN:List dS),ow s18 (p.2.aJ:List aK),ow s19 (p.2.cA:List Int),.box 2 [.h s13 p.2.Mem.aB.Bytes.length,.h s14 p.2.Mem.aB.Class.length,.h s15 p.2.Mem.aA.Global.length,.h s16 p.2.Mem.aA.aR.length,I p.2.aC.aE,.h s17 p.2.aC.aN.length,.h s18 p.2.aJ.length,.h s19 p.2.cA.length]]) Q (bD [101,102] Q Q (bU (p:=(true,x48)) [0,1,2,3,4,5,6,7,8,9,10] Q Q)<|bU (p:=(x30.1 == 7,x48)) [0,1,2,3,4,5,6,7,8,9,10] Q Q) fun⟨x52,x53⟩ _=>bD [101] Q Q (dL 0 4 (yQ x8 x9 x30) [0,4,6,7,8] (fun(x54:aI) (u:AC×AC×AC×AC×AC×AC×AC)=>[]) [8,9,10] (fun x54 u=>[ow u.1 (x54.Mem.aB.Bytes:List Int),ow u.2.1 (x54.Mem.aB.Class:List Int),ow u.2.2.1 (x54.Mem.aA.Global:List aD),ow u.2.2.2.1 (x54.Mem.aA.aR:List aD),ow u.2.2.2.2.1 (x54.aC.aN:List dS),ow u.2.2.2.2.2.1 (x54.aJ:List aK),ow u.2.2.2.2.2.2 (x54.cA:List Int),.box 2 [.h u.1 x54.Mem.aB.Bytes.length,.h u.2.1 x54.Mem.aB.Class.length,.h u.2.2.1 x54.Mem.aA.Global.length,.h u.2.2.2.1 x54.Mem.aA.aR.length,I x54.aC.aE,.h u.2.2.2.2.1 x54.aC.aN.length,.h u.2.2.2.2.2.1 x54.aJ.length,.h u.2.2.2.2.2.2 x54.cA.length]]) Q (eM aG [9,10] Q<|fun hG1=>bd hG1 fun x55 hA8 hG1=>bd hG1 fun x56 hA9 hG1=>cT Q Q (have hq45:=rb hA8;wi hq45<|c0 Q (fun _=>cL) fun u45=>fun hq45=>match u45,hq45 with | _,rfl=>have hq46:=rb hA9;wi hq46<|c1 Q (fun h=>bV (h.o 0 Q) (h.o 1 Q) (h.o 2 Q) (h.o 3 Q) (h.o 4 Q) (h.o 5 Q) (h.o 6 Q)) fun u46 s91=>fun hq46=>match u46,hq46 with | _,rfl=>wi hG1<|e7 (p:=(x56.1)) (s91.1,s91.2.1,s91.2.2.1,s91.2.2.2.1,s91.2.2.2.2.1,s91.2.2.2.2.2.1,s91.2.2.2.2.2.2) [11,12,13,14,15,16,17,7,8,9,10] Q Q) (have hq47:=rb hA8;wi hq47<|c0 Q (fun _=>cL) fun u47=>fun hq47=>match u47,hq47 with | _,rfl=>have hq48:=rb hA9;wi hq48<|c1 Q (fun h=>bV (h.o 0 Q) (h.o 1 Q) (h.o 2 Q) (h.o 3 Q) (h.o 4 Q) (h.o 5 Q) (h.o 6 Q)) fun u48 s92=>fun hq48=>match u48,hq48 with | _,rfl=>wi hG1<|e7 (p:=(x56.1)) (s92.1,s92.2.1,s92.2.2.1,s92.2.2.2.1,s92.2.2.2.2.1,s92.2.2.2.2.2.1,s92.2.2.2.2.2.2) [11,12,13,14,15,16,17,7,8,9,10] Q Q)) fun x54 ⟨s83,s84,s85,s86,s87,s88,s89⟩=>e7 (p:=(x8,x30.2.1,x30.2.2,x54)) (s12,s83,s84,s85,s86,s87,s88,s89) [8,9,0,1,2,3,4,5,6,7,10] Q Q)<|bD [111,112] Q Q (dL 0 4 (yR x8 x9 x30) [0,4,6,7,8] (fun(x57:aI) (u:AC×AC×AC×AC×AC×AC×AC)=>[]) [8,9,10] (fun x57 u=>[ow u.1 (x57.Mem.aB.Bytes:List Int),ow u.2.1 (x57.Mem.aB.Class:List Int),ow u.2.2.1 (x57.Mem.aA.Global:List aD),ow u.2.2.2.1 (x57.Mem.aA.aR:List aD),ow u.2.2.2.2.1 (x57.aC.aN:List dS),ow u.2.2.2.2.2.1 (x57.aJ:List aK),ow u.2.2.2.2.2.2 (x57.cA:List Int),.box 2 [.h u.1 x57.Mem.aB.Bytes.length,.h u.2.1 x57.Mem.aB.Class.length,.h u.2.2.1 x57.Mem.aA.Global.length,.h u.2.2.2.1 x57.Mem.aA.aR.length,I x57.aC.aE,.h u.2.2.2.2.1 x57.aC.aN.length,.h u.2.2.2.2.2.1 x57.aJ.length,.h u.2.2.2.2.2.2 x57.cA.length]]) Q (eM aG [9,10] Q<|fun hG1=>bd hG1 fun x58 hA10 hG1=>bd hG1 fun x59 hA11 hG1=>cT Q Q (have hq49:=rb hA10;wi hq49<|c0 Q (fun _=>cL) fun u49=>fun hq49=>match u49,hq49 with | _,rfl=>have hq50:=rb hA11;wi hq50<|c1 Q (fun h=>bV (h.o 0 Q) (h.o 1 Q) (h.o 2 Q) (h.o 3 Q) (h.o 4 Q) (h.o 5 Q) (h.o 6 Q)) fun u50 s101=>fun hq50=>match u50,hq50 with | _,rfl=>wi hG1<|e7 (p:=(x59.1)) (s101.1,s101.2.1,s101.2.2.1,s101.2.2.2.1,s101.2.2.2.2.1,s101.2.2.2.2.2.1,s101.2.2.2.2.2.2) [11,12,13,14,15,16,17,7,8,9,10] Q Q) (have hq51:=rb hA10;wi hq51<|c0 Q (fun _=>cL) fun u51=>fun hq51=>match u51,hq51 with | _,rfl=>have hq52:=rb hA11;wi hq52<|c1 Q (fun h=>bV (h.o 0 Q) (h.o 1 Q) (h.o 2 Q) (h.o 3 Q) (h.o 4 Q) (h.o 5 Q) (h.o 6 Q)) fun u52 s102=>fun hq52=>match u52,hq52 with | _,rfl=>wi hG1<|e7 (p:=(x59.1)) (s102.1,s102.2.1,s102.2.2.1,s102.2.2.2.1,s102.2.2.2.2.1,s102.2.2.2.2.2.1,s102.2.2.2.2.2.2) [11,12,13,14,15,16,17,7,8,9,10] Q Q)) fun x57 ⟨s93,s94,s95,s96,s97,s98,s99⟩=>e7 (p:=(x8,x30.2.1,x30.2.2,x57)) (s12,s93,s94,s95,s96,s97,s98,s99) [8,9,0,1,2,3,4,5,6,7,10] Q Q)<|bD [120,121] Q Q (dL 0 4 (yS x8 x9 x30) [0,4,6,7,8] (fun(x60:aI) (u:AC×AC×AC×AC×AC×AC×AC)=>[]) [8,9,10] (fun x60 u=>[ow u.1 (x60.Mem.aB.Bytes:List Int),ow u.2.1 (x60.Mem.aB.Class:List Int),ow u.2.2.1 (x60.Mem.aA.Global:List aD),ow u.2.2.2.1 (x60.Mem.aA.aR:List aD),ow u.2.2.2.2.1 (x60.aC.aN:List dS),ow u.2.2.2.2.2.1 (x60.aJ:List aK),ow u.2.2.2.2.2.2 (x60.cA:List Int),.box 2 [.h u.1 x60.Mem.aB.Bytes.length,.h u.2.1 x60.Mem.aB.Class.length,.h u.2.2.1 x60.Mem.aA.Global.length,.h u.2.2.2.1 x60.Mem.aA.aR.length,I x60.aC.aE,.h u.2.2.2.2.1 x60.aC.aN.length,.h u.2.2.2.2.2.1 x60.aJ.length,.h u.2.2.2.2.2.2 x60.cA.length]]) Q (eM aG [9,10] Q<|fun hG1=>bd hG1 fun x61 hA12 hG1=>bd hG1 fun x62 hA13 hG1=>cT Q Q (have hq53:=rb hA12;wi hq53<|c0 Q (fun _=>cL) fun u53=>fun hq53=>match u53,hq53 with | _,rfl=>have hq54:=rb hA13;wi hq54<|c1 Q (fun h=>bV (h.o 0 Q) (h.o 1 Q) (h.o 2 Q) (h.o 3 Q) (h.o 4 Q) (h.o 5 Q) (h.o 6 Q)) fun u54 s111=>fun hq54=>match u54,hq54 with | _,rfl=>wi hG1<|e7 (p:=(x62.1)) (s111.1,s111.2.1,s111.2.2.1,s111.2.2.2.1,s111.2.2.2.2.1,s111.2.2.2.2.2.1,s111.2.2.2.2.2.2) [11,12,13,14,15,16,17,7,8,9,10] Q Q) (have hq55:=rb hA12;wi hq55<|c0 Q (fun _=>cL) fun u55=>fun hq55=>match u55,hq55 with | _,rfl=>have hq56:=rb hA13;wi hq56<|c1 Q (fun h=>bV (h.o 0 Q) (h.o 1 Q) (h.o 2 Q) (h.o 3 Q) (h.o 4 Q) (h.o 5 Q) (h.o 6 Q)) fun u56 s112=>fun hq56=>match u56,hq56 with | _,rfl=>wi hG1<|e7 (p:=(x62.1)) (s112.1,s112.2.1,s112.2.2.1,s112.2.2.2.1,s112.2.2.2.2.1,s112.2.2.2.2.2.1,s112.2.2.2.2.2.2) [11,12,13,14,15,16,17,7,8,9,10] Q Q)) fun x60 ⟨s103,s104,s105,s106,s107,s108,s109⟩=>e7 (p:=(x8,x30.2.1,x30.2.2,x60)) (s12,s103,s104,s105,s106,s107,s108,s109) [8,9,0,1,2,3,4,5,6,7,10] Q Q)<|bD [129,130] Q Q (c1 Q (fun h=>O7 (h.o 4 Q)) fun x63 s113=>e7 (p:=(x8,x30.2.1,x30.2.2,({x53 with aC:=x63.1}:aI))) (s12,s13,s14,s15,s16,s113,s18,s19) [8,9,0,1,2,3,11,5,6,7,10] Q Q)<|c1 Q (fun h=>KQ (h.o 6 Q)) fun x64 s114=>bP 9 0 0 3 [] Q Q Q Q Q (fun h=>pG (c:=(⟨c.b,x30.2.1,x30.2.2⟩:aL)) (h.a h1)) fun x65 _=>bD [45] Q Q (c1 Q (fun h=>aBC (h.o 11 Q)) fun x66 s115=>e7 (p:=(x8,x65.2.1,x65.2.2,({x53 with cA:=x66.1}:aI))) (s12,s13,s14,s15,s16,s17,s18,s115) [8,9,0,1,2,3,4,5,12,7,10] Q Q)<|e7 (p:=(x8,x65.2.1,x65.2.2,({x53 with cA:=x64.1}:aI))) (s12,s13,s14,s15,s16,s17,s18,s114) [8,9,0,1,2,3,4,5,11,7,10] Q Q) fun⟨x23,x24,x25,x26⟩ ⟨s28,s29,s30,s31,s32,s33,s34,s35⟩=>RK (s28,s29,s30,s31,s32,s33,s34,s35) [0,1,2,3,4,5,6,7,8,9,10] Q)<|T8 (s12,s13,s14,s15,s16,s17,s18,s19) [0,1,2,3,4,5,6,7,8,9,10] Q) fun⟨x13,x14,x15,x16⟩ ⟨s20,s21,s22,s23,s24,s25,s26,s27⟩=>dL 0 3 (fun(p:Int×Int×Int×aI)=>A7 p.1 p.2.1 p.2.2.1 p.2.2.2) [0,4] (fun(p:Int×Int×Int×aI) (_:Unit)=>[(5,I p.1)]) [] (fun p _=>[.box 0 [.h s1 c.b.length,I p.2.1,I p.2.2.1],ow s21 (p.2.2.2.Mem.aB.Bytes:List Int),ow s22 (p.2.2.2.Mem.aB.Class:List Int),ow s23 (p.2.2.2.Mem.aA.Global:List aD),ow s24 (p.2.2.2.Mem.aA.aR:List aD),ow s25 (p.2.2.2.aC.aN:List dS),ow s26 (p.2.2.2.aJ:List aK),ow s27 (p.2.2.2.cA:List Int),.box 1 [.h s21 p.2.2.2.Mem.aB.Bytes.length,.h s22 p.2.2.2.Mem.aB.Class.length,.h s23 p.2.2.2.Mem.aA.Global.length,.h s24 p.2.2.2.Mem.aA.aR.length,I p.2.2.2.aC.aE,.h s25 p.2.2.2.aC.aN.length,.h s26 p.2.2.2.aJ.length,.h s27 p.2.2.2.cA.length]]) Q (eM aG [9] Q<|bP 1 0 0 3 [] Q Q Q Q Q (fun h=>aH (c:=(⟨c.b,x14,x15⟩:aL)) (h.a h1)) fun x21 _=>oB oI 0 Q Q Q fun x22 h2 _ h3=>fun hF=>gW 3 h3 h2 Q Q Q Q Q<|cT Q Q (sF Q<|rI oI 11 [] h2 () Q Q Q Q Q Q Q<|gP (p:=(x22,x21.2.1,x21.2.2,x16)) () [1,2,3,4,5,6,7,8,10] hF Q) (sF Q<|rI oI 11 [] h2 () Q Q Q Q Q Q Q<|gP (p:=(x22,x21.2.1,x21.2.2,x16)) () [1,2,3,4,5,6,7,8,10] hF Q)) fun⟨x17,x18,x19,x20⟩ _=>eA (s21,s22,s23,s24,s25,s26,s27) [0,1,2,3,4,5,6,7] Q Q
theorem uN{c:aL}{s1:AC}{b0:Nat×Nat}(h1:bE κ s1 c.b):VS Tryz.prog κ 174 (pC c) [.p 0 0] [b0] [.box 0 [.h s1 c.b.length,I c.i,I c.h]] (fun(r:Int×(Int×Int)) (y:Unit)=>I r.1) (fun(r:Int×(Int×Int)) (y:Unit)=>[.box 0 [.h s1 c.b.length,I r.2.1,I r.2.2]]):=
 cE tok Tryz.call174 Tryz.func174 Tryz.results174 Q Q<|bP 0 0 0 3 [] Q Q Q Q Q (fun h=>pG (h.a h1)) fun x1 _=>bD [4] Q Q (fun hF=>X2 oI () ([0,(-1),31,32,55,56,63,64,192,215,216,223,224]:List Int) aS Q Q Q Q Q Q Q Q Q Q (fun _=>Q) fun s2=>wi hF<|bP 0 0 0 3 [] Q Q Q Q Q (fun h=>cO (c:=(⟨c.b,x1.2.1,x1.2.2⟩:aL)) (h.a h1) (h.o 1 Q Q)) fun x2 _=>eA () [0] Q Q)<|bP 0 0 0 3 [] Q Q Q Q Q (fun h=>aH (c:=(⟨c.b,x1.2.1,x1.2.2⟩:aL)) (h.a h1)) fun x3 _=>bP 0 0 0 3 [] Q Q Q Q Q (fun h=>aH (c:=(⟨c.b,x3.2.1,x3.2.2⟩:aL)) (h.a h1)) fun x4 _=>c0 Q (fun _=>BF) fun x5=>eA () [0] Q Q
theorem WL{l:aA}{w_ c:Int}{s1 s2:AC}(h1:bE κ s1 l.Global)(h2:bE κ s2 l.aR):VS Tryz.prog κ 145 (r5 l w_ c) [.g [.h s1 l.Global.length,.h s2 l.aR.length],I w_,I c] [] [] (fun r (y:AC×AC)=>.t [.g [.h y.1 r.1.Global.length,.h y.2 r.1.aR.length],I r.2]) (fun r y=>[ow y.1 r.1.Global,ow y.2 r.1.aR]):=
 cE tok Tryz.call145 Tryz.func145 Tryz.results145 Q Q<|c1 Q (fun h=>zW (h.a h1) (h.a h2)) fun x1 s3=>c0 Q (fun _=>xK) fun x2=>cW 0 3 (oV x1 x2) [6,8,9] 23 [1,2,3,4] Q (c0 Q (fun h=>xI (h.a h1) (h.a h2)) fun x6=>dR [19,20] Q Q (bU [1,2,3,4] Q Q)<|bU [1,2,3,4] Q Q) fun x3=>bD [23] Q Q (eA (s3.1,s3.2) [1,2] Q Q)<|oB cY 2 Q Q Q fun x4 h3 s4 h4=>fun hF=>gW 3 h4 h3 Q Q Q Q Q<|wi hF<|pW [7] Q Q Q Q (fun _=>CM) fun x5 s5=>fun hF=>gW 3 h4 h3 Q Q Q Q Q<|sR Q<|yA cY 4 [8] [27,35] x5.1 s5 Q Q Q Q Q Q Q Q<|D7 s3.2 List.length_set.symm [(39,1)] [(0,1),(3,1)] Q Q Q<|fR Q Q<|JV (hT:=tok) (s3.1,s3.2) [1,10] hF Q Tryz.results145 Q Q Q Q
theorem PC{l:aA}{c:Int}{s1 s2:AC}(h1:bE κ s1 l.Global)(h2:bE κ s2 l.aR):VS Tryz.prog κ 146 (lB l c) [.g [.h s1 l.Global.length,.h s2 l.aR.length],I c] [] [] (fun r (y:AC×AC)=>.t [.g [.h y.1 r.1.Global.length,.h y.2 r.1.aR.length],I r.2]) (fun r y=>[ow y.1 r.1.Global,ow y.2 r.1.aR]):=
 cE tok Tryz.call146 Tryz.func146 Tryz.results146 Q Q<|c1 Q (fun h=>zW (h.a h1) (h.a h2)) fun x1 s3=>cW 0 3 (kE c x1) [1,4,6] 18 [1,2,3,4] Q (c0 Q (fun h=>xI (h.a h1) (h.a h2)) fun x5=>dR [13,14] Q Q (bU [1,2,3,4] Q Q)<|c0 Q (fun _=>aY) fun x6=>bU [1,2,3,4] Q Q) fun x2=>bD [18] Q Q (eA (s3.1,s3.2) [1,2] Q Q)<|oB cY 1 Q Q Q fun x3 h3 s4 h4=>fun hF=>gW 3 h4 h3 Q Q Q Q Q<|wi hF<|pW [7] Q Q Q Q (fun _=>CM) fun x4 s5=>fun hF=>gW 3 h4 h3 Q Q Q Q Q<|sR Q<|yA cY 4 [8] [22,30] x4.1 s5 Q Q Q Q Q Q Q Q<|D7 s3.1 List.length_set.symm [(34,0)] [(0,0),(3,0)] Q Q Q<|fR Q Q<|JV (hT:=tok) (s3.1,s3.2) [10,2] hF Q Tryz.results146 Q Q Q Q
theorem oW{m:Mem}{w_ size:Int}{s1 s2 s3 s4:AC}(h1:bE κ s1 m.aB.Bytes)(h2:bE κ s2 m.aB.Class)(h3:bE κ s3 m.aA.Global)(h4:bE κ s4 m.aA.aR):VS Tryz.prog κ 60 (lV m w_ size) [.g [.h s1 m.aB.Bytes.length,.h s2 m.aB.Class.length,.h s3 m.aA.Global.length,.h s4 m.aA.aR.length],I w_,I size] [] [] (fun r (y:AC×AC×AC×AC)=>.t [.g [.h y.1 r.1.aB.Bytes.length,.h y.2.1 r.1.aB.Class.length,.h y.2.2.1 r.1.aA.Global.length,.h y.2.2.2 r.1.aA.aR.length],I r.2.1,I r.2.2]) (fun r y=>[ow y.1 r.1.aB.Bytes,ow y.2.1 r.1.aB.Class,ow y.2.2.1 r.1.aA.Global,ow y.2.2.2 r.1.aA.aR]):=
 cE tok Tryz.call60 Tryz.func60 Tryz.results60 Q Q<|c1 Q (fun h=>zX (h.a h1) (h.a h2) (h.a h3) (h.a h4)) fun x1 s5=>c0 Q (fun _=>KN) fun x2=>dL 0 3 (fun(p:Bool×Mem)=>mZ w_ x2 p.1 p.2) [1,6,9,10] (fun(p:Bool×Mem) (_:Unit)=>[(24,.b p.1)]) [1] (fun p _=>[ow s5.1 (p.2.aB.Bytes:List Int),ow s5.2.1 (p.2.aB.Class:List Int),ow s5.2.2.1 (p.2.aA.Global:List aD),ow s5.2.2.2 (p.2.aA.aR:List aD),.box 2 [.h s5.1 p.2.aB.Bytes.length,.h s5.2.1 p.2.aB.Class.length,.h s5.2.2.1 p.2.aA.Global.length,.h s5.2.2.2 p.2.aA.aR.length]]) Q (c0 Q (fun h=>CL (h.a h1) (h.a h2) (h.a h3) (h.a h4)) fun x15=>dR [19,20] Q Q (bU (p:=(true,x1)) [2,3,4,5,6,1] Q Q)<|c0 Q (fun _=>aY) fun x16=>bU (p:=(!x16,x1)) [2,3,4,5,6,1] Q Q) fun⟨x3,x4⟩ _=>bD [24] Q Q (eA (s5.1,s5.2.1,s5.2.2.1,s5.2.2.2) [0,1,2,3] Q Q)<|bD [27] Q Q (eA (s5.1,s5.2.1,s5.2.2.1,s5.2.2.2) [0,1,2,3] Q Q)<|c1 Q (fun h=>WL (h.o 2 Q) (h.o 3 Q)) fun x5 s6=>dL 0 4 (fun(p:Int×Mem×(List aD)×(List aD))=>gZ x2 p.1 p.2.1 p.2.2.1 p.2.2.2) [6,9,10,11] (fun(p:Int×Mem×(List aD)×(List aD)) (u:AC×AC)=>[(12,I p.1)]) [5] (fun p u=>[ow s5.1 (p.2.1.aB.Bytes:List Int),ow s5.2.1 (p.2.1.aB.Class:List Int),ow s5.2.2.1 (p.2.1.aA.Global:List aD),ow s5.2.2.2 (p.2.1.aA.aR:List aD),.box 2 [.h s5.1 p.2.1.aB.Bytes.length,.h s5.2.1 p.2.1.aB.Class.length,.h s5.2.2.1 p.2.1.aA.Global.length,.h s5.2.2.2 p.2.1.aA.aR.length],ow u.1 (p.2.2.1:List aD),ow u.2 (p.2.2.2:List aD),.box 3 [.h u.1 p.2.2.1.length,.h u.2 p.2.2.2.length]]) Q (bD [38] Q Q (c1 Q (fun h=>PC (h.o 6 Q) (h.o 7 Q)) fun x14 s14=>e7 (p:=(x14.2,x4,x14.1.Global,x14.1.aR)) (s14.1,s14.2) [0,1,2,3,4,9,10,8,5] Q Q)<|e7 (p:=(x5.2,x4,x5.1.Global,x5.1.aR)) (s6.1,s6.2) [0,1,2,3,4,6,7,8,5] Q Q) fun⟨x6,x7,x8,x9⟩ ⟨s7,s8⟩=>dL 0 4 (fun(p:Int×Mem)=>gY p.1 p.2) [6,9] (fun(p:Int×Mem) (u:AC×AC×AC×AC)=>[(12,I p.1)]) [8] (fun p u=>[ow u.1 (p.2.aB.Bytes:List Int),ow u.2.1 (p.2.aB.Class:List Int),ow u.2.2.1 (p.2.aA.Global:List aD),ow u.2.2.2 (p.2.aA.aR:List aD),.box 2 [.h u.1 p.2.aB.Bytes.length,.h u.2.1 p.2.aB.Class.length,.h u.2.2.1 p.2.aA.Global.length,.h u.2.2.2 p.2.aA.aR.length]]) Q (bD [48] Q Q (pW [0,1,5,6] Q Q Q Q (fun _=>KP (m:=(⟨x7.aB,(⟨x8,x9⟩:aA)⟩:Mem))) fun x13 s13=>e7 (p:=(x13.2,x13.1)) (s13.1,s13.2.1,s13.2.2.1,s13.2.2.2) [9,10,11,12,4,8] Q Q)<|e7 (p:=(x6,(⟨x7.aB,(⟨x8,x9⟩:aA)⟩:Mem))) (s5.1,s5.2.1,s7,s8) [0,1,5,6,4,8] Q Q) fun⟨x10,x11⟩ ⟨s9,s10,s11,s12⟩=>bD [56] Q Q (eA (s9,s10,s11,s12) [0,1,2,3] Q Q)<|eM aG [4] Q<|c0 Q (fun h=>IT (h.o 0 Q) (h.o 1 Q) (h.o 2 Q) (h.o 3 Q)) fun x12=>eA (s9,s10,s11,s12) [0,1,2,3] Q Q
theorem q8{m:Mem}{w_ h:Int}{s1 s2 s3 s4:AC}(h1:bE κ s1 m.aB.Bytes)(h2:bE κ s2 m.aB.Class)(h3:bE κ s3 m.aA.Global)(h4:bE κ s4 m.aA.aR):VS Tryz.prog κ 416 (CI m w_ h) [.g [.h s1 m.aB.Bytes.length,.h s2 m.aB.Class.length,.h s3 m.aA.Global.length,.h s4 m.aA.aR.length],I w_,I h] [] [] (fun r (y:AC×AC×AC×AC)=>.t [.g [.h y.1 r.1.aB.Bytes.length,.h y.2.1 r.1.aB.Class.length,.h y.2.2.1 r.1.aA.Global.length,.h y.2.2.2 r.1.aA.aR.length],I r.2]) (fun r y=>[ow y.1 r.1.aB.Bytes,ow y.2.1 r.1.aB.Class,ow y.2.2.1 r.1.aA.Global,ow y.2.2.2 r.1.aA.aR]):=
 cE tok Tryz.call416 Tryz.func416 Tryz.results416 Q Q<|c1 Q (fun h=>zX (h.a h1) (h.a h2) (h.a h3) (h.a h4)) fun x1 s5=>dL 0 3 (fun(p:Bool×Mem)=>uL m w_ h p.1 p.2) [1,2,3,6,8] (fun(p:Bool×Mem) (_:Unit)=>[(18,.b p.1)]) [0,1] (fun p _=>[ow s5.1 (p.2.aB.Bytes:List Int),ow s5.2.1 (p.2.aB.Class:List Int),ow s5.2.2.1 (p.2.aA.Global:List aD),ow s5.2.2.2 (p.2.aA.aR:List aD),.box 2 [.h s5.1 p.2.aB.Bytes.length,.h s5.2.1 p.2.aB.Class.length,.h s5.2.2.1 p.2.aA.Global.length,.h s5.2.2.2 p.2.aA.aR.length]]) Q (c0 Q (fun h=>CL (h.a h1) (h.a h2) (h.a h3) (h.a h4)) fun x7=>dR [13,14] Q Q (bU (p:=(true,x1)) [2,3,4,5,6,0,1] Q Q)<|c0 Q (fun _=>aY) fun x8=>bU (p:=(!x8,x1)) [2,3,4,5,6,0,1] Q Q) fun⟨x2,x3⟩ _=>bD [18] Q Q (eA (s5.1,s5.2.1,s5.2.2.1,s5.2.2.2) [0,1,2,3] Q Q)<|c0 Q (fun h=>xL (h.a h1) (h.a h2) (h.a h3) (h.a h4)) fun x4=>bD [23] Q Q (eA (s5.1,s5.2.1,s5.2.2.1,s5.2.2.2) [0,1,2,3] Q Q)<|eM aG [4,5] Q<|c0 Q (fun _=>eI) fun x5=>pW [0,1,2,3] Q Q Q Q (fun _=>FQ) fun x6 s6=>eA (s6.1,s6.2.1,s6.2.2.1,s6.2.2.2) [7,8,9,10] Q Q
theorem YU{c:aL}{most:Int}{s1:AC}{b0:Nat×Nat}(h1:bE κ s1 c.b):VS Tryz.prog κ 343 (ES c most) [.p 0 0,I most] [b0] [.box 0 [.h s1 c.b.length,I c.i,I c.h]] (fun(r:Mem×Int×(Int×Int)) (y:AC×AC×AC×AC)=>.t [.g [.h y.1 r.1.aB.Bytes.length,.h y.2.1 r.1.aB.Class.length,.h y.2.2.1 r.1.aA.Global.length,.h y.2.2.2 r.1.aA.aR.length],I r.2.1]) (fun(r:Mem×Int×(Int×Int)) (y:AC×AC×AC×AC)=>[.box 0 [.h s1 c.b.length,I r.2.2.1,I r.2.2.2],ow y.1 r.1.aB.Bytes,ow y.2.1 r.1.aB.Class,ow y.2.2.1 r.1.aA.Global,ow y.2.2.2 r.1.aA.aR]):=
 cE tok Tryz.call343 Tryz.func343 Tryz.results343 Q Q<|c1 Q (fun _=>NC) fun x1 s2=>fun hF=>ZU Q aS Q Q Q Q fun s3=>wi hF<|bP 0 0 0 3 [] Q Q Q Q Q (fun h=>aH (h.a h1)) fun x2 _=>LX (s3,s2.1,s2.2.1,s2.2.2.1,s2.2.2.2) [0,4,6] (fun(p:(List Int)×Int×Int×Int×Mem) (u:AC×AC×AC×AC×AC)=>[(7,.h u.1 p.1.length),(8,I p.2.1)]) [7,0,2,3,4,5,6,1] [1] (fun p u=>[ow u.1 (p.1:List Int),.box 0 [.h s1 c.b.length,I p.2.2.1,I p.2.2.2.1],ow u.2.1 (p.2.2.2.2.aB.Bytes:List Int),ow u.2.2.1 (p.2.2.2.2.aB.Class:List Int),ow u.2.2.2.1 (p.2.2.2.2.aA.Global:List aD),ow u.2.2.2.2 (p.2.2.2.2.aA.aR:List aD),.box 2 [.h u.2.1 p.2.2.2.2.aB.Bytes.length,.h u.2.2.1 p.2.2.2.2.aB.Class.length,.h u.2.2.2.1 p.2.2.2.2.aA.Global.length,.h u.2.2.2.2 p.2.2.2.2.aA.aR.length]]) id [0,4,6] (fun(p:(List Int)×Int×Int×Mem) (u:AC×AC×AC×AC×AC)=>[(7,.h u.1 p.1.length)]) [1] (fun p u=>[ow u.1 (p.1:List Int),.box 0 [.h s1 c.b.length,I p.2.1,I p.2.2.1],ow u.2.1 (p.2.2.2.aB.Bytes:List Int),ow u.2.2.1 (p.2.2.2.aB.Class:List Int),ow u.2.2.2.1 (p.2.2.2.aA.Global:List aD),ow u.2.2.2.2 (p.2.2.2.aA.aR:List aD),.box 2 [.h u.2.1 p.2.2.2.aB.Bytes.length,.h u.2.2.1 p.2.2.2.aB.Class.length,.h u.2.2.2.1 p.2.2.2.aA.Global.length,.h u.2.2.2.2 p.2.2.2.aA.aR.length]]) Q Q (fun hF1 ⟨x8,x9,x10,x11,x12⟩ ⟨s9,s10,s11,s12,s13⟩ hr1=>bD [22] Q Q (dL 3 3 (fun(p:(List Int)×Int×Int×Mem)=>m3 x9 p.1 p.2.1 p.2.2.1 p.2.2.2) [0,4,6,8] (fun(p:(List Int)×Int×Int×Mem) (u:AC×AC×AC×AC×AC)=>[(7,.h u.1 p.1.length)]) [7] (fun p u=>[ow u.1 (p.1:List Int),.box 0 [.h s1 c.b.length,I p.2.1,I p.2.2.1],ow u.2.1 (p.2.2.2.aB.Bytes:List Int),ow u.2.2.1 (p.2.2.2.aB.Class:List Int),ow u.2.2.2.1 (p.2.2.2.aA.Global:List aD),ow u.2.2.2.2 (p.2.2.2.aA.aR:List aD),.box 2 [.h u.2.1 p.2.2.2.aB.Bytes.length,.h u.2.2.1 p.2.2.2.aB.Class.length,.h u.2.2.2.1 p.2.2.2.aA.Global.length,.h u.2.2.2.2 p.2.2.2.aA.aR.length]]) Q (dL 0 3 (fun(p:Bool×Int×Int×Mem)=>qX c x8 x9 p.1 p.2.1 p.2.2.1 p.2.2.2) [0,4,6,7,8] (fun(p:Bool×Int×Int×Mem) (_:Unit)=>[(31,.b p.1)]) [0,7] (fun p _=>[.box 0 [.h s1 c.b.length,I p.2.1,I p.2.2.1],ow s10 (p.2.2.2.aB.Bytes:List Int),ow s11 (p.2.2.2.aB.Class:List Int),ow s12 (p.2.2.2.aA.Global:List aD),ow s13 (p.2.2.2.aA.aR:List aD),.box 2 [.h s10 p.2.2.2.aB.Bytes.length,.h s11 p.2.2.2.aB.Class.length,.h s12 p.2.2.2.aA.Global.length,.h s13 p.2.2.2.aA.aR.length]]) Q (bP 1 0 0 3 [] Q Q Q Q Q (fun h=>pG (c:=(⟨c.b,x10,x11⟩:aL)) (h.a h1)) fun x56 _=>dR [26,27] Q Q (bU (p:=(decide (1 < (x8.length:Int)),x56.2.1,x56.2.2,x12)) [1,2,3,4,5,6,0,7] Q Q)<|bU (p:=(false,x56.2.1,x56.2.2,x12)) [1,2,3,4,5,6,0,7] Q Q) fun⟨x27,x28,x29,x30⟩ _=>bD [31] Q Q (dL 0 5 (fun(p:Int×Int×Mem×Mem)=>DC x8 x9 p.1 p.2.1 p.2.2.1 p.2.2.2) [0,4,6,7,8] (fun(p:Int×Int×Mem×Mem) (u:AC×AC×AC×AC)=>[(9,.p 4 0)]) [6,7] (fun p u=>[.box 0 [.h s1 c.b.length,I p.1,I p.2.1],ow s10 (p.2.2.1.aB.Bytes:List Int),ow s11 (p.2.2.1.aB.Class:List Int),ow s12 (p.2.2.1.aA.Global:List aD),ow s13 (p.2.2.1.aA.aR:List aD),.box 2 [.h s10 p.2.2.1.aB.Bytes.length,.h s11 p.2.2.1.aB.Class.length,.h s12 p.2.2.1.aA.Global.length,.h s13 p.2.2.1.aA.aR.length],ow u.1 (p.2.2.2.aB.Bytes:List Int),ow u.2.1 (p.2.2.2.aB.Class:List Int),ow u.2.2.1 (p.2.2.2.aA.Global:List aD),ow u.2.2.2 (p.2.2.2.aA.aR:List aD),.box 4 [.h u.1 p.2.2.2.aB.Bytes.length,.h u.2.1 p.2.2.2.aB.Class.length,.h u.2.2.1 p.2.2.2.aA.Global.length,.h u.2.2.2 p.2.2.2.aA.aR.length]]) Q (eM aG [5,7] Q<|fun hG1=>bd hG1 fun x35 hA1 hG1=>bd hG1 fun x36 hA2 hG1=>bd hG1 fun x37 hA3 hG1=>bd hG1 fun x38 hA4 hG1=>cT Q Q (have hq1:=rb hA1;wi hq1<|bP 0 0 0 3 [] Q Q Q Q Q (fun h=>aH (c:=(⟨c.b,x28,x29⟩:aL)) (h.a h1)) fun u1 _=>fun hq1=>match u1,hq1 with | _,rfl=>cT Q Q (have hq2:=rb hA2;wi hq2<|bP 0 0 0 3 [] Q Q Q Q Q (fun h=>aH (c:=(⟨c.b,x35.2.1,x35.2.2⟩:aL)) (h.a h1)) fun u2 _=>fun hq2=>match u2,hq2 with | _,rfl=>have hq3:=rb hA3;wi hq3<|oB oI 6 Q Q Q fun u3 h6 _ h7=>fun hq3=>gW 3 h7 h6 Q Q Q Q Q<|match u3,hq3 with | _,rfl=>cT Q Q (cT Q Q (have hq4:=rb hA4;wi hq4<|c1 Q (fun h=>q8 (h.o 1 Q) (h.o 2 Q) (h.o 3 Q) (h.o 4 Q)) fun u4 s29=>fun hq4=>match u4,hq4 with | _,rfl=>sF Q<|rI oI 8 [] h6 () Q Q Q Q Q Q Q<|gP (p:=(x36.2.1,x36.2.2,x30,x38.1)) (s29.1,s29.2.1,s29.2.2.1,s29.2.2.2) [0,1,2,3,4,5,11,12,13,14,15,16,7] hG1 Q) (have hq5:=rb hA4;wi hq5<|c1 Q (fun h=>q8 (h.o 1 Q) (h.o 2 Q) (h.o 3 Q) (h.o 4 Q)) fun u5 s30=>fun hq5=>match u5,hq5 with | _,rfl=>sF Q<|rI oI 8 [] h6 () Q Q Q Q Q Q Q<|gP (p:=(x36.2.1,x36.2.2,x30,x38.1)) (s30.1,s30.2.1,s30.2.2.1,s30.2.2.2) [0,1,2,3,4,5,12,13,14,15,11,16,7] hG1 Q)) (have hq6:=rb hA4;wi hq6<|c1 Q (fun h=>q8 (h.o 1 Q) (h.o 2 Q) (h.o 3 Q) (h.o 4 Q)) fun u6 s31=>fun hq6=>match u6,hq6 with | _,rfl=>sF Q<|rI oI 8 [] h6 () Q Q Q Q Q Q Q<|gP (p:=(x36.2.1,x36.2.2,x30,x38.1)) (s31.1,s31.2.1,s31.2.2.1,s31.2.2.2) [0,1,2,3,4,5,12,13,14,15,11,16,7] hG1 Q)) (have hq7:=rb hA2;wi hq7<|bP 0 0 0 3 [] Q Q Q Q Q (fun h=>aH (c:=(⟨c.b,x35.2.1,x35.2.2⟩:aL)) (h.a h1)) fun u7 _=>fun hq7=>match u7,hq7 with | _,rfl=>have hq8:=rb hA3;wi hq8<|oB oI 6 Q Q Q fun u8 h8 _ h9=>fun hq8=>gW 4 h9 h8 Q Q Q Q Q<|match u8,hq8 with | _,rfl=>have hq9:=rb hA4;wi hq9<|c1 Q (fun h=>q8 (h.o 1 Q) (h.o 2 Q) (h.o 3 Q) (h.o 4 Q)) fun u9 s32=>fun hq9=>match u9,hq9 with | _,rfl=>sF Q<|N8 4 3 Q<|fD Q Q<|rI oI 9 [] h8 () Q Q Q Q Q Q Q<|gP (p:=(x36.2.1,x36.2.2,x30,x38.1)) (s32.1,s32.2.1,s32.2.2.1,s32.2.2.2) [0,1,2,3,4,5,12,13,14,15,8,16,7] hG1 Q)) (have hq10:=rb hA1;wi hq10<|bP 0 0 0 3 [] Q Q Q Q Q (fun h=>aH (c:=(⟨c.b,x28,x29⟩:aL)) (h.a h1)) fun u10 _=>fun hq10=>match u10,hq10 with | _,rfl=>have hq11:=rb hA2;wi hq11<|bP 0 0 0 3 [] Q Q Q Q Q (fun h=>aH (c:=(⟨c.b,x35.2.1,x35.2.2⟩:aL)) (h.a h1)) fun u11 _=>fun hq11=>match u11,hq11 with | _,rfl=>have hq12:=rb hA3;wi hq12<|oB oI 6 Q Q Q fun u12 h10 _ h11=>fun hq12=>gW 4 h11 h10 Q Q Q Q Q<|match u12,hq12 with | _,rfl=>have hq13:=rb hA4;wi hq13<|c1 Q (fun h=>q8 (h.o 1 Q) (h.o 2 Q) (h.o 3 Q) (h.o 4 Q)) fun u13 s33=>fun hq13=>match u13,hq13 with | _,rfl=>sF Q<|N8 4 3 Q<|fD Q Q<|rI oI 9 [] h10 () Q Q Q Q Q Q Q<|gP (p:=(x36.2.1,x36.2.2,x30,x38.1)) (s33.1,s33.2.1,s33.2.2.1,s33.2.2.2) [0,1,2,3,4,5,12,13,14,15,8,16,7] hG1 Q)) fun⟨x31,x32,x33,x34⟩ ⟨s24,s25,s26,s27⟩=>e7 (p:=(x8,x31,x32,x34)) (s9,s24,s25,s26,s27) [11,0,6,7,8,9,5,12] Q Q)<|dL 0 4 (fun(p:Int×Int×Int×Int×Mem×Mem)=>DE c x8 x9 p.1 p.2.1 p.2.2.1 p.2.2.2.1 p.2.2.2.2.1 p.2.2.2.2.2) [0,4,6,7,8] (fun(p:Int×Int×Int×Int×Mem×Mem) (u:AC×AC×AC×AC)=>[(11,.p 3 0),(12,I p.1),(13,I p.2.1)]) [6,7] (fun p u=>[.box 0 [.h s1 c.b.length,I p.2.2.1,I p.2.2.2.1],ow s10 (p.2.2.2.2.1.aB.Bytes:List Int),ow s11 (p.2.2.2.2.1.aB.Class:List Int),ow s12 (p.2.2.2.2.1.aA.Global:List aD),ow s13 (p.2.2.2.2.1.aA.aR:List aD),.box 2 [.h s10 p.2.2.2.2.1.aB.Bytes.length,.h s11 p.2.2.2.2.1.aB.Class.length,.h s12 p.2.2.2.2.1.aA.Global.length,.h s13 p.2.2.2.2.1.aA.aR.length],ow u.1 (p.2.2.2.2.2.aB.Bytes:List Int),ow u.2.1 (p.2.2.2.2.2.aB.Class:List Int),ow u.2.2.1 (p.2.2.2.2.2.aA.Global:List aD),ow u.2.2.2 (p.2.2.2.2.2.aA.aR:List aD),.box 3 [.h u.1 p.2.2.2.2.2.aB.Bytes.length,.h u.2.1 p.2.2.2.2.2.aB.Class.length,.h u.2.2.1 p.2.2.2.2.2.aA.Global.length,.h u.2.2.2 p.2.2.2.2.2.aA.aR.length]]) Q (eM aG [5,7] Q<|fun hG1=>bd hG1 fun x53 hA9 hG1=>bd hG1 fun x54 hA10 hG1=>bd hG1 fun x55 hA11 hG1=>cT Q Q (have hq28:=rb hA9;wi hq28<|bP 0 0 0 3 [] Q Q Q Q Q (fun h=>aH (c:=(⟨c.b,x28,x29⟩:aL)) (h.a h1)) fun u28 _=>fun hq28=>match u28,hq28 with | _,rfl=>cT Q Q (have hq29:=rb hA10;wi hq29<|bP 0 0 0 3 [] Q Q Q Q Q (fun h=>aH (c:=(⟨c.b,x53.2.1,x53.2.2⟩:aL)) (h.a h1)) fun u29 _=>fun hq29=>match u29,hq29 with | _,rfl=>cT Q Q (have hq30:=rb hA11;wi hq30<|c1 Q (fun h=>oW (h.o 1 Q) (h.o 2 Q) (h.o 3 Q) (h.o 4 Q)) fun u30 s51=>fun hq30=>match u30,hq30 with | _,rfl=>wi hG1<|e7 (p:=(x55.2.1,x55.2.2,x54.2.1,x54.2.2,x30,x55.1)) (s51.1,s51.2.1,s51.2.2.1,s51.2.2.2) [0,1,2,3,4,5,8,9,10,11,12,6,7] Q Q) (have hq31:=rb hA11;wi hq31<|c1 Q (fun h=>oW (h.o 1 Q) (h.o 2 Q) (h.o 3 Q) (h.o 4 Q)) fun u31 s52=>fun hq31=>match u31,hq31 with | _,rfl=>wi hG1<|e7 (p:=(x55.2.1,x55.2.2,x54.2.1,x54.2.2,x30,x55.1)) (s52.1,s52.2.1,s52.2.2.1,s52.2.2.2) [0,1,2,3,4,5,9,10,11,12,8,6,7] Q Q)) (have hq32:=rb hA10;wi hq32<|bP 0 0 0 3 [] Q Q Q Q Q (fun h=>aH (c:=(⟨c.b,x53.2.1,x53.2.2⟩:aL)) (h.a h1)) fun u32 _=>fun hq32=>match u32,hq32 with | _,rfl=>have hq33:=rb hA11;wi hq33<|c1 Q (fun h=>oW (h.o 1 Q) (h.o 2 Q) (h.o 3 Q) (h.o 4 Q)) fun u33 s53=>fun hq33=>match u33,hq33 with | _,rfl=>wi hG1<|e7 (p:=(x55.2.1,x55.2.2,x54.2.1,x54.2.2,x30,x55.1)) (s53.1,s53.2.1,s53.2.2.1,s53.2.2.2) [0,1,2,3,4,5,9,10,11,12,8,6,7] Q Q)) (have hq34:=rb hA9;wi hq34<|bP 0 0 0 3 [] Q Q Q Q Q (fun h=>aH (c:=(⟨c.b,x28,x29⟩:aL)) (h.a h1)) fun u34 _=>fun hq34=>match u34,hq34 with | _,rfl=>have hq35:=rb hA10;wi hq35<|bP 0 0 0 3 [] Q Q Q Q Q (fun h=>aH (c:=(⟨c.b,x53.2.1,x53.2.2⟩:aL)) (h.a h1)) fun u35 _=>fun hq35=>match u35,hq35 with | _,rfl=>have hq36:=rb hA11;wi hq36<|c1 Q (fun h=>oW (h.o 1 Q) (h.o 2 Q) (h.o 3 Q) (h.o 4 Q)) fun u36 s54=>fun hq36=>match u36,hq36 with | _,rfl=>wi hG1<|e7 (p:=(x55.2.1,x55.2.2,x54.2.1,x54.2.2,x30,x55.1)) (s54.1,s54.2.1,s54.2.2.1,s54.2.2.2) [0,1,2,3,4,5,9,10,11,12,8,6,7] Q Q)) fun⟨x39,x40,x41,x42,x43,x44⟩ ⟨s34,s35,s36,s37⟩=>bD [60] Q Q (fun hG1=>ZU Q aS Q Q Q Q fun s38=>ap 11 aS Q Q Q Q Q Q Q (fun h=>(h.o 13 Q)) Q Q hG1 fun hG1 s39=>wi hG1<|dL 0 5 (fun(p:Int×Int×Mem×Mem)=>DD x8 x9 x39 p.1 p.2.1 p.2.2.1 p.2.2.2) [0,4,6,7,8] (fun(p:Int×Int×Mem×Mem) (u:AC×AC×AC×AC)=>[(14,.p 4 0)]) [11,12] (fun p u=>[.box 0 [.h s1 c.b.length,I p.1,I p.2.1],ow s34 (p.2.2.1.aB.Bytes:List Int),ow s35 (p.2.2.1.aB.Class:List Int),ow s36 (p.2.2.1.aA.Global:List aD),ow s37 (p.2.2.1.aA.aR:List aD),.box 2 [.h s34 p.2.2.1.aB.Bytes.length,.h s35 p.2.2.1.aB.Class.length,.h s36 p.2.2.1.aA.Global.length,.h s37 p.2.2.1.aA.aR.length],ow u.1 (p.2.2.2.aB.Bytes:List Int),ow u.2.1 (p.2.2.2.aB.Class:List Int),ow u.2.2.1 (p.2.2.2.aA.Global:List aD),ow u.2.2.2 (p.2.2.2.aA.aR:List aD),.box 4 [.h u.1 p.2.2.2.aB.Bytes.length,.h u.2.1 p.2.2.2.aB.Class.length,.h u.2.2.1 p.2.2.2.aA.Global.length,.h u.2.2.2 p.2.2.2.aA.aR.length]]) Q (eM aG [5,10,12] Q<|fun hG1=>bd hG1 fun x49 hA5 hG1=>bd hG1 fun x50 hA6 hG1=>bd hG1 fun x51 hA7 hG1=>bd hG1 fun x52 hA8 hG1=>cT Q Q (have hq14:=rb hA5;wi hq14<|bP 0 0 0 3 [] Q Q Q Q Q (fun h=>aH (c:=(⟨c.b,x41,x42⟩:aL)) (h.a h1)) fun u14 _=>fun hq14=>match u14,hq14 with | _,rfl=>cT Q Q (have hq15:=rb hA6;wi hq15<|bP 0 0 0 3 [] Q Q Q Q Q (fun h=>aH (c:=(⟨c.b,x49.2.1,x49.2.2⟩:aL)) (h.a h1)) fun u15 _=>fun hq15=>match u15,hq15 with | _,rfl=>cT Q Q (have hq16:=rb hA7;wi hq16<|bP 0 0 0 3 [] Q Q Q Q Q (fun h=>aH (c:=(⟨c.b,x50.2.1,x50.2.2⟩:aL)) (h.a h1)) fun u16 _=>fun hq16=>match u16,hq16 with | _,rfl=>cT Q Q (have hq17:=rb hA8;wi hq17<|c1 Q (fun h=>iL (h.o 6 Q) (h.o 7 Q) (h.o 8 Q) (h.o 9 Q)) fun u17 s45=>fun hq17=>match u17,hq17 with | _,rfl=>wi hG1<|e7 (p:=(x51.2.1,x51.2.2,x44,x52.1)) (s45.1,s45.2.1,s45.2.2.1,s45.2.2.2) [0,6,7,8,9,5,14,15,16,17,18,11,12] Q Q) (have hq18:=rb hA8;wi hq18<|c1 Q (fun h=>iL (h.o 6 Q) (h.o 7 Q) (h.o 8 Q) (h.o 9 Q)) fun u18 s46=>fun hq18=>match u18,hq18 with | _,rfl=>wi hG1<|e7 (p:=(x51.2.1,x51.2.2,x44,x52.1)) (s46.1,s46.2.1,s46.2.2.1,s46.2.2.2) [0,6,7,8,9,5,15,16,17,18,14,11,12] Q Q)) (have hq19:=rb hA7;wi hq19<|bP 0 0 0 3 [] Q Q Q Q Q (fun h=>aH (c:=(⟨c.b,x50.2.1,x50.2.2⟩:aL)) (h.a h1)) fun u19 _=>fun hq19=>match u19,hq19 with | _,rfl=>have hq20:=rb hA8;wi hq20<|c1 Q (fun h=>iL (h.o 6 Q) (h.o 7 Q) (h.o 8 Q) (h.o 9 Q)) fun u20 s47=>fun hq20=>match u20,hq20 with | _,rfl=>wi hG1<|e7 (p:=(x51.2.1,x51.2.2,x44,x52.1)) (s47.1,s47.2.1,s47.2.2.1,s47.2.2.2) [0,6,7,8,9,5,15,16,17,18,14,11,12] Q Q)) (have hq21:=rb hA6;wi hq21<|bP 0 0 0 3 [] Q Q Q Q Q (fun h=>aH (c:=(⟨c.b,x49.2.1,x49.2.2⟩:aL)) (h.a h1)) fun u21 _=>fun hq21=>match u21,hq21 with | _,rfl=>have hq22:=rb hA7;wi hq22<|bP 0 0 0 3 [] Q Q Q Q Q (fun h=>aH (c:=(⟨c.b,x50.2.1,x50.2.2⟩:aL)) (h.a h1)) fun u22 _=>fun hq22=>match u22,hq22 with | _,rfl=>have hq23:=rb hA8;wi hq23<|c1 Q (fun h=>iL (h.o 6 Q) (h.o 7 Q) (h.o 8 Q) (h.o 9 Q)) fun u23 s48=>fun hq23=>match u23,hq23 with | _,rfl=>wi hG1<|e7 (p:=(x51.2.1,x51.2.2,x44,x52.1)) (s48.1,s48.2.1,s48.2.2.1,s48.2.2.2) [0,6,7,8,9,5,15,16,17,18,14,11,12] Q Q)) (have hq24:=rb hA5;wi hq24<|bP 0 0 0 3 [] Q Q Q Q Q (fun h=>aH (c:=(⟨c.b,x41,x42⟩:aL)) (h.a h1)) fun u24 _=>fun hq24=>match u24,hq24 with | _,rfl=>have hq25:=rb hA6;wi hq25<|bP 0 0 0 3 [] Q Q Q Q Q (fun h=>aH (c:=(⟨c.b,x49.2.1,x49.2.2⟩:aL)) (h.a h1)) fun u25 _=>fun hq25=>match u25,hq25 with | _,rfl=>have hq26:=rb hA7;wi hq26<|bP 0 0 0 3 [] Q Q Q Q Q (fun h=>aH (c:=(⟨c.b,x50.2.1,x50.2.2⟩:aL)) (h.a h1)) fun u26 _=>fun hq26=>match u26,hq26 with | _,rfl=>have hq27:=rb hA8;wi hq27<|c1 Q (fun h=>iL (h.o 6 Q) (h.o 7 Q) (h.o 8 Q) (h.o 9 Q)) fun u27 s49=>fun hq27=>match u27,hq27 with | _,rfl=>wi hG1<|e7 (p:=(x51.2.1,x51.2.2,x44,x52.1)) (s49.1,s49.2.1,s49.2.2.1,s49.2.2.2) [0,6,7,8,9,5,15,16,17,18,14,11,12] Q Q)) fun⟨x45,x46,x47,x48⟩ ⟨s40,s41,s42,s43⟩=>e7 (p:=(x8++([x39]),x45,x46,x48)) (s39,s40,s41,s42,s43) [11,0,6,7,8,9,5,12] Q Q)<|e7 (p:=(x8,x41,x42,x44)) (s9,s34,s35,s36,s37) [11,0,6,7,8,9,5,12] Q Q) fun⟨x23,x24,x25,x26⟩ ⟨s19,s20,s21,s22,s23⟩=>RK (s19,s20,s21,s22,s23) [0,1,2,3,4,5,6,7] Q)<|T8 (s9,s10,s11,s12,s13) [0,1,2,3,4,5,6,7] Q) fun⟨x13,x14,x15,x16⟩ ⟨s14,s15,s16,s17,s18⟩=>dL 0 3 (fun(p:Int×Int×Int×Mem)=>DB p.1 p.2.1 p.2.2.1 p.2.2.2) [0,4] (fun(p:Int×Int×Int×Mem) (_:Unit)=>[(5,I p.1)]) [] (fun p _=>[.box 0 [.h s1 c.b.length,I p.2.1,I p.2.2.1],ow s15 (p.2.2.2.aB.Bytes:List Int),ow s16 (p.2.2.2.aB.Class:List Int),ow s17 (p.2.2.2.aA.Global:List aD),ow s18 (p.2.2.2.aA.aR:List aD),.box 1 [.h s15 p.2.2.2.aB.Bytes.length,.h s16 p.2.2.2.aB.Class.length,.h s17 p.2.2.2.aA.Global.length,.h s18 p.2.2.2.aA.aR.length]]) Q (eM aG [6] Q<|bP 1 0 0 3 [] Q Q Q Q Q (fun h=>aH (c:=(⟨c.b,x14,x15⟩:aL)) (h.a h1)) fun x21 _=>oB oI 0 Q Q Q fun x22 h2 _ h3=>fun hF=>gW 3 h3 h2 Q Q Q Q Q<|cT Q Q (sF Q<|rI oI 8 [] h2 () Q Q Q Q Q Q Q<|gP (p:=(x22,x21.2.1,x21.2.2,x16)) () [1,2,3,4,5,7] hF Q) (sF Q<|rI oI 8 [] h2 () Q Q Q Q Q Q Q<|gP (p:=(x22,x21.2.1,x21.2.2,x16)) () [1,2,3,4,5,7] hF Q)) fun⟨x17,x18,x19,x20⟩ _=>eA (s15,s16,s17,s18) [0,1,2,3,4] Q Q
theorem HX{h:aB}{c:Int}{s1 s2:AC}(h1:bE κ s1 h.Bytes)(h2:bE κ s2 h.Class):VS Tryz.prog κ 448 (HI h c) [.g [.h s1 h.Bytes.length,.h s2 h.Class.length],I c] [] [] (fun r (y:AC×AC×AC)=>.t [.g [.h y.1 r.1.Bytes.length,.h y.2.1 r.1.Class.length],.h y.2.2 r.2.length]) (fun r y=>[ow y.1 r.1.Bytes,ow y.2.1 r.1.Class,ow y.2.2 r.2]):=
 cE tok Tryz.call448 Tryz.func448 Tryz.results448 Q Q<|c1 Q (fun h=>FP (h.a h1) (h.a h2)) fun x1 s3=>cW 0 3 (zQ c x1) [1,4,6] 18 [1,2,3,4] Q (c0 Q (fun h=>MZ (h.a h1) (h.a h2)) fun x4=>dR [13,14] Q Q (bU [1,2,3,4] Q Q)<|c0 Q (fun _=>aY) fun x5=>bU [1,2,3,4] Q Q) fun x2=>bD [18] Q Q (fun hF=>RV (α:=Int) aS Q Q Q Q fun s4=>wi hF<|eA (s3.1,s3.2,s4) [1,2,4] Q Q)<|pW [1,2] Q Q Q Q (fun _=>KO) fun x3 s5=>eA (s5.1,s5.2.1,s5.2.2) [4,5,6] Q Q
theorem WM{h:aB}{slot:Int}{s1 s2:AC}(h1:bE κ s1 h.Bytes)(h2:bE κ s2 h.Class):V0 Tryz.prog κ 455 (HJ h slot) [.g [.h s1 h.Bytes.length,.h s2 h.Class.length],I slot] I:=
 cE tok Tryz.call455 Tryz.func455 Tryz.results455 Q Q<|c0 Q (fun h=>KL (h.a h1) (h.a h2)) fun x1=>bD [7] Q Q (cB Q Q)<|c0 Q (fun h=>iK (h.a h1) (h.a h2)) fun x2=>cB Q Q
theorem jS{h:aB}{slot gen:Int}{s1 s2:AC}(h1:bE κ s1 h.Bytes)(h2:bE κ s2 h.Class):VS Tryz.prog κ 449 (ET h slot gen) [.g [.h s1 h.Bytes.length,.h s2 h.Class.length],I slot,I gen] [] [] (fun r (y:AC×AC)=>.t [.g [.h y.1 r.1.Bytes.length,.h y.2 r.1.Class.length],.b r.2]) (fun r y=>[ow y.1 r.1.Bytes,ow y.2 r.1.Class]):=
 cE tok Tryz.call449 Tryz.func449 Tryz.results449 Q Q<|c1 Q (fun h=>FP (h.a h1) (h.a h2)) fun x1 s3=>cW 0 3 (xB h slot gen x1) [1,2,3,6,8] 19 [0,1,2,3,4] Q (c0 Q (fun h=>WM (h.a h1) (h.a h2)) fun x7=>dR [14,15] Q Q (bU [0,1,2,3,4] Q Q)<|c0 Q (fun _=>aY) fun x8=>bU [0,1,2,3,4] Q Q) fun x2=>bD [19] Q Q (eA (s3.1,s3.2) [2,3] Q Q)<|dL 0 3 (KA x1) [6,8] (fun(x3:(List Int)) (s4:AC)=>[]) [1,3] (fun x3 s4=>[ow s4 (x3:List Int),.box 2 [.h s4 x3.length,.h s3.2 x1.Class.length]]) Q (eM aG [0,1] Q<|fun hF=>bd hF fun x4 hA1 hF=>bd hF fun x5 hA2 hF=>bd hF fun x6 hA3 hF=>cT Q Q (have hq1:=rb hA1;wi hq1<|c0 Q (fun h=>iK (h.a h1) (h.a h2)) fun u1=>fun hq1=>match u1,hq1 with | _,rfl=>have hq2:=rb hA2;wi hq2<|c0 Q (fun _=>gC) fun u2=>fun hq2=>match u2,hq2 with | _,rfl=>have hq3:=rb hA3;wi hq3<|pW [2] Q Q Q Q (fun _=>gD) fun u3 s6=>fun hq3=>match u3,hq3 with | _,rfl=>wi hF<|e7 (p:=(x6)) s6 [5,4,1,3] Q Q) (have hq4:=rb hA1;wi hq4<|c0 Q (fun h=>iK (h.a h1) (h.a h2)) fun u4=>fun hq4=>match u4,hq4 with | _,rfl=>cT Q Q (have hq5:=rb hA2;wi hq5<|c0 Q (fun _=>gC) fun u5=>fun hq5=>match u5,hq5 with | _,rfl=>have hq6:=rb hA3;wi hq6<|pW [2] Q Q Q Q (fun _=>gD) fun u6 s7=>fun hq6=>match u6,hq6 with | _,rfl=>wi hF<|e7 (p:=(x6)) s7 [5,4,1,3] Q Q) (have hq7:=rb hA2;wi hq7<|c0 Q (fun _=>gC) fun u7=>fun hq7=>match u7,hq7 with | _,rfl=>have hq8:=rb hA3;wi hq8<|pW [2] Q Q Q Q (fun _=>gD) fun u8 s8=>fun hq8=>match u8,hq8 with | _,rfl=>wi hF<|e7 (p:=(x6)) s8 [5,4,1,3] Q Q))) fun x3 s4=>eA (s4,s3.2) [0,3] Q Q
theorem YV{c:aL}{s1:AC}{b0:Nat×Nat}(h1:bE κ s1 c.b):VS Tryz.prog κ 417 (EU c) [.p 0 0] [b0] [.box 0 [.h s1 c.b.length,I c.i,I c.h]] (fun(r:aB×(Int×Int)) (y:AC×AC)=>.g [.h y.1 r.1.Bytes.length,.h y.2 r.1.Class.length]) (fun(r:aB×(Int×Int)) (y:AC×AC)=>[.box 0 [.h s1 c.b.length,I r.2.1,I r.2.2],ow y.1 r.1.Bytes,ow y.2 r.1.Class]):=
 cE tok Tryz.call417 Tryz.func417 Tryz.results417 Q Q<|c1 Q (fun _=>KU) fun x1 s2=>bP 0 0 0 3 [] Q Q Q Q Q (fun h=>aH (h.a h1)) fun x2 _=>LX (s2.1,s2.2) [0,2,3] (fun(p:Int×Int×Int×(List Int)×(List Int)) (u:AC×AC)=>[(4,I p.1)]) [0,2,3,4,1] [1] (fun p u=>[.box 0 [.h s1 c.b.length,I p.2.1,I p.2.2.1],ow u.1 (p.2.2.2.1:List Int),ow u.2 (p.2.2.2.2:List Int),.box 2 [.h u.1 p.2.2.2.1.length,.h u.2 p.2.2.2.2.length]]) id [0,2,3] (fun(p:Int×Int×(List Int)×(List Int)) (u:AC×AC)=>[]) [1] (fun p u=>[.box 0 [.h s1 c.b.length,I p.1,I p.2.1],ow u.1 (p.2.2.1:List Int),ow u.2 (p.2.2.2:List Int),.box 2 [.h u.1 p.2.2.1.length,.h u.2 p.2.2.2.length]]) Q Q (fun hF1 ⟨x8,x9,x10,x11,x12⟩ ⟨s5,s6⟩ hr1=>bD [14] Q Q (dL 0 4 (fun(p:(List Int)×Int×Int×(List Int)×(List Int))=>DG c x8 p.1 p.2.1 p.2.2.1 p.2.2.2.1 p.2.2.2.2) [0,2,3,4] (fun(p:(List Int)×Int×Int×(List Int)×(List Int)) (u:AC×AC×AC)=>[(5,.p 3 0),(6,.h u.1 p.1.length)]) [4,1,2,3] (fun p u=>[ow u.1 (p.1:List Int),.box 0 [.h s1 c.b.length,I p.2.1,I p.2.2.1],ow u.2.1 (p.2.2.2.1:List Int),ow u.2.2 (p.2.2.2.2:List Int),.box 3 [.h u.2.1 p.2.2.2.1.length,.h u.2.2 p.2.2.2.2.length]]) Q (eM aG [3,4] Q<|fun hG1=>bd hG1 fun x48 hA3 hG1=>bd hG1 fun x49 hA4 hG1=>cT Q Q (have hq14:=rb hA3;wi hq14<|bP 0 0 0 3 [] Q Q Q Q Q (fun h=>aH (c:=(⟨c.b,x9,x10⟩:aL)) (h.a h1)) fun u14 _=>fun hq14=>match u14,hq14 with | _,rfl=>cT Q Q (have hq15:=rb hA4;wi hq15<|c1 Q (fun h=>HX (h:=(⟨x11,x12⟩:aB)) (h.o 1 Q) (h.o 2 Q)) fun u15 s32=>fun hq15=>match u15,hq15 with | _,rfl=>wi hG1<|e7 (p:=(x49.2,x48.2.1,x48.2.2,x49.1.Bytes,x49.1.Class)) (s32.2.2,s32.1,s32.2.1) [7,0,5,6,8,4,1,2,3] Q Q) (have hq16:=rb hA4;wi hq16<|c1 Q (fun h=>HX (h:=(⟨x11,x12⟩:aB)) (h.o 1 Q) (h.o 2 Q)) fun u16 s33=>fun hq16=>match u16,hq16 with | _,rfl=>wi hG1<|e7 (p:=(x49.2,x48.2.1,x48.2.2,x49.1.Bytes,x49.1.Class)) (s33.2.2,s33.1,s33.2.1) [8,0,6,7,5,4,1,2,3] Q Q)) (have hq17:=rb hA3;wi hq17<|bP 0 0 0 3 [] Q Q Q Q Q (fun h=>aH (c:=(⟨c.b,x9,x10⟩:aL)) (h.a h1)) fun u17 _=>fun hq17=>match u17,hq17 with | _,rfl=>have hq18:=rb hA4;wi hq18<|c1 Q (fun h=>HX (h:=(⟨x11,x12⟩:aB)) (h.o 1 Q) (h.o 2 Q)) fun u18 s34=>fun hq18=>match u18,hq18 with | _,rfl=>wi hG1<|e7 (p:=(x49.2,x48.2.1,x48.2.2,x49.1.Bytes,x49.1.Class)) (s34.2.2,s34.1,s34.2.1) [8,0,6,7,5,4,1,2,3] Q Q)) fun⟨x17,x18,x19,x20,x21⟩ ⟨s9,s10,s11⟩=>LX (s10,s11) [0,2,3,4,6] (fun(p:Int×Int×Int×(List Int)×(List Int)) (u:AC×AC)=>[(7,I p.1)]) [1,2,3,8,0,5] [0,5] (fun p u=>[.box 0 [.h s1 c.b.length,I p.2.1,I p.2.2.1],ow u.1 (p.2.2.2.1:List Int),ow u.2 (p.2.2.2.2:List Int),.box 2 [.h u.1 p.2.2.2.1.length,.h u.2 p.2.2.2.2.length]]) id [0,2,3,4] (fun(p:Int×Int×(List Int)×(List Int)) (u:AC×AC)=>[]) [5] (fun p u=>[.box 0 [.h s1 c.b.length,I p.1,I p.2.1],ow u.1 (p.2.2.1:List Int),ow u.2 (p.2.2.2:List Int),.box 2 [.h u.1 p.2.2.1.length,.h u.2 p.2.2.2.length]]) Q Q (fun hF3 ⟨x27,x28,x29,x30,x31⟩ ⟨s14,s15⟩ hr3=>bD [28] Q Q (dL 2 4 (fun(p:Int×Int×(List Int)×(List Int))=>xC x27 p.1 p.2.1 p.2.2.1 p.2.2.2) [0,2,3,4,6,7] (fun(p:Int×Int×(List Int)×(List Int)) (u:AC×AC)=>[]) [4,5] (fun p u=>[.box 0 [.h s1 c.b.length,I p.1,I p.2.1],ow u.1 (p.2.2.1:List Int),ow u.2 (p.2.2.2:List Int),.box 2 [.h u.1 p.2.2.1.length,.h u.2 p.2.2.2.length]]) Q (bP 0 0 0 3 [] Q Q Q Q Q (fun h=>pG (c:=(⟨c.b,x28,x29⟩:aL)) (h.a h1)) fun x40 _=>bD [32] Q Q (dL 0 6 (fun(p:Int×Int×(List Int)×(List Int))=>DF x27 p.1 p.2.1 p.2.2.1 p.2.2.2) [0,2,3,4,6,7] (fun(p:Int×Int×(List Int)×(List Int)) (u:AC×AC)=>[(8,.p 5 0)]) [4,5,1,2,3] (fun p u=>[.box 0 [.h s1 c.b.length,I p.1,I p.2.1],ow u.1 (p.2.2.1:List Int),ow u.2 (p.2.2.2:List Int),.box 5 [.h u.1 p.2.2.1.length,.h u.2 p.2.2.2.length]]) Q (eM aG [3,5] Q<|oB oI 4 Q Q Q fun x45 h2 _ h3=>fun hG3=>gW 4 h3 h2 Q Q Q Q Q<|bd hG3 fun x46 hA1 hG3=>bd hG3 fun x47 hA2 hG3=>X0 Q Q (cT Q Q (have hq1:=rb hA1;wi hq1<|bP 0 0 0 3 [] Q Q Q Q Q (fun h=>aH (c:=(⟨c.b,x40.2.1,x40.2.2⟩:aL)) (h.a h1)) fun u1 _=>fun hq1=>match u1,hq1 with | _,rfl=>cT Q Q (have hq2:=rb hA2;wi hq2<|c1 Q (fun h=>jS (h:=(⟨x30,x31⟩:aB)) (h.o 1 Q) (h.o 2 Q)) fun u2 s23=>fun hq2=>match u2,hq2 with | _,rfl=>sF Q<|rI oI 6 [] h2 () Q Q Q Q Q Q Q<|gP (p:=(x46.2.1,x46.2.2,x47.1.Bytes,x47.1.Class)) (s23.1,s23.2) [0,9,10,11,12,5,1,2,3] hG3 Q) (have hq3:=rb hA2;wi hq3<|c1 Q (fun h=>jS (h:=(⟨x30,x31⟩:aB)) (h.o 1 Q) (h.o 2 Q)) fun u3 s24=>fun hq3=>match u3,hq3 with | _,rfl=>sF Q<|rI oI 6 [] h2 () Q Q Q Q Q Q Q<|gP (p:=(x46.2.1,x46.2.2,x47.1.Bytes,x47.1.Class)) (s24.1,s24.2) [0,10,11,9,12,5,1,2,3] hG3 Q)) (have hq4:=rb hA1;wi hq4<|bP 0 0 0 3 [] Q Q Q Q Q (fun h=>aH (c:=(⟨c.b,x40.2.1,x40.2.2⟩:aL)) (h.a h1)) fun u4 _=>fun hq4=>match u4,hq4 with | _,rfl=>have hq5:=rb hA2;wi hq5<|c1 Q (fun h=>jS (h:=(⟨x30,x31⟩:aB)) (h.o 1 Q) (h.o 2 Q)) fun u5 s25=>fun hq5=>match u5,hq5 with | _,rfl=>sF Q<|rI oI 6 [] h2 () Q Q Q Q Q Q Q<|gP (p:=(x46.2.1,x46.2.2,x47.1.Bytes,x47.1.Class)) (s25.1,s25.2) [0,10,11,9,12,5,1,2,3] hG3 Q)) (have hq6:=rb hA1;wi hq6<|bP 0 0 0 3 [] Q Q Q Q Q (fun h=>aH (c:=(⟨c.b,x40.2.1,x40.2.2⟩:aL)) (h.a h1)) fun u6 _=>fun hq6=>match u6,hq6 with | _,rfl=>cT Q Q (cT Q Q (have hq7:=rb hA2;wi hq7<|c1 Q (fun h=>jS (h:=(⟨x30,x31⟩:aB)) (h.o 1 Q) (h.o 2 Q)) fun u7 s26=>fun hq7=>match u7,hq7 with | _,rfl=>sF Q<|rI oI 6 [] h2 () Q Q Q Q Q Q Q<|gP (p:=(x46.2.1,x46.2.2,x47.1.Bytes,x47.1.Class)) (s26.1,s26.2) [0,9,10,11,12,5,1,2,3] hG3 Q) (have hq8:=rb hA2;wi hq8<|c1 Q (fun h=>jS (h:=(⟨x30,x31⟩:aB)) (h.o 1 Q) (h.o 2 Q)) fun u8 s27=>fun hq8=>match u8,hq8 with | _,rfl=>sF Q<|rI oI 6 [] h2 () Q Q Q Q Q Q Q<|gP (p:=(x46.2.1,x46.2.2,x47.1.Bytes,x47.1.Class)) (s27.1,s27.2) [0,10,11,9,12,5,1,2,3] hG3 Q)) (have hq9:=rb hA2;wi hq9<|c1 Q (fun h=>jS (h:=(⟨x30,x31⟩:aB)) (h.o 1 Q) (h.o 2 Q)) fun u9 s28=>fun hq9=>match u9,hq9 with | _,rfl=>sF Q<|rI oI 6 [] h2 () Q Q Q Q Q Q Q<|gP (p:=(x46.2.1,x46.2.2,x47.1.Bytes,x47.1.Class)) (s28.1,s28.2) [0,10,11,9,12,5,1,2,3] hG3 Q)) (cT Q Q (have hq10:=rb hA1;wi hq10<|bP 0 0 0 3 [] Q Q Q Q Q (fun h=>aH (c:=(⟨c.b,x40.2.1,x40.2.2⟩:aL)) (h.a h1)) fun u10 _=>fun hq10=>match u10,hq10 with | _,rfl=>have hq11:=rb hA2;wi hq11<|c1 Q (fun h=>jS (h:=(⟨x30,x31⟩:aB)) (h.o 1 Q) (h.o 2 Q)) fun u11 s29=>fun hq11=>match u11,hq11 with | _,rfl=>sF Q<|rI oI 6 [] h2 () Q Q Q Q Q Q Q<|gP (p:=(x46.2.1,x46.2.2,x47.1.Bytes,x47.1.Class)) (s29.1,s29.2) [0,10,11,9,12,5,1,2,3] hG3 Q) (have hq12:=rb hA1;wi hq12<|bP 0 0 0 3 [] Q Q Q Q Q (fun h=>aH (c:=(⟨c.b,x40.2.1,x40.2.2⟩:aL)) (h.a h1)) fun u12 _=>fun hq12=>match u12,hq12 with | _,rfl=>have hq13:=rb hA2;wi hq13<|c1 Q (fun h=>jS (h:=(⟨x30,x31⟩:aB)) (h.o 1 Q) (h.o 2 Q)) fun u13 s30=>fun hq13=>match u13,hq13 with | _,rfl=>sF Q<|rI oI 6 [] h2 () Q Q Q Q Q Q Q<|gP (p:=(x46.2.1,x46.2.2,x47.1.Bytes,x47.1.Class)) (s30.1,s30.2) [0,10,11,9,12,5,1,2,3] hG3 Q))) fun⟨x41,x42,x43,x44⟩ ⟨s20,s21⟩=>e7 (p:=(x41,x42,x43,x44)) (s20,s21) [0,1,2,8,4,5] Q Q)<|e7 (p:=(x40.2.1,x40.2.2,x30,x31)) (s14,s15) [0,1,2,3,4,5] Q Q) fun⟨x36,x37,x38,x39⟩ ⟨s18,s19⟩=>RK (s18,s19) [0,1,2,3,4,5] Q)<|T8 (s14,s15) [0,1,2,3,5] Q) fun⟨x32,x33,x34,x35⟩ ⟨s16,s17⟩=>RK (s16,s17) [0,1,2,3,4] Q)<|T8 (s5,s6) [0,1,2,3,4] Q) fun⟨x13,x14,x15,x16⟩ ⟨s7,s8⟩=>eA (s7,s8) [0,1,2] Q Q
theorem aBH{c:aL}{s1:AC}{b0:Nat×Nat}(h1:bE κ s1 c.b):VS Tryz.prog κ 344 (HK c) [.p 0 0] [b0] [.box 0 [.h s1 c.b.length,I c.i,I c.h]] (fun(r:aB×(Int×Int)) (y:AC×AC)=>.g [.h y.1 r.1.Bytes.length,.h y.2 r.1.Class.length]) (fun(r:aB×(Int×Int)) (y:AC×AC)=>[.box 0 [.h s1 c.b.length,I r.2.1,I r.2.2],ow y.1 r.1.Bytes,ow y.2 r.1.Class]):=
 cE tok Tryz.call344 Tryz.func344 Tryz.results344 Q Q<|bP 0 0 0 3 [] Q Q Q Q Q (fun h=>YV (h.a h1)) fun x1 s2=>dL 1 3 (fun(p:Int×Int×(List Int)×(List Int))=>jQ p.1 p.2.1 p.2.2.1 p.2.2.2) [0,2,3] (fun(p:Int×Int×(List Int)×(List Int)) (u:AC×AC)=>[]) [1] (fun p u=>[.box 0 [.h s1 c.b.length,I p.1,I p.2.1],ow u.1 (p.2.2.1:List Int),ow u.2 (p.2.2.2:List Int),.box 2 [.h u.1 p.2.2.1.length,.h u.2 p.2.2.2.length]]) Q (bP 0 0 0 3 [] Q Q Q Q Q (fun h=>aH (c:=(⟨c.b,x1.2.1,x1.2.2⟩:aL)) (h.a h1)) fun x6 _=>bD [8,9] Q Q (dL 0 3 (fun(p:Int×Int×(List Int))=>FG x1 p.1 p.2.1 p.2.2) [0,2,3] (fun(p:Int×Int×(List Int)) (_:Unit)=>[]) [1,3] (fun p _=>[.box 0 [.h s1 c.b.length,I p.1,I p.2.1],ow (AC.sub s2.1 1 0) (p.2.2:List Int),.box 2 [.h (AC.sub s2.1 1 0) p.2.2.length,.h s2.2 x1.1.Class.length]]) Q (eM aG [1] Q<|fun hF=>bd hF fun x10 hA1 hF=>nd hF fun hA2 hF=>cT Q Q (have hq1:=rb hA1;wi hq1<|bP 0 0 0 3 [] Q Q Q Q Q (fun h=>aH (c:=(⟨c.b,x6.2.1,x6.2.2⟩:aL)) (h.a h1)) fun u1 _=>fun hq1=>match u1,hq1 with | _,rfl=>cpc 2 Q Q fun hc2=>have hq2:=rn hA2;U3 hc2 Q Q Q Q Q Q hq2 fun hq2 h3=>sF Q<|poR 2 0 x10.1.toNat Q Q h3 Q<|gP (p:=(x10.2.1,x10.2.2,(x1.1.Bytes.take x10.1.toNat).drop 0)) () [0,2,4,1,3] hF Q) (cT Q Q (have hq3:=rb hA1;wi hq3<|bP 0 0 0 3 [] Q Q Q Q Q (fun h=>aH (c:=(⟨c.b,x6.2.1,x6.2.2⟩:aL)) (h.a h1)) fun u2 _=>fun hq3=>match u2,hq3 with | _,rfl=>cpc 2 Q Q fun hc3=>have hq4:=rn hA2;U3 hc3 Q Q Q Q Q Q hq4 fun hq4 h4=>sF Q<|poR 2 0 x10.1.toNat Q Q h4 Q<|gP (p:=(x10.2.1,x10.2.2,(x1.1.Bytes.take x10.1.toNat).drop 0)) () [0,2,4,1,3] hF Q) (have hq5:=rb hA1;wi hq5<|bP 0 0 0 3 [] Q Q Q Q Q (fun h=>aH (c:=(⟨c.b,x6.2.1,x6.2.2⟩:aL)) (h.a h1)) fun u3 _=>fun hq5=>match u3,hq5 with | _,rfl=>cpc 2 Q Q fun hc4=>have hq6:=rn hA2;U3 hc4 Q Q Q Q Q Q hq6 fun hq6 h5=>sF Q<|poR 2 0 x10.1.toNat Q Q h5 Q<|gP (p:=(x10.2.1,x10.2.2,(x1.1.Bytes.take x10.1.toNat).drop 0)) () [0,2,4,1,3] hF Q))) fun⟨x7,x8,x9⟩ _=>e7 (p:=(x7,x8,x9,x1.1.Class)) ((AC.sub s2.1 1 0),s2.2) [0,1,4,2,3] Q Q)<|bD [19,20] Q Q (fun hF=>ZU Q aS Q Q Q Q fun s5=>ap 3 aS Q Q Q Q Q Q Q (fun h=>(h.o 5 Q)) Q Q hF fun hF s6=>wi hF<|e7 (p:=(x6.2.1,x6.2.2,x1.1.Bytes,x1.1.Class++([0]))) (s2.1,s6) [0,2,3,4,1] Q Q)<|bD [26,27] Q Q (dL 0 3 (fun(p:Int×Int×(List Int))=>FH x1 p.1 p.2.1 p.2.2) [0,2,3] (fun(p:Int×Int×(List Int)) (_:Unit)=>[]) [1,2] (fun p _=>[.box 0 [.h s1 c.b.length,I p.1,I p.2.1],ow s2.2 (p.2.2:List Int),.box 2 [.h s2.1 x1.1.Bytes.length,.h s2.2 p.2.2.length]]) Q (eM aG [1,4] Q<|fun hF=>bd hF fun x14 hA3 hF=>bd hF fun x15 hA4 hF=>bd hF fun x16 hA5 hF=>cT Q Q (have hq7:=rb hA3;wi hq7<|bP 0 0 0 3 [] Q Q Q Q Q (fun h=>aH (c:=(⟨c.b,x6.2.1,x6.2.2⟩:aL)) (h.a h1)) fun u4 _=>fun hq7=>match u4,hq7 with | _,rfl=>X2 oI () ([(-2),3,0,(-1)]:List Int) aS Q Q Q Q Q Q Q Q Q Q (fun _=>Q) fun s8=>have hq8:=rb hA4;wi hq8<|bP 0 0 0 3 [] Q Q Q Q Q (fun h=>cO (c:=(⟨c.b,x14.2.1,x14.2.2⟩:aL)) (h.a h1) (h.o 5 Q Q)) fun u5 _=>fun hq8=>match u5,hq8 with | _,rfl=>have hq9:=rb hA5;wi hq9<|oB oI 3 Q Q Q fun u6 h8 _ h9=>fun hq9=>gW 3 h9 h8 Q Q Q Q Q<|match u6,hq9 with | _,rfl=>sF Q<|yA oI 6 [] [29,32] x15.1 () Q Q Q Q Q Q Q Q<|D7 s2.2 List.length_set.symm [(5,1)] [(4,1)] Q Q Q<|fR Q Q<|gP (p:=(x15.2.1,x15.2.2,x1.1.Class.set x14.1.toNat x15.1)) () [0,9,4,1,2] hF Q) (X2 oI () ([(-2),3,0,(-1)]:List Int) aS Q Q Q Q Q Q Q Q Q Q (fun _=>Q) fun s9=>have hq10:=rb hA3;wi hq10<|bP 0 0 0 3 [] Q Q Q Q Q (fun h=>aH (c:=(⟨c.b,x6.2.1,x6.2.2⟩:aL)) (h.a h1)) fun u7 _=>fun hq10=>match u7,hq10 with | _,rfl=>have hq11:=rb hA4;wi hq11<|bP 0 0 0 3 [] Q Q Q Q Q (fun h=>cO (c:=(⟨c.b,x14.2.1,x14.2.2⟩:aL)) (h.a h1) (h.o 5 Q Q)) fun u8 _=>fun hq11=>match u8,hq11 with | _,rfl=>have hq12:=rb hA5;wi hq12<|oB oI 3 Q Q Q fun u9 h10 _ h11=>fun hq12=>gW 3 h11 h10 Q Q Q Q Q<|match u9,hq12 with | _,rfl=>sF Q<|yA oI 6 [] [29,32] x15.1 () Q Q Q Q Q Q Q Q<|D7 s2.2 List.length_set.symm [(5,1)] [(4,1)] Q Q Q<|fR Q Q<|gP (p:=(x15.2.1,x15.2.2,x1.1.Class.set x14.1.toNat x15.1)) () [0,9,4,1,2] hF Q)) fun⟨x11,x12,x13⟩ _=>e7 (p:=(x11,x12,x1.1.Bytes,x13)) (s2.1,s2.2) [0,4,1,2,3] Q Q)<|bD [39,40] Q Q (dL 0 3 (fun(p:Int×Int×(List Int))=>FI x1 p.1 p.2.1 p.2.2) [0,2,3] (fun(p:Int×Int×(List Int)) (_:Unit)=>[]) [1,3] (fun p _=>[.box 0 [.h s1 c.b.length,I p.1,I p.2.1],ow s2.1 (p.2.2:List Int),.box 2 [.h s2.1 p.2.2.length,.h s2.2 x1.1.Class.length]]) Q (eM aG [1,4] Q<|fun hF=>bd hF fun x20 hA6 hF=>bd hF fun x21 hA7 hF=>bd hF fun x22 hA8 hF=>cT Q Q (have hq13:=rb hA6;wi hq13<|bP 0 0 0 3 [] Q Q Q Q Q (fun h=>aH (c:=(⟨c.b,x6.2.1,x6.2.2⟩:aL)) (h.a h1)) fun u10 _=>fun hq13=>match u10,hq13 with | _,rfl=>X2 oI () ([(-1),256,171,1]:List Int) aS Q Q Q Q Q Q Q Q Q Q (fun _=>Q) fun s11=>have hq14:=rb hA7;wi hq14<|bP 0 0 0 3 [] Q Q Q Q Q (fun h=>cO (c:=(⟨c.b,x20.2.1,x20.2.2⟩:aL)) (h.a h1) (h.o 5 Q Q)) fun u11 _=>fun hq14=>match u11,hq14 with | _,rfl=>have hq15:=rb hA8;wi hq15<|oB oI 2 Q Q Q fun u12 h14 _ h15=>fun hq15=>gW 3 h15 h14 Q Q Q Q Q<|match u12,hq15 with | _,rfl=>sF Q<|yA oI 6 [] [42,45] x21.1 () Q Q Q Q Q Q Q Q<|D7 s2.1 List.length_set.symm [(5,0)] [(4,0)] Q Q Q<|fR Q Q<|gP (p:=(x21.2.1,x21.2.2,x1.1.Bytes.set x20.1.toNat x21.1)) () [0,9,4,1,3] hF Q) (X2 oI () ([(-1),256,171,1]:List Int) aS Q Q Q Q Q Q Q Q Q Q (fun _=>Q) fun s12=>have hq16:=rb hA6;wi hq16<|bP 0 0 0 3 [] Q Q Q Q Q (fun h=>aH (c:=(⟨c.b,x6.2.1,x6.2.2⟩:aL)) (h.a h1)) fun u13 _=>fun hq16=>match u13,hq16 with | _,rfl=>have hq17:=rb hA7;wi hq17<|bP 0 0 0 3 [] Q Q Q Q Q (fun h=>cO (c:=(⟨c.b,x20.2.1,x20.2.2⟩:aL)) (h.a h1) (h.o 5 Q Q)) fun u14 _=>fun hq17=>match u14,hq17 with | _,rfl=>have hq18:=rb hA8;wi hq18<|oB oI 2 Q Q Q fun u15 h16 _ h17=>fun hq18=>gW 3 h17 h16 Q Q Q Q Q<|match u15,hq18 with | _,rfl=>sF Q<|yA oI 6 [] [42,45] x21.1 () Q Q Q Q Q Q Q Q<|D7 s2.1 List.length_set.symm [(5,0)] [(4,0)] Q Q Q<|fR Q Q<|gP (p:=(x21.2.1,x21.2.2,x1.1.Bytes.set x20.1.toNat x21.1)) () [0,9,4,1,3] hF Q)) fun⟨x17,x18,x19⟩ _=>e7 (p:=(x17,x18,x19,x1.1.Class)) (s2.1,s2.2) [0,1,4,2,3] Q Q)<|bD [52,53] Q Q (eM aG [1,4] Q<|bP 0 0 0 3 [] Q Q Q Q Q (fun h=>aH (c:=(⟨c.b,x6.2.1,x6.2.2⟩:aL)) (h.a h1)) fun x23 _=>bP 0 0 0 3 [] Q Q Q Q Q (fun h=>aH (c:=(⟨c.b,x23.2.1,x23.2.2⟩:aL)) (h.a h1)) fun x24 _=>bP 0 0 0 3 [] Q Q Q Q Q (fun h=>aH (c:=(⟨c.b,x24.2.1,x24.2.2⟩:aL)) (h.a h1)) fun x25 _=>oB oI 2 Q Q Q fun x26 h18 _ h19=>fun hF=>gW 3 h19 h18 Q Q Q Q Q<|sF Q<|yA oI 5 [] [55] x25.1 () Q Q Q Q Q Q Q Q<|D7 s2.1 List.length_set.symm [(5,0)] [(4,0)] Q Q Q<|fR Q Q<|gP (p:=(x25.2.1,x25.2.2,x1.1.Bytes.set ((aX ((aX (x23.1 * 64))+x24.1)).toNat) x25.1,x1.1.Class)) (s2.1,s2.2) [0,8,3,4,1] hF Q)<|e7 (p:=(x6.2.1,x6.2.2,x1.1.Bytes,x1.1.Class)) (s2.1,s2.2) [0,2,3,4,1] Q Q) fun⟨x2,x3,x4,x5⟩ ⟨s3,s4⟩=>eA (s3,s4) [0,1,2] Q Q
theorem AS{l:aA}{w_ c slot:Int}{s1 s2:AC}(h1:bE κ s1 l.Global)(h2:bE κ s2 l.aR):VS Tryz.prog κ 450 (LZ l w_ c slot) [.g [.h s1 l.Global.length,.h s2 l.aR.length],I w_,I c,I slot] [] [] (fun r (y:AC×AC)=>.t [.g [.h y.1 r.1.Global.length,.h y.2 r.1.aR.length],.b r.2]) (fun r y=>[ow y.1 r.1.Global,ow y.2 r.1.aR]):=
 cE tok Tryz.call450 Tryz.func450 Tryz.results450 Q Q<|c1 Q (fun h=>zW (h.a h1) (h.a h2)) fun x1 s3=>cW 0 3 (r6 w_ c slot x1) [1,2,3,8,10] 32 [1,2,3,4] Q (c0 Q (fun h=>xI (h.a h1) (h.a h2)) fun x4=>dR [15,16] Q Q (bU [1,2,3,4] Q Q)<|c0 Q (fun _=>xK) fun x5=>dR [20,21,22] Q Q (bU [1,2,3,4] Q Q)<|c0 Q (fun _=>aY) fun x6=>dR [25,26,27] Q Q (bU [1,2,3,4] Q Q)<|c1 Q (fun h=>HO (h.a h1) (h.a h2)) fun x7 s5=>c0 Q (fun h=>CK (h.o 5 Q)) fun x8=>bU [1,2,3,4] Q Q) fun x2=>bD [32] Q Q (eA (s3.1,s3.2) [1,2] Q Q)<|pW [1,2] Q Q Q Q (fun _=>M3) fun x3 s4=>eA (s4.1,s4.2) [4,5] Q Q
theorem WN{c:aL}{s1:AC}{b0:Nat×Nat}(h1:bE κ s1 c.b):VS Tryz.prog κ 418 (CJ c) [.p 0 0] [b0] [.box 0 [.h s1 c.b.length,I c.i,I c.h]] (fun(r:aA×(Int×Int)) (y:AC×AC)=>.g [.h y.1 r.1.Global.length,.h y.2 r.1.aR.length]) (fun(r:aA×(Int×Int)) (y:AC×AC)=>[.box 0 [.h s1 c.b.length,I r.2.1,I r.2.2],ow y.1 r.1.Global,ow y.2 r.1.aR]):=
 cE tok Tryz.call418 Tryz.func418 Tryz.results418 Q Q<|c1 Q (fun _=>IY) fun x1 s2=>bP 0 0 0 3 [] Q Q Q Q Q (fun h=>aH (h.a h1)) fun x2 _=>LX (s2.1,s2.2) [0,2,3] (fun(p:Int×Int×Int×(List aD)×(List aD)) (u:AC×AC)=>[(4,I p.1)]) [0,2,3,4,1] [1] (fun p u=>[.box 0 [.h s1 c.b.length,I p.2.1,I p.2.2.1],ow u.1 (p.2.2.2.1:List aD),ow u.2 (p.2.2.2.2:List aD),.box 2 [.h u.1 p.2.2.2.1.length,.h u.2 p.2.2.2.2.length]]) id [0,2,3] (fun(p:Int×Int×(List aD)×(List aD)) (u:AC×AC)=>[]) [1] (fun p u=>[.box 0 [.h s1 c.b.length,I p.1,I p.2.1],ow u.1 (p.2.2.1:List aD),ow u.2 (p.2.2.2:List aD),.box 2 [.h u.1 p.2.2.1.length,.h u.2 p.2.2.2.length]]) Q Q (fun hF1 ⟨x8,x9,x10,x11,x12⟩ ⟨s5,s6⟩ hr1=>bD [11] Q Q (dL 0 4 (fun(p:Int×Int×(List aD)×(List aD))=>BC x8 p.1 p.2.1 p.2.2.1 p.2.2.2) [0,2,3,4] (fun(p:Int×Int×(List aD)×(List aD)) (u:AC×AC)=>[(5,.p 3 0)]) [4,1,2,3] (fun p u=>[.box 0 [.h s1 c.b.length,I p.1,I p.2.1],ow u.1 (p.2.2.1:List aD),ow u.2 (p.2.2.2:List aD),.box 3 [.h u.1 p.2.2.1.length,.h u.2 p.2.2.2.length]]) Q (eM aG [3,4] Q<|fun hG1=>bd hG1 fun x21 hA1 hG1=>bd hG1 fun x22 hA2 hG1=>bd hG1 fun x23 hA3 hG1=>bd hG1 fun x24 hA4 hG1=>cT Q Q (have hq1:=rb hA1;wi hq1<|bP 0 0 0 3 [] Q Q Q Q Q (fun h=>aH (c:=(⟨c.b,x9,x10⟩:aL)) (h.a h1)) fun u1 _=>fun hq1=>match u1,hq1 with | _,rfl=>cT Q Q (have hq2:=rb hA2;wi hq2<|bP 0 0 0 3 [] Q Q Q Q Q (fun h=>aH (c:=(⟨c.b,x21.2.1,x21.2.2⟩:aL)) (h.a h1)) fun u2 _=>fun hq2=>match u2,hq2 with | _,rfl=>cT Q Q (have hq3:=rb hA3;wi hq3<|bP 0 0 0 3 [] Q Q Q Q Q (fun h=>aH (c:=(⟨c.b,x22.2.1,x22.2.2⟩:aL)) (h.a h1)) fun u3 _=>fun hq3=>match u3,hq3 with | _,rfl=>cT Q Q (have hq4:=rb hA4;wi hq4<|c1 Q (fun h=>AS (l:=(⟨x11,x12⟩:aA)) (h.o 1 Q) (h.o 2 Q)) fun u4 s12=>fun hq4=>match u4,hq4 with | _,rfl=>wi hG1<|e7 (p:=(x23.2.1,x23.2.2,x24.1.Global,x24.1.aR)) (s12.1,s12.2) [0,5,6,7,4,1,2,3] Q Q) (have hq5:=rb hA4;wi hq5<|c1 Q (fun h=>AS (l:=(⟨x11,x12⟩:aA)) (h.o 1 Q) (h.o 2 Q)) fun u5 s13=>fun hq5=>match u5,hq5 with | _,rfl=>wi hG1<|e7 (p:=(x23.2.1,x23.2.2,x24.1.Global,x24.1.aR)) (s13.1,s13.2) [0,6,7,5,4,1,2,3] Q Q)) (have hq6:=rb hA3;wi hq6<|bP 0 0 0 3 [] Q Q Q Q Q (fun h=>aH (c:=(⟨c.b,x22.2.1,x22.2.2⟩:aL)) (h.a h1)) fun u6 _=>fun hq6=>match u6,hq6 with | _,rfl=>have hq7:=rb hA4;wi hq7<|c1 Q (fun h=>AS (l:=(⟨x11,x12⟩:aA)) (h.o 1 Q) (h.o 2 Q)) fun u7 s14=>fun hq7=>match u7,hq7 with | _,rfl=>wi hG1<|e7 (p:=(x23.2.1,x23.2.2,x24.1.Global,x24.1.aR)) (s14.1,s14.2) [0,6,7,5,4,1,2,3] Q Q)) (have hq8:=rb hA2;wi hq8<|bP 0 0 0 3 [] Q Q Q Q Q (fun h=>aH (c:=(⟨c.b,x21.2.1,x21.2.2⟩:aL)) (h.a h1)) fun u8 _=>fun hq8=>match u8,hq8 with | _,rfl=>have hq9:=rb hA3;wi hq9<|bP 0 0 0 3 [] Q Q Q Q Q (fun h=>aH (c:=(⟨c.b,x22.2.1,x22.2.2⟩:aL)) (h.a h1)) fun u9 _=>fun hq9=>match u9,hq9 with | _,rfl=>have hq10:=rb hA4;wi hq10<|c1 Q (fun h=>AS (l:=(⟨x11,x12⟩:aA)) (h.o 1 Q) (h.o 2 Q)) fun u10 s15=>fun hq10=>match u10,hq10 with | _,rfl=>wi hG1<|e7 (p:=(x23.2.1,x23.2.2,x24.1.Global,x24.1.aR)) (s15.1,s15.2) [0,6,7,5,4,1,2,3] Q Q)) (have hq11:=rb hA1;wi hq11<|bP 0 0 0 3 [] Q Q Q Q Q (fun h=>aH (c:=(⟨c.b,x9,x10⟩:aL)) (h.a h1)) fun u11 _=>fun hq11=>match u11,hq11 with | _,rfl=>have hq12:=rb hA2;wi hq12<|bP 0 0 0 3 [] Q Q Q Q Q (fun h=>aH (c:=(⟨c.b,x21.2.1,x21.2.2⟩:aL)) (h.a h1)) fun u12 _=>fun hq12=>match u12,hq12 with | _,rfl=>have hq13:=rb hA3;wi hq13<|bP 0 0 0 3 [] Q Q Q Q Q (fun h=>aH (c:=(⟨c.b,x22.2.1,x22.2.2⟩:aL)) (h.a h1)) fun u13 _=>fun hq13=>match u13,hq13 with | _,rfl=>have hq14:=rb hA4;wi hq14<|c1 Q (fun h=>AS (l:=(⟨x11,x12⟩:aA)) (h.o 1 Q) (h.o 2 Q)) fun u14 s16=>fun hq14=>match u14,hq14 with | _,rfl=>wi hG1<|e7 (p:=(x23.2.1,x23.2.2,x24.1.Global,x24.1.aR)) (s16.1,s16.2) [0,6,7,5,4,1,2,3] Q Q)) fun⟨x17,x18,x19,x20⟩ ⟨s9,s10⟩=>RK (s9,s10) [0,1,2,7,4] Q)<|T8 (s5,s6) [0,1,2,3,4] Q) fun⟨x13,x14,x15,x16⟩ ⟨s7,s8⟩=>eA (s7,s8) [0,1,2] Q Q
theorem aBI{c:aL}{s1:AC}{b0:Nat×Nat}(h1:bE κ s1 c.b):VS Tryz.prog κ 345 (HL c) [.p 0 0] [b0] [.box 0 [.h s1 c.b.length,I c.i,I c.h]] (fun(r:aA×(Int×Int)) (y:AC×AC)=>.g [.h y.1 r.1.Global.length,.h y.2 r.1.aR.length]) (fun(r:aA×(Int×Int)) (y:AC×AC)=>[.box 0 [.h s1 c.b.length,I r.2.1,I r.2.2],ow y.1 r.1.Global,ow y.2 r.1.aR]):=
 cE tok Tryz.call345 Tryz.func345 Tryz.results345 Q Q<|bP 0 0 0 3 [] Q Q Q Q Q (fun h=>WN (h.a h1)) fun x1 s2=>dL 1 3 (fun(p:Int×Int×(List aD)×(List aD))=>lW p.1 p.2.1 p.2.2.1 p.2.2.2) [0,2,3] (fun(p:Int×Int×(List aD)×(List aD)) (u:AC×AC)=>[]) [1] (fun p u=>[.box 0 [.h s1 c.b.length,I p.1,I p.2.1],ow u.1 (p.2.2.1:List aD),ow u.2 (p.2.2.2:List aD),.box 2 [.h u.1 p.2.2.1.length,.h u.2 p.2.2.2.length]]) Q (bP 0 0 0 3 [] Q Q Q Q Q (fun h=>aH (c:=(⟨c.b,x1.2.1,x1.2.2⟩:aL)) (h.a h1)) fun x6 _=>bD [9,10] Q Q (fun hF=>cpc 2 Q Q fun hc1=>U3 hc1 Q Q Q Q Q Q hF fun hF h2=>sF Q<|poR 2 0 ((2:Int).toNat) Q Q h2 Q<|gP (p:=(x6.2.1,x6.2.2,(x1.1.Global.take ((2:Int).toNat)).drop 0,x1.1.aR)) ((AC.sub s2.1 1 0),s2.2) [0,2,3,4,1] hF Q)<|bD [15,16] Q Q (fun hF=>nw Int Q<|ltN cY [5] ((⟨[]⟩:aD)) ⟨none,0⟩ cR Q Q Q Q Q Q Q Q Q Q Q Q Q fun s5=>apN 3 6 cR Q Q Q Q Q Q Q Q Q Q Q hF fun hF s6=>wi hF<|e7 (p:=(x6.2.1,x6.2.2,x1.1.Global,x1.1.aR++([(⟨[]⟩:aD)]))) (s2.1,s6) [0,2,7,4,1] Q Q)<|bD [23,24] Q Q (dL 0 3 (fun(p:Int×Int×(List aD))=>FJ x1 p.1 p.2.1 p.2.2) [0,2,3] (fun(p:Int×Int×(List aD)) (_:Unit)=>[]) [1,2] (fun p _=>[.box 0 [.h s1 c.b.length,I p.1,I p.2.1],ow s2.2 (p.2.2:List aD),.box 2 [.h s2.1 x1.1.Global.length,.h s2.2 p.2.2.length]]) Q (eM aG [1,4] Q<|fun hF=>bd hF fun x10 hA1 hF=>bd hF fun x11 hA2 hF=>cT Q Q (have hq1:=rb hA1;wi hq1<|bP 0 0 0 3 [] Q Q Q Q Q (fun h=>aH (c:=(⟨c.b,x6.2.1,x6.2.2⟩:aL)) (h.a h1)) fun u1 _=>fun hq1=>match u1,hq1 with | _,rfl=>X2 oI () ([1,2,3]:List Int) aS Q Q Q Q Q Q Q Q Q Q (fun _=>Q) fun s9=>have hq2:=rb hA2;wi hq2<|oB cY 3 Q Q Q fun u2 h5 s10 h6=>fun hq2=>gW 3 h6 h5 Q Q Q Q Q<|match u2,hq2 with | _,rfl=>sF Q<|yA cY 6 [5] [26,29] (⟨([1,2,3]:List Int)⟩:aD) s9 Q Q Q Q Q Q Q Q<|D7 s2.2 List.length_set.symm [(6,1)] [(4,1)] Q Q Q<|fR Q Q<|gP (p:=(x10.2.1,x10.2.2,x1.1.aR.set x10.1.toNat (⟨([1,2,3]:List Int)⟩:aD))) () [0,10,4,1,2] hF Q) (X2 oI () ([1,2,3]:List Int) aS Q Q Q Q Q Q Q Q Q Q (fun _=>Q) fun s11=>have hq3:=rb hA1;wi hq3<|bP 0 0 0 3 [] Q Q Q Q Q (fun h=>aH (c:=(⟨c.b,x6.2.1,x6.2.2⟩:aL)) (h.a h1)) fun u3 _=>fun hq3=>match u3,hq3 with | _,rfl=>have hq4:=rb hA2;wi hq4<|oB cY 3 Q Q Q fun u4 h7 s12 h8=>fun hq4=>gW 3 h8 h7 Q Q Q Q Q<|match u4,hq4 with | _,rfl=>sF Q<|yA cY 6 [5] [26,29] (⟨([1,2,3]:List Int)⟩:aD) s11 Q Q Q Q Q Q Q Q<|D7 s2.2 List.length_set.symm [(6,1)] [(4,1)] Q Q Q<|fR Q Q<|gP (p:=(x10.2.1,x10.2.2,x1.1.aR.set x10.1.toNat (⟨([1,2,3]:List Int)⟩:aD))) () [0,10,4,1,2] hF Q)) fun⟨x7,x8,x9⟩ _=>e7 (p:=(x7,x8,x1.1.Global,x9)) (s2.1,s2.2) [0,4,1,2,3] Q Q)<|bD [35,36] Q Q (bP 0 0 0 3 [] Q Q Q Q Q (fun h=>aH (c:=(⟨c.b,x6.2.1,x6.2.2⟩:aL)) (h.a h1)) fun x12 _=>dL 0 3 (fun(p:Int×Int×(List aD))=>FK x1 p.1 p.2.1 p.2.2) [0,2,3] (fun(p:Int×Int×(List aD)) (_:Unit)=>[]) [1,3] (fun p _=>[.box 0 [.h s1 c.b.length,I p.1,I p.2.1],ow s2.1 (p.2.2:List aD),.box 2 [.h s2.1 p.2.2.length,.h s2.2 x1.1.aR.length]]) Q (eM aG [1,4] Q<|oB cY 2 Q Q Q fun x16 h9 s13 h10=>fun hF=>gW 3 h10 h9 Q Q Q Q Q<|bd hF fun x17 hA3 hF=>nd hF fun hA4 hF=>cT Q Q (X2 oI () ([(-1),24,5,6]:List Int) aS Q Q Q Q Q Q Q Q Q Q (fun _=>Q) fun s17=>have hq5:=rb hA3;wi hq5<|bP 0 0 0 3 [] Q Q Q Q Q (fun h=>cO (c:=(⟨c.b,x12.2.1,x12.2.2⟩:aL)) (h.a h1) (h.o 9 Q Q)) fun u5 _=>fun hq5=>match u5,hq5 with | _,rfl=>ZU Q aS Q Q Q Q fun s18=>have hq6:=rn hA4;ap 8 aS Q Q Q Q Q Q Q (fun h=>(h.o 10 Q)) Q Q hq6 fun hq6 s19=>gW 3 h10 h9 Q Q Q Q Q<|sF Q<|yA cY 5 [8] [40,43] (⟨x16.aO++([x17.1])⟩:aD) s19 Q Q Q Q Q Q Q Q<|D7 s2.1 List.length_set.symm [(6,0)] [(4,0)] Q Q Q<|fR Q Q<|gP (p:=(x17.2.1,x17.2.2,x1.1.Global.set x12.1.toNat (⟨x16.aO++([x17.1])⟩:aD))) () [0,11,4,1,3] hF Q) (X2 oI () ([(-1),24,5,6]:List Int) aS Q Q Q Q Q Q Q Q Q Q (fun _=>Q) fun s20=>cT Q Q (have hq7:=rb hA3;wi hq7<|bP 0 0 0 3 [] Q Q Q Q Q (fun h=>cO (c:=(⟨c.b,x12.2.1,x12.2.2⟩:aL)) (h.a h1) (h.o 9 Q Q)) fun u6 _=>fun hq7=>match u6,hq7 with | _,rfl=>ZU Q aS Q Q Q Q fun s21=>have hq8:=rn hA4;ap 8 aS Q Q Q Q Q Q Q (fun h=>(h.o 10 Q)) Q Q hq8 fun hq8 s22=>gW 3 h10 h9 Q Q Q Q Q<|sF Q<|yA cY 5 [8] [40,43] (⟨x16.aO++([x17.1])⟩:aD) s22 Q Q Q Q Q Q Q Q<|D7 s2.1 List.length_set.symm [(6,0)] [(4,0)] Q Q Q<|fR Q Q<|gP (p:=(x17.2.1,x17.2.2,x1.1.Global.set x12.1.toNat (⟨x16.aO++([x17.1])⟩:aD))) () [0,11,4,1,3] hF Q) (have hq9:=rb hA3;wi hq9<|bP 0 0 0 3 [] Q Q Q Q Q (fun h=>cO (c:=(⟨c.b,x12.2.1,x12.2.2⟩:aL)) (h.a h1) (h.o 9 Q Q)) fun u7 _=>fun hq9=>match u7,hq9 with | _,rfl=>cT Q Q (ZU Q aS Q Q Q Q fun s23=>have hq10:=rn hA4;ap 8 aS Q Q Q Q Q Q Q (fun h=>(h.o 10 Q)) Q Q hq10 fun hq10 s24=>gW 3 h10 h9 Q Q Q Q Q<|sF Q<|yA cY 5 [8] [40,43] (⟨x16.aO++([x17.1])⟩:aD) s24 Q Q Q Q Q Q Q Q<|D7 s2.1 List.length_set.symm [(6,0)] [(4,0)] Q Q Q<|fR Q Q<|gP (p:=(x17.2.1,x17.2.2,x1.1.Global.set x12.1.toNat (⟨x16.aO++([x17.1])⟩:aD))) () [0,11,4,1,3] hF Q) (ZU Q aS Q Q Q Q fun s25=>have hq11:=rn hA4;ap 8 aS Q Q Q Q Q Q Q (fun h=>(h.o 10 Q)) Q Q hq11 fun hq11 s26=>gW 3 h10 h9 Q Q Q Q Q<|sF Q<|yA cY 5 [8] [40,43] (⟨x16.aO++([x17.1])⟩:aD) s26 Q Q Q Q Q Q Q Q<|D7 s2.1 List.length_set.symm [(6,0)] [(4,0)] Q Q Q<|fR Q Q<|gP (p:=(x17.2.1,x17.2.2,x1.1.Global.set x12.1.toNat (⟨x16.aO++([x17.1])⟩:aD))) () [0,11,4,1,3] hF Q)))) fun⟨x13,x14,x15⟩ _=>e7 (p:=(x13,x14,x15,x1.1.aR)) (s2.1,s2.2) [0,1,4,2,3] Q Q)<|e7 (p:=(x6.2.1,x6.2.2,x1.1.Global,x1.1.aR)) (s2.1,s2.2) [0,2,3,4,1] Q Q) fun⟨x2,x3,x4,x5⟩ ⟨s3,s4⟩=>eA (s3,s4) [0,1,2] Q Q
theorem aBJ{c:aL}{s1:AC}{b0:Nat×Nat}(h1:bE κ s1 c.b):VS Tryz.prog κ 227 (HM c) [.p 0 0] [b0] [.box 0 [.h s1 c.b.length,I c.i,I c.h]] (fun(r:Mem×Int×(Int×Int)) (y:AC×AC×AC×AC)=>.t [.g [.h y.1 r.1.aB.Bytes.length,.h y.2.1 r.1.aB.Class.length,.h y.2.2.1 r.1.aA.Global.length,.h y.2.2.2 r.1.aA.aR.length],I r.2.1]) (fun(r:Mem×Int×(Int×Int)) (y:AC×AC×AC×AC)=>[.box 0 [.h s1 c.b.length,I r.2.2.1,I r.2.2.2],ow y.1 r.1.aB.Bytes,ow y.2.1 r.1.aB.Class,ow y.2.2.1 r.1.aA.Global,ow y.2.2.2 r.1.aA.aR]):=
 cE tok Tryz.call227 Tryz.func227 Tryz.results227 Q Q<|bP 0 0 0 3 [] Q Q Q Q Q (fun h=>YU (h.a h1)) fun x1 s2=>dL 1 3 (fun(p:Int×Int×Int×Mem)=>tO c p.1 p.2.1 p.2.2.1 p.2.2.2) [0,2,4] (fun(p:Int×Int×Int×Mem) (_:Unit)=>[(5,I p.1)]) [1] (fun p _=>[.box 0 [.h s1 c.b.length,I p.2.1,I p.2.2.1],ow s2.1 (p.2.2.2.aB.Bytes:List Int),ow s2.2.1 (p.2.2.2.aB.Class:List Int),ow s2.2.2.1 (p.2.2.2.aA.Global:List aD),ow s2.2.2.2 (p.2.2.2.aA.aR:List aD),.box 2 [.h s2.1 p.2.2.2.aB.Bytes.length,.h s2.2.1 p.2.2.2.aB.Class.length,.h s2.2.2.1 p.2.2.2.aA.Global.length,.h s2.2.2.2 p.2.2.2.aA.aR.length]]) Q (bP 0 0 0 3 [] Q Q Q Q Q (fun h=>pG (c:=(⟨c.b,x1.2.2.1,x1.2.2.2⟩:aL)) (h.a h1)) fun x12 _=>bD [12] Q Q (bP 0 0 0 3 [] Q Q Q Q Q (fun h=>uN (c:=(⟨c.b,x12.2.1,x12.2.2⟩:aL)) (h.a h1)) fun x13 _=>bU (p:=(x13.1,x13.2.1,x13.2.2,x1.1)) [0,2,3,4,5,6,1] Q Q)<|bU (p:=(x1.2.1,x12.2.1,x12.2.2,x1.1)) [0,2,3,4,5,6,1] Q Q) fun⟨x2,x3,x4,x5⟩ _=>dL 1 3 (fun(p:Int×Int×Mem)=>tN x2 p.1 p.2.1 p.2.2) [0,2,4,5] (fun(p:Int×Int×Mem) (u:AC×AC×AC×AC)=>[]) [6] (fun p u=>[.box 0 [.h s1 c.b.length,I p.1,I p.2.1],ow u.1 (p.2.2.aB.Bytes:List Int),ow u.2.1 (p.2.2.aB.Class:List Int),ow u.2.2.1 (p.2.2.aA.Global:List aD),ow u.2.2.2 (p.2.2.aA.aR:List aD),.box 2 [.h u.1 p.2.2.aB.Bytes.length,.h u.2.1 p.2.2.aB.Class.length,.h u.2.2.1 p.2.2.aA.Global.length,.h u.2.2.2 p.2.2.aA.aR.length]]) Q (bP 0 0 0 3 [] Q Q Q Q Q (fun h=>aH (c:=(⟨c.b,x3,x4⟩:aL)) (h.a h1)) fun x9 _=>bD [17,18] Q Q (bP 0 0 0 3 [] Q Q Q Q Q (fun h=>aBH (c:=(⟨c.b,x9.2.1,x9.2.2⟩:aL)) (h.a h1)) fun x10 s7=>e7 (p:=(x10.2.1,x10.2.2,(⟨x10.1,x5.aA⟩:Mem))) (s7.1,s7.2,s2.2.2.1,s2.2.2.2) [0,7,8,3,4,5,6] Q Q)<|bD [22,23] Q Q (bP 0 0 0 3 [] Q Q Q Q Q (fun h=>aBI (c:=(⟨c.b,x9.2.1,x9.2.2⟩:aL)) (h.a h1)) fun x11 s8=>e7 (p:=(x11.2.1,x11.2.2,(⟨x5.aB,x11.1⟩:Mem))) (s2.1,s2.2.1,s8.1,s8.2) [0,1,2,7,8,5,6] Q Q)<|e7 (p:=(x9.2.1,x9.2.2,x5)) (s2.1,s2.2.1,s2.2.2.1,s2.2.2.2) [0,1,2,3,4,5,6] Q Q) fun⟨x6,x7,x8⟩ ⟨s3,s4,s5,s6⟩=>eA (s3,s4,s5,s6) [0,1,2,3,4] Q Q
theorem S5{c:aL}{s1:AC}{b0:Nat×Nat}(h1:bE κ s1 c.b):VS Tryz.prog κ 346 (zR c) [.p 0 0] [b0] [.box 0 [.h s1 c.b.length,I c.i,I c.h]] (fun(r:aC×(Int×Int)) (y:AC)=>.g [I r.1.aE,.h y r.1.aN.length]) (fun(r:aC×(Int×Int)) (y:AC)=>[.box 0 [.h s1 c.b.length,I r.2.1,I r.2.2],ow y r.1.aN]):=
 cE tok Tryz.call346 Tryz.func346 Tryz.results346 Q Q<|c1 Q (fun _=>IZ) fun x1 s2=>bP 0 0 0 3 [] Q Q Q Q Q (fun h=>aH (h.a h1)) fun x2 _=>LX s2 [0,2,3] (fun(p:Int×Int×Int×Int×(List dS)) (s4:AC)=>[(4,I p.1)]) [0,2,3,1] [1] (fun p s4=>[.box 0 [.h s1 c.b.length,I p.2.1,I p.2.2.1],ow s4 (p.2.2.2.2:List dS),.box 2 [I p.2.2.2.1,.h s4 p.2.2.2.2.length]]) id [0,2,3] (fun(p:Int×Int×Int×(List dS)) (s5:AC)=>[]) [1] (fun p s5=>[.box 0 [.h s1 c.b.length,I p.1,I p.2.1],ow s5 (p.2.2.2:List dS),.box 2 [I p.2.2.1,.h s5 p.2.2.2.length]]) Q Q (fun hF1 ⟨x8,x9,x10,x11,x12⟩ s4 hr1=>bD [11] Q Q (bP 0 0 0 3 [] Q Q Q Q Q (fun h=>aH (c:=(⟨c.b,x9,x10⟩:aL)) (h.a h1)) fun x17 _=>dL 1 4 (fun(p:Int×Int×Int×(List dS))=>jY x8 p.1 p.2.1 p.2.2.1 p.2.2.2) [0,2,3,4,6] (fun(p:Int×Int×Int×(List dS)) (s6:AC)=>[]) [3,1,2] (fun p s6=>[.box 0 [.h s1 c.b.length,I p.1,I p.2.1],ow s6 (p.2.2.2:List dS),.box 3 [I p.2.2.1,.h s6 p.2.2.2.length]]) Q (bP 0 0 0 3 [] Q Q Q Q Q (fun h=>aH (c:=(⟨c.b,x17.2.1,x17.2.2⟩:aL)) (h.a h1)) fun x22 _=>bD [26,27] Q Q (c1 Q (fun h=>O5 (c:=(⟨x11,x12⟩:aC)) (h.o 1 Q)) fun x23 s7=>e7 (p:=(x22.2.1,x22.2.2,x23.1.aE,x23.1.aN)) s7 [0,5,4,3,1,2] Q Q)<|bD [36,37] Q Q (c1 Q (fun h=>O7 (c:=(⟨x11,x12⟩:aC)) (h.o 1 Q)) fun x24 s8=>e7 (p:=(x22.2.1,x22.2.2,x24.1.aE,x24.1.aN)) s8 [0,5,4,3,1,2] Q Q)<|cW 0 4 (r7 x8 x11 x12 x17 x22) [0,2,3,4,5,6] 44 [0,3,1,2,4] Q (bD [44,45] Q Q (bU [0,3,1,2,4] Q Q)<|bU [0,3,1,2,4] Q Q) fun x25=>bD [44] Q Q (c1 Q (fun h=>M1 (c:=(⟨x11,x12⟩:aC)) (h.o 2 Q)) fun x26 s9=>e7 (p:=(x22.2.1,x22.2.2,x26.1.aE,x26.1.aN)) s9 [0,5,4,1,2,3] Q Q)<|c1 Q (fun h=>RO (c:=(⟨x11,x12⟩:aC)) (h.o 2 Q)) fun x27 s10=>e7 (p:=(x22.2.1,x22.2.2,x27.1.aE,x27.1.aN)) s10 [0,5,4,1,2,3] Q Q) fun⟨x18,x19,x20,x21⟩ s6=>RK s6 [0,1,5,3] Q)<|T8 s4 [0,1,2,3] Q) fun⟨x13,x14,x15,x16⟩ s5=>eA s5 [0,1] Q Q
theorem YW{c:aL}{s1:AC}{b0:Nat×Nat}(h1:bE κ s1 c.b):VS Tryz.prog κ 228 (EV c) [.p 0 0] [b0] [.box 0 [.h s1 c.b.length,I c.i,I c.h]] (fun(r:aC×(Int×Int)) (y:AC)=>.g [I r.1.aE,.h y r.1.aN.length]) (fun(r:aC×(Int×Int)) (y:AC)=>[.box 0 [.h s1 c.b.length,I r.2.1,I r.2.2],ow y r.1.aN]):=
 cE tok Tryz.call228 Tryz.func228 Tryz.results228 Q Q<|bP 0 0 0 3 [] Q Q Q Q Q (fun h=>S5 (h.a h1)) fun x1 s2=>bP 0 0 0 3 [] Q Q Q Q Q (fun h=>aH (c:=(⟨c.b,x1.2.1,x1.2.2⟩:aL)) (h.a h1)) fun x2 _=>dL 1 3 (fun(p:Int×Int×Int×(List dS))=>gA p.1 p.2.1 p.2.2.1 p.2.2.2) [0,2,3] (fun(p:Int×Int×Int×(List dS)) (s3:AC)=>[]) [1] (fun p s3=>[.box 0 [.h s1 c.b.length,I p.1,I p.2.1],ow s3 (p.2.2.2:List dS),.box 2 [I p.2.2.1,.h s3 p.2.2.2.length]]) Q (bP 0 0 0 3 [] Q Q Q Q Q (fun h=>aH (c:=(⟨c.b,x2.2.1,x2.2.2⟩:aL)) (h.a h1)) fun x7 _=>bD [11,12] Q Q (fun hF=>X2 oI () ([(-1),100000,100001]:List Int) aS Q Q Q Q Q Q Q Q Q Q (fun _=>Q) fun s4=>wi hF<|bP 0 0 0 3 [] Q Q Q Q Q (fun h=>cO (c:=(⟨c.b,x7.2.1,x7.2.2⟩:aL)) (h.a h1) (h.o 4 Q Q)) fun x8 _=>e7 (p:=(x8.2.1,x8.2.2,x8.1,x1.1.aN)) s2 [0,2,3,1] Q Q)<|bD [17,18] Q Q (fun hF=>cpc 2 Q Q fun hc1=>U3 hc1 Q Q Q Q Q Q hF fun hF h2=>sF Q<|poR 2 0 x2.1.toNat Q Q h2 Q<|gP (p:=(x7.2.1,x7.2.2,x1.1.aE,(x1.1.aN.take x2.1.toNat).drop 0)) (AC.sub s2 4 0) [0,2,3,1] hF Q)<|bD [24,25] Q Q (oB BE 2 Q Q Q fun x9 h3 _ h4=>fun hF=>gW 3 h4 h3 Q Q Q Q Q<|sF Q<|yA BE 4 [] [27] (⟨false,1,false,0⟩:dS) () Q Q Q Q Q Q Q Q<|D7 s2 List.length_set.symm [(6,1)] [(3,1)] Q Q Q<|fR Q Q<|gP (p:=(x7.2.1,x7.2.2,x1.1.aE,x1.1.aN.set x2.1.toNat (⟨false,1,false,0⟩:dS))) s2 [0,7,3,1] hF Q)<|bD [31,32] Q Q (oB BE 2 Q Q Q fun x10 h5 _ h6=>fun hF=>gW 3 h6 h5 Q Q Q Q Q<|sF Q<|yA BE 4 [] [34] (⟨true,aX (x1.1.aE+1),false,0⟩:dS) () Q Q Q Q Q Q Q Q<|D7 s2 List.length_set.symm [(6,1)] [(3,1)] Q Q Q<|fR Q Q<|gP (p:=(x7.2.1,x7.2.2,x1.1.aE,x1.1.aN.set x2.1.toNat (⟨true,aX (x1.1.aE+1),false,0⟩:dS))) s2 [0,7,3,1] hF Q)<|bD [41,42] Q Q (oB BE 2 Q Q Q fun x11 h7 _ h8=>fun hF=>gW 3 h8 h7 Q Q Q Q Q<|sF Q<|yA BE 4 [] [44] (⟨true,0,false,3⟩:dS) () Q Q Q Q Q Q Q Q<|D7 s2 List.length_set.symm [(6,1)] [(3,1)] Q Q Q<|fR Q Q<|gP (p:=(x7.2.1,x7.2.2,x1.1.aE,x1.1.aN.set x2.1.toNat (⟨true,0,false,3⟩:dS))) s2 [0,7,3,1] hF Q)<|bD [48,49] Q Q (oB BE 2 Q Q Q fun x12 h9 _ h10=>fun hF=>gW 3 h10 h9 Q Q Q Q Q<|sF Q<|yA BE 4 [] [51] (⟨true,0,true,0⟩:dS) () Q Q Q Q Q Q Q Q<|D7 s2 List.length_set.symm [(6,1)] [(3,1)] Q Q Q<|fR Q Q<|gP (p:=(x7.2.1,x7.2.2,x1.1.aE,x1.1.aN.set x2.1.toNat (⟨true,0,true,0⟩:dS))) s2 [0,7,3,1] hF Q)<|e7 (p:=(x7.2.1,x7.2.2,x1.1.aE,x1.1.aN)) s2 [0,2,3,1] Q Q) fun⟨x3,x4,x5,x6⟩ s3=>eA s3 [0,1] Q Q
theorem S6{l:List aK}{w_ h e_:Int}{s1:AC}(h1:bE κ s1 l):VS Tryz.prog κ 422 (zS l w_ h e_) [.h s1 l.length,I w_,I h,I e_] [] [] (fun r (y:AC)=>.t [.h y r.1.length,.b r.2]) (fun r y=>[ow y r.1]):=
 cE tok Tryz.call422 Tryz.func422 Tryz.results422 Q Q<|c1 Q (fun h=>DN (h.a h1)) fun x1 s2=>cW 0 0 (r8 l w_ h e_ x1) [0,1,2,3,10] 20 [0] Q (c0 Q (fun h=>DM (h.a h1)) fun x6=>dR [15,16] Q Q (bU [0] Q Q)<|c0 Q (fun _=>aY) fun x7=>bU [0] Q Q) fun x2=>bD [20] Q Q (eA s2 [0] Q Q)<|oB d8 0 Q Q Q fun x3 h2 s3 h3=>fun hF=>gW 0 h3 h2 Q Q Q Q Q<|ltN jA [] ((⟨h,e_⟩:bM)) () cH Q Q Q Q Q Q Q Q Q Q Q Q Q fun s4=>ap 4 cH Q Q Q Q Q Q Q (fun h=>(h.o 5 Q)) Q Q hF fun hF s5=>gW 0 h3 h2 Q Q Q Q Q<|ceS d8 1 [4] [10,22,24,36] (⟨x3.Rows++([(⟨h,e_⟩:bM)])⟩:aK) s5 Q Q Q Q Q Q Q Q Q Q<|wi hF<|c0 Q (fun h=>DM (h.o 6 Q)) fun x4=>bD [38] Q Q (c1 Q (fun h=>DN (h.a h1)) fun x5 s6=>eA s6 [7] Q Q)<|eA s2 [6] Q Q
theorem S7{c:aL}{s1:AC}{b0:Nat×Nat}(h1:bE κ s1 c.b):VS Tryz.prog κ 347 (zT c) [.p 0 0] [b0] [.box 0 [.h s1 c.b.length,I c.i,I c.h]] (fun(r:(List aK)×(Int×Int)) (y:AC)=>.h y r.1.length) (fun(r:(List aK)×(Int×Int)) (y:AC)=>[.box 0 [.h s1 c.b.length,I r.2.1,I r.2.2],ow y r.1]):=
 cE tok Tryz.call347 Tryz.func347 Tryz.results347 Q Q<|c1 Q (fun _=>I0) fun x1 s2=>bP 0 0 0 3 [] Q Q Q Q Q (fun h=>aH (h.a h1)) fun x2 _=>LX s2 [0] (fun(p:(List aK)×Int×Int×Int) (s4:AC)=>[(3,.h s4 p.1.length),(4,I p.2.1)]) [1,0] [] (fun p s4=>[ow s4 (p.1:List aK),.box 0 [.h s1 c.b.length,I p.2.2.1,I p.2.2.2]]) id [0] (fun(p:(List aK)×Int×Int) (s5:AC)=>[(3,.h s5 p.1.length)]) [] (fun p s5=>[ow s5 (p.1:List aK),.box 0 [.h s1 c.b.length,I p.2.1,I p.2.2]]) Q Q (fun hF1 ⟨x7,x8,x9,x10⟩ s4 hr1=>bD [11] Q Q (bP 1 0 0 3 [] Q Q Q Q Q (fun h=>aH (c:=(⟨c.b,x9,x10⟩:aL)) (h.a h1)) fun x14 _=>bP 1 0 0 3 [] Q Q Q Q Q (fun h=>uN (c:=(⟨c.b,x14.2.1,x14.2.2⟩:aL)) (h.a h1)) fun x15 _=>bP 1 0 0 3 [] Q Q Q Q Q (fun h=>aH (c:=(⟨c.b,x15.2.1,x15.2.2⟩:aL)) (h.a h1)) fun x16 _=>c1 Q (fun h=>S6 (h.o 0 Q)) fun x17 s6=>RK s6 [2,1] Q)<|T8 s4 [0,1] Q) fun⟨x11,x12,x13⟩ s5=>eA s5 [1,0] Q Q
theorem YX{c:aL}{s1:AC}{b0:Nat×Nat}(h1:bE κ s1 c.b):VS Tryz.prog κ 229 (EW c) [.p 0 0] [b0] [.box 0 [.h s1 c.b.length,I c.i,I c.h]] (fun(r:(List aK)×(Int×Int)) (y:AC)=>.h y r.1.length) (fun(r:(List aK)×(Int×Int)) (y:AC)=>[.box 0 [.h s1 c.b.length,I r.2.1,I r.2.2],ow y r.1]):=
 cE tok Tryz.call229 Tryz.func229 Tryz.results229 Q Q<|bP 0 0 0 3 [] Q Q Q Q Q (fun h=>S7 (h.a h1)) fun x1 s2=>dL 1 1 (fun(p:(List aK)×Int×Int)=>m4 p.1 p.2.1 p.2.2) [0] (fun(p:(List aK)×Int×Int) (_:Unit)=>[(3,.h s2 p.1.length)]) [] (fun p _=>[ow s2 (p.1:List aK),.box 0 [.h s1 c.b.length,I p.2.1,I p.2.2]]) Q (bP 0 0 0 3 [] Q Q Q Q Q (fun h=>aH (c:=(⟨c.b,x1.2.1,x1.2.2⟩:aL)) (h.a h1)) fun x5 _=>bD [8,9] Q Q (fun hF=>cpc 1 Q Q fun hc1=>U3 hc1 Q Q Q Q Q Q hF fun hF h2=>sR Q<|poR 1 0 ((1:Int).toNat) Q Q h2 Q<|JV (hT:=tok) (AC.sub s2 1 0) [0,1] hF Q Tryz.results229 Q Q Q Q)<|bD [12,13] Q Q (oB d8 1 Q Q Q fun x6 h3 s3 h4=>fun hF=>gW 1 h4 h3 Q Q Q Q Q<|X2 jA () ([(⟨33,1⟩:bM),(⟨65,1⟩:bM)]:List bM) cH Q Q Q Q Q Q Q Q Q Q (fun _=>Q) fun s4=>ap 5 cH Q Q Q Q Q Q Q (fun h=>(h.o 6 Q)) Q Q hF fun hF s5=>gW 1 h4 h3 Q Q Q Q Q<|sF Q<|yA d8 2 [5] [3,5,14,15] (⟨x6.Rows++([(⟨33,1⟩:bM),(⟨65,1⟩:bM)]:List bM)⟩:aK) s5 Q Q Q Q Q Q Q Q<|gP (p:=(x1.1.set ((0:Int).toNat) (⟨x6.Rows++([(⟨33,1⟩:bM),(⟨65,1⟩:bM)]:List bM)⟩:aK),x5.2.1,x5.2.2)) () [7,0] hF Q)<|bD [25,26] Q Q (dL 0 1 (fun(p:(List aK)×Int×Int)=>DH p.1 p.2.1 p.2.2) [0] (fun(p:(List aK)×Int×Int) (_:Unit)=>[(3,.h s2 p.1.length)]) [] (fun p _=>[ow s2 (p.1:List aK),.box 0 [.h s1 c.b.length,I p.2.1,I p.2.2]]) Q (eM aG [] Q<|oB d8 1 Q Q Q fun x10 h5 s6 h6=>fun hF=>gW 1 h6 h5 Q Q Q Q Q<|bd hF fun x11 hA1 hF=>nd hF fun hA2 hF=>cT Q Q (have hq1:=rb hA1;wi hq1<|bP 0 0 0 3 [] Q Q Q Q Q (fun h=>uN (c:=(⟨c.b,x5.2.1,x5.2.2⟩:aL)) (h.a h1)) fun u1 _=>fun hq1=>match u1,hq1 with | _,rfl=>ltN jA [] ((⟨x11.1,(-1)⟩:bM)) () cH Q Q Q Q Q Q Q Q Q Q Q Q Q fun s9=>have hq2:=rn hA2;ap 5 cH Q Q Q Q Q Q Q (fun h=>(h.o 6 Q)) Q Q hq2 fun hq2 s10=>gW 1 h6 h5 Q Q Q Q Q<|sF Q<|yA d8 2 [5] [3,5,27,28] (⟨x10.Rows++([(⟨x11.1,(-1)⟩:bM)])⟩:aK) s10 Q Q Q Q Q Q Q Q<|gP (p:=(x1.1.set ((1:Int).toNat) (⟨x10.Rows++([(⟨x11.1,(-1)⟩:bM)])⟩:aK),x11.2.1,x11.2.2)) () [7,0] hF Q) (have hq3:=rb hA1;wi hq3<|bP 0 0 0 3 [] Q Q Q Q Q (fun h=>uN (c:=(⟨c.b,x5.2.1,x5.2.2⟩:aL)) (h.a h1)) fun u2 _=>fun hq3=>match u2,hq3 with | _,rfl=>cT Q Q (ltN jA [] ((⟨x11.1,(-1)⟩:bM)) () cH Q Q Q Q Q Q Q Q Q Q Q Q Q fun s11=>have hq4:=rn hA2;ap 5 cH Q Q Q Q Q Q Q (fun h=>(h.o 6 Q)) Q Q hq4 fun hq4 s12=>gW 1 h6 h5 Q Q Q Q Q<|sF Q<|yA d8 2 [5] [3,5,27,28] (⟨x10.Rows++([(⟨x11.1,(-1)⟩:bM)])⟩:aK) s12 Q Q Q Q Q Q Q Q<|gP (p:=(x1.1.set ((1:Int).toNat) (⟨x10.Rows++([(⟨x11.1,(-1)⟩:bM)])⟩:aK),x11.2.1,x11.2.2)) () [7,0] hF Q) (ltN jA [] ((⟨x11.1,(-1)⟩:bM)) () cH Q Q Q Q Q Q Q Q Q Q Q Q Q fun s13=>have hq5:=rn hA2;ap 5 cH Q Q Q Q Q Q Q (fun h=>(h.o 6 Q)) Q Q hq5 fun hq5 s14=>gW 1 h6 h5 Q Q Q Q Q<|sF Q<|yA d8 2 [5] [3,5,27,28] (⟨x10.Rows++([(⟨x11.1,(-1)⟩:bM)])⟩:aK) s14 Q Q Q Q Q Q Q Q<|gP (p:=(x1.1.set ((1:Int).toNat) (⟨x10.Rows++([(⟨x11.1,(-1)⟩:bM)])⟩:aK),x11.2.1,x11.2.2)) () [7,0] hF Q))) fun⟨x7,x8,x9⟩ _=>bU (p:=(x7,x8,x9)) [0,1] Q Q)<|bD [39,40] Q Q (oB d8 1 Q Q Q fun x12 h7 s15 h8=>fun hF=>gW 1 h8 h7 Q Q Q Q Q<|ltN jA [] ((⟨0,0⟩:bM)) () cH Q Q Q Q Q Q Q Q Q Q Q Q Q fun s16=>ap 5 cH Q Q Q Q Q Q Q (fun h=>(h.o 6 Q)) Q Q hF fun hF s17=>gW 1 h8 h7 Q Q Q Q Q<|sF Q<|yA d8 2 [5] [3,5,41,42] (⟨x12.Rows++([(⟨0,0⟩:bM)])⟩:aK) s17 Q Q Q Q Q Q Q Q<|gP (p:=(x1.1.set ((2:Int).toNat) (⟨x12.Rows++([(⟨0,0⟩:bM)])⟩:aK),x5.2.1,x5.2.2)) () [7,0] hF Q)<|bU (p:=(x1.1,x5.2.1,x5.2.2)) [1,0] Q Q) fun⟨x2,x3,x4⟩ _=>eA s2 [1,0] Q Q
theorem YY{c:aL}{s1:AC}{b0:Nat×Nat}(h1:bE κ s1 c.b):VS Tryz.prog κ 230 (EX c) [.p 0 0] [b0] [.box 0 [.h s1 c.b.length,I c.i,I c.h]] (fun(r:(List Int)×(Int×Int)) (y:AC)=>.h y r.1.length) (fun(r:(List Int)×(Int×Int)) (y:AC)=>[.box 0 [.h s1 c.b.length,I r.2.1,I r.2.2],ow y r.1]):=
 cE tok Tryz.call230 Tryz.func230 Tryz.results230 Q Q<|c1 Q (fun _=>ND) fun x1 s2=>bP 0 0 0 3 [] Q Q Q Q Q (fun h=>aH (h.a h1)) fun x2 _=>LX s2 [0] (fun(p:(List Int)×Int×Int×Int) (s4:AC)=>[(3,.h s4 p.1.length),(4,I p.2.1)]) [1,0] [] (fun p s4=>[ow s4 (p.1:List Int),.box 0 [.h s1 c.b.length,I p.2.2.1,I p.2.2.2]]) id [0] (fun(p:(List Int)×Int×Int) (s5:AC)=>[(3,.h s5 p.1.length)]) [] (fun p s5=>[ow s5 (p.1:List Int),.box 0 [.h s1 c.b.length,I p.2.1,I p.2.2]]) Q Q (fun hF1 ⟨x7,x8,x9,x10⟩ s4 hr1=>bD [11] Q Q (bP 1 0 0 3 [] Q Q Q Q Q (fun h=>aH (c:=(⟨c.b,x9,x10⟩:aL)) (h.a h1)) fun x21 _=>bP 1 0 0 3 [] Q Q Q Q Q (fun h=>aH (c:=(⟨c.b,x21.2.1,x21.2.2⟩:aL)) (h.a h1)) fun x22 _=>bP 1 0 0 3 [] Q Q Q Q Q (fun h=>aH (c:=(⟨c.b,x22.2.1,x22.2.2⟩:aL)) (h.a h1)) fun x23 _=>c0 Q (fun _=>BF) fun x24=>c1 Q (fun h=>KQ (h.o 0 Q)) fun x25 s7=>RK s7 [2,1] Q)<|T8 s4 [0,1] Q) fun⟨x11,x12,x13⟩ s5=>dL 1 1 (fun(p:(List Int)×Int×Int)=>xD p.1 p.2.1 p.2.2) [0] (fun(p:(List Int)×Int×Int) (_:Unit)=>[(3,.h s5 p.1.length)]) [] (fun p _=>[ow s5 (p.1:List Int),.box 0 [.h s1 c.b.length,I p.2.1,I p.2.2]]) Q (bP 1 0 0 3 [] Q Q Q Q Q (fun h=>aH (c:=(⟨c.b,x12,x13⟩:aL)) (h.a h1)) fun x17 _=>bD [30,31] Q Q (fun hF=>cpc 0 Q Q fun hc1=>U3 hc1 Q Q Q Q Q Q hF fun hF h2=>sR Q<|poR 0 0 ((2:Int).toNat) Q Q h2 Q<|JV (hT:=tok) (AC.sub s5 1 0) [1,0] hF Q Tryz.results230 Q Q Q Q)<|bD [34,35] Q Q (bP 1 0 0 3 [] Q Q Q Q Q (fun h=>aH (c:=(⟨c.b,x17.2.1,x17.2.2⟩:aL)) (h.a h1)) fun x18 _=>fun hF=>X2 oI () ([(-1),31,56,224]:List Int) aS Q Q Q Q Q Q Q Q Q Q (fun _=>Q) fun s6=>wi hF<|bP 1 0 0 3 [] Q Q Q Q Q (fun h=>cO (c:=(⟨c.b,x18.2.1,x18.2.2⟩:aL)) (h.a h1) (h.o 2 Q Q)) fun x19 _=>oB oI 0 Q Q Q fun x20 h3 _ h4=>fun hF=>gW 1 h4 h3 Q Q Q Q Q<|sF Q<|yA oI 3 [] [3,36] x19.1 () Q Q Q Q Q Q Q Q<|gP (p:=(x11.set x18.1.toNat x19.1,x19.2.1,x19.2.2)) () [6,1] hF Q)<|bU (p:=(x11,x17.2.1,x17.2.2)) [0,1] Q Q) fun⟨x14,x15,x16⟩ _=>eA s5 [1,0] Q Q
theorem FU{c:aL}{s1:AC}{b0:Nat×Nat}(h1:bE κ s1 c.b):VS Tryz.prog κ 128 (vV c) [.p 0 0] [b0] [.box 0 [.h s1 c.b.length,I c.i,I c.h]] (fun(r:aI×Int×(Int×Int)) (y:AC×AC×AC×AC×AC×AC×AC)=>.t [.g [.h y.1 r.1.Mem.aB.Bytes.length,.h y.2.1 r.1.Mem.aB.Class.length,.h y.2.2.1 r.1.Mem.aA.Global.length,.h y.2.2.2.1 r.1.Mem.aA.aR.length,I r.1.aC.aE,.h y.2.2.2.2.1 r.1.aC.aN.length,.h y.2.2.2.2.2.1 r.1.aJ.length,.h y.2.2.2.2.2.2 r.1.cA.length],I r.2.1]) (fun(r:aI×Int×(Int×Int)) (y:AC×AC×AC×AC×AC×AC×AC)=>[.box 0 [.h s1 c.b.length,I r.2.2.1,I r.2.2.2],ow y.1 r.1.Mem.aB.Bytes,ow y.2.1 r.1.Mem.aB.Class,ow y.2.2.1 r.1.Mem.aA.Global,ow y.2.2.2.1 r.1.Mem.aA.aR,ow y.2.2.2.2.1 r.1.aC.aN,ow y.2.2.2.2.2.1 r.1.aJ,ow y.2.2.2.2.2.2 r.1.cA]):=
 cE tok Tryz.call128 Tryz.func128 Tryz.results128 Q Q<|bP 0 0 0 3 [] Q Q Q Q Q (fun h=>WK (h.a h1)) fun x1 s2=>dL 1 3 (fun(p:Int×Int×aI)=>kG x1 p.1 p.2.1 p.2.2) [0,2,4,5] (fun(p:Int×Int×aI) (u:AC×AC×AC×AC×AC×AC×AC)=>[]) [1] (fun p u=>[.box 0 [.h s1 c.b.length,I p.1,I p.2.1],ow u.1 (p.2.2.Mem.aB.Bytes:List Int),ow u.2.1 (p.2.2.Mem.aB.Class:List Int),ow u.2.2.1 (p.2.2.Mem.aA.Global:List aD),ow u.2.2.2.1 (p.2.2.Mem.aA.aR:List aD),ow u.2.2.2.2.1 (p.2.2.aC.aN:List dS),ow u.2.2.2.2.2.1 (p.2.2.aJ:List aK),ow u.2.2.2.2.2.2 (p.2.2.cA:List Int),.box 2 [.h u.1 p.2.2.Mem.aB.Bytes.length,.h u.2.1 p.2.2.Mem.aB.Class.length,.h u.2.2.1 p.2.2.Mem.aA.Global.length,.h u.2.2.2.1 p.2.2.Mem.aA.aR.length,I p.2.2.aC.aE,.h u.2.2.2.2.1 p.2.2.aC.aN.length,.h u.2.2.2.2.2.1 p.2.2.aJ.length,.h u.2.2.2.2.2.2 p.2.2.cA.length]]) Q (bP 0 0 0 3 [] Q Q Q Q Q (fun h=>aH (c:=(⟨c.b,x1.2.2.1,x1.2.2.2⟩:aL)) (h.a h1)) fun x5 _=>bD [13,14] Q Q (bP 0 0 0 3 [] Q Q Q Q Q (fun h=>aBJ (c:=(⟨c.b,x5.2.1,x5.2.2⟩:aL)) (h.a h1)) fun x6 s10=>e7 (p:=(x6.2.2.1,x6.2.2.2,(⟨x6.1,x1.1.aC,x1.1.aJ,x1.1.cA⟩:aI))) (s10.1,s10.2.1,s10.2.2.1,s10.2.2.2,s2.2.2.2.2.1,s2.2.2.2.2.2.1,s2.2.2.2.2.2.2) [0,10,11,12,13,6,7,8,9,1] Q Q)<|bD [21,22] Q Q (bP 0 0 0 3 [] Q Q Q Q Q (fun h=>YW (c:=(⟨c.b,x5.2.1,x5.2.2⟩:aL)) (h.a h1)) fun x7 s11=>e7 (p:=(x7.2.1,x7.2.2,(⟨x1.1.Mem,x7.1,x1.1.aJ,x1.1.cA⟩:aI))) (s2.1,s2.2.1,s2.2.2.1,s2.2.2.2.1,s11,s2.2.2.2.2.2.1,s2.2.2.2.2.2.2) [0,2,3,4,5,10,7,8,9,1] Q Q)<|bD [26,27] Q Q (bP 0 0 0 3 [] Q Q Q Q Q (fun h=>YX (c:=(⟨c.b,x5.2.1,x5.2.2⟩:aL)) (h.a h1)) fun x8 s12=>e7 (p:=(x8.2.1,x8.2.2,(⟨x1.1.Mem,x1.1.aC,x8.1,x1.1.cA⟩:aI))) (s2.1,s2.2.1,s2.2.2.1,s2.2.2.2.1,s2.2.2.2.2.1,s12,s2.2.2.2.2.2.2) [0,2,3,4,5,6,10,8,9,1] Q Q)<|bD [31,32] Q Q (bP 0 0 0 3 [] Q Q Q Q Q (fun h=>YY (c:=(⟨c.b,x5.2.1,x5.2.2⟩:aL)) (h.a h1)) fun x9 s13=>e7 (p:=(x9.2.1,x9.2.2,(⟨x1.1.Mem,x1.1.aC,x1.1.aJ,x9.1⟩:aI))) (s2.1,s2.2.1,s2.2.2.1,s2.2.2.2.1,s2.2.2.2.2.1,s2.2.2.2.2.2.1,s13) [0,2,3,4,5,6,7,10,9,1] Q Q)<|e7 (p:=(x5.2.1,x5.2.2,x1.1)) (s2.1,s2.2.1,s2.2.2.1,s2.2.2.2.1,s2.2.2.2.2.1,s2.2.2.2.2.2.1,s2.2.2.2.2.2.2) [0,2,3,4,5,6,7,8,9,1] Q Q) fun⟨x2,x3,x4⟩ ⟨s3,s4,s5,s6,s7,s8,s9⟩=>eA (s3,s4,s5,s6,s7,s8,s9) [0,1,2,3,4,5,6,7] Q Q
theorem sD{a_ b:List Int}{s1:AC}{s2:AC}(h1:bE κ s1 a_)(h2:bE κ s2 b):V0 Tryz.prog κ 104 (kH a_ b) [.h s1 a_.length,.h s2 b.length] .b:=
 cE tok Tryz.call104 Tryz.func104 Tryz.results104 Q Q<|bD [10] Q Q (cB Q Q)<|ID 5 [0,1] [] Out.brk [] [] Q Q (fun hF1 x2 hr1=>bD [14] Q Q (eM aG [] Q<|MF Q h1 Q fun x3=>MF Q h2 Q fun x4=>bD [25] Q Q (GL hr1 hF1<|cB Q Q)<|C1 [] Q)<|C3 [] Q)<|cB Q Q
theorem S8{a_ b:aB}{s1 s2:AC}{s3 s4:AC}(h1:bE κ s1 a_.Bytes)(h2:bE κ s2 a_.Class)(h3:bE κ s3 b.Bytes)(h4:bE κ s4 b.Class):V0 Tryz.prog κ 140 (FL a_ b) [.g [.h s1 a_.Bytes.length,.h s2 a_.Class.length],.g [.h s3 b.Bytes.length,.h s4 b.Class.length]] .b:=
 cE tok Tryz.call140 Tryz.func140 Tryz.results140 Q Q<|cW 0 2 yT [] 4 [] Q (c0 Q (fun h=>sD (h.a h1) (h.a h3)) fun x2=>dR [9,10] Q Q (c0 Q (fun h=>sD (h.a h2) (h.a h4)) fun x3=>bU [] Q Q)<|bU [] Q Q) fun x1=>cB Q Q
theorem NF{a_ b:List aD}{s1:AC}{s2:AC}(h1:bE κ s1 a_)(h2:bE κ s2 b):V0 Tryz.prog κ 252 (AP a_ b) [.h s1 a_.length,.h s2 b.length] .b:=
 cE tok Tryz.call252 Tryz.func252 Tryz.results252 Q Q<|bD [10] Q Q (cB Q Q)<|ID 5 [0,1] [] Out.brk [] [] Q Q (fun hF1 x2 hr1=>bD [14] Q Q (eM aG [] Q<|E8 sP Q h1 Q fun x3 s3 h3=>E8 sP Q h2 Q fun x4 s4 h4=>c0 Q (fun h=>sD (h.a h3) (h.a h4)) fun x5=>bD [28] Q Q (GL hr1 hF1<|cB Q Q)<|C1 [] Q)<|C3 [] Q)<|cB Q Q
theorem Q1{a_ b:aA}{s1 s2:AC}{s3 s4:AC}(h1:bE κ s1 a_.Global)(h2:bE κ s2 a_.aR)(h3:bE κ s3 b.Global)(h4:bE κ s4 b.aR):V0 Tryz.prog κ 141 (DJ a_ b) [.g [.h s1 a_.Global.length,.h s2 a_.aR.length],.g [.h s3 b.Global.length,.h s4 b.aR.length]] .b:=
 cE tok Tryz.call141 Tryz.func141 Tryz.results141 Q Q<|cW 0 2 xF [] 4 [] Q (c0 Q (fun h=>NF (h.a h1) (h.a h3)) fun x2=>dR [9,10] Q Q (c0 Q (fun h=>NF (h.a h2) (h.a h4)) fun x3=>bU [] Q Q)<|bU [] Q Q) fun x1=>cB Q Q
theorem DP{a_ b:Mem}{s1 s2 s3 s4:AC}{s5 s6 s7 s8:AC}(h1:bE κ s1 a_.aB.Bytes)(h2:bE κ s2 a_.aB.Class)(h3:bE κ s3 a_.aA.Global)(h4:bE κ s4 a_.aA.aR)(h5:bE κ s5 b.aB.Bytes)(h6:bE κ s6 b.aB.Class)(h7:bE κ s7 b.aA.Global)(h8:bE κ s8 b.aA.aR):V0 Tryz.prog κ 52 (r9 a_ b) [.g [.h s1 a_.aB.Bytes.length,.h s2 a_.aB.Class.length,.h s3 a_.aA.Global.length,.h s4 a_.aA.aR.length],.g [.h s5 b.aB.Bytes.length,.h s6 b.aB.Class.length,.h s7 b.aA.Global.length,.h s8 b.aA.aR.length]] .b:=
 cE tok Tryz.call52 Tryz.func52 Tryz.results52 Q Q<|cW 0 2 BD [] 4 [] Q (c0 Q (fun h=>S8 (h.a h1) (h.a h2) (h.a h5) (h.a h6)) fun x2=>dR [9,10] Q Q (c0 Q (fun h=>Q1 (h.a h3) (h.a h4) (h.a h7) (h.a h8)) fun x3=>bU [] Q Q)<|bU [] Q Q) fun x1=>cB Q Q
theorem GU{code:List UInt8}{s1:AC}(h1:bE κ s1 code):VS Tryz.prog κ 40 (qZ code) [.h s1 code.length] [] [] (fun r (y:AC×AC×AC×AC×AC×AC×AC)=>.g [.h y.1 r.Mem.aB.Bytes.length,.h y.2.1 r.Mem.aB.Class.length,.h y.2.2.1 r.Mem.aA.Global.length,.h y.2.2.2.1 r.Mem.aA.aR.length,I r.aC.aE,.h y.2.2.2.2.1 r.aC.aN.length,.h y.2.2.2.2.2.1 r.aJ.length,.h y.2.2.2.2.2.2 r.cA.length]) (fun r y=>[ow y.1 r.Mem.aB.Bytes,ow y.2.1 r.Mem.aB.Class,ow y.2.2.1 r.Mem.aA.Global,ow y.2.2.2.1 r.Mem.aA.aR,ow y.2.2.2.2.1 r.aC.aN,ow y.2.2.2.2.2.1 r.aJ,ow y.2.2.2.2.2.2 r.cA]):=
 cE tok Tryz.call40 Tryz.func40 Tryz.results40 Q Q<|cP Q (fun h=>HW (h.a h1)) fun x1=>bP 1 1 0 3 [] Q Q Q Q Q (fun h=>FU (c:=(⟨code,x1.1,x1.2⟩:aL)) (h.a h1)) fun x2 s2=>eA (s2.1,s2.2.1,s2.2.2.1,s2.2.2.2.1,s2.2.2.2.2.1,s2.2.2.2.2.2.1,s2.2.2.2.2.2.2) [2,3,4,5,6,7,8] Q Q
theorem bC{b:aI}{w_:Int}{s:Sub}{s1 s2 s3 s4 s5 s6 s7:AC}(h1:bE κ s1 b.Mem.aB.Bytes)(h2:bE κ s2 b.Mem.aB.Class)(h3:bE κ s3 b.Mem.aA.Global)(h4:bE κ s4 b.Mem.aA.aR)(h5:bE κ s5 b.aC.aN)(h6:bE κ s6 b.aJ)(h7:bE κ s7 b.cA):VS Tryz.prog κ 41 (vW b w_ s) [.g [.h s1 b.Mem.aB.Bytes.length,.h s2 b.Mem.aB.Class.length,.h s3 b.Mem.aA.Global.length,.h s4 b.Mem.aA.aR.length,I b.aC.aE,.h s5 b.aC.aN.length,.h s6 b.aJ.length,.h s7 b.cA.length],I w_,.g [I s.Kind,I s.A,I s.Pc,I s.E,I s.Row,I s.B,I s.H,I s.Out,I s.Code,.b s.cQ]] [] [] (fun r (y:AC×AC×AC×AC×AC×AC×AC)=>.t [.g [.h y.1 r.1.Mem.aB.Bytes.length,.h y.2.1 r.1.Mem.aB.Class.length,.h y.2.2.1 r.1.Mem.aA.Global.length,.h y.2.2.2.1 r.1.Mem.aA.aR.length,I r.1.aC.aE,.h y.2.2.2.2.1 r.1.aC.aN.length,.h y.2.2.2.2.2.1 r.1.aJ.length,.h y.2.2.2.2.2.2 r.1.cA.length],.g [I r.2.Kind,I r.2.A,I r.2.Pc,I r.2.E,I r.2.Row,I r.2.B,I r.2.H,I r.2.Out,I r.2.Code,.b r.2.cQ]]) (fun r y=>[ow y.1 r.1.Mem.aB.Bytes,ow y.2.1 r.1.Mem.aB.Class,ow y.2.2.1 r.1.Mem.aA.Global,ow y.2.2.2.1 r.1.Mem.aA.aR,ow y.2.2.2.2.1 r.1.aC.aN,ow y.2.2.2.2.2.1 r.1.aJ,ow y.2.2.2.2.2.2 r.1.cA]):=
 cE tok Tryz.call41 Tryz.func41 Tryz.results41 Q Q<|c1 Q (fun h=>IU (h.a h1) (h.a h2) (h.a h3) (h.a h4) (h.a h5) (h.a h6) (h.a h7)) fun x1 s8=>dL 0 5 (fun(p:Bool×aI)=>xH w_ s p.1 p.2) [1,5,6,7,8] (fun(p:Bool×aI) (_:Unit)=>[(18,.b p.1)]) [1,2,3] (fun p _=>[ow s8.1 (p.2.Mem.aB.Bytes:List Int),ow s8.2.1 (p.2.Mem.aB.Class:List Int),ow s8.2.2.1 (p.2.Mem.aA.Global:List aD),ow s8.2.2.2.1 (p.2.Mem.aA.aR:List aD),ow s8.2.2.2.2.1 (p.2.aC.aN:List dS),ow s8.2.2.2.2.2.1 (p.2.aJ:List aK),ow s8.2.2.2.2.2.2 (p.2.cA:List Int),.box 4 [.h s8.1 p.2.Mem.aB.Bytes.length,.h s8.2.1 p.2.Mem.aB.Class.length,.h s8.2.2.1 p.2.Mem.aA.Global.length,.h s8.2.2.2.1 p.2.Mem.aA.aR.length,I p.2.aC.aE,.h s8.2.2.2.2.1 p.2.aC.aN.length,.h s8.2.2.2.2.2.1 p.2.aJ.length,.h s8.2.2.2.2.2.2 p.2.cA.length]]) Q (c0 Q (fun h=>NA (h.a h1) (h.a h2) (h.a h3) (h.a h4) (h.a h5) (h.a h6) (h.a h7)) fun x13=>dR [13,14] Q Q (bU (p:=(true,x1)) [4,5,6,7,8,9,10,11,1,2,3] Q Q)<|c0 Q (fun _=>eO) fun x14=>bU (p:=(!x14,x1)) [4,5,6,7,8,9,10,11,1,2,3] Q Q) fun⟨x2,x3⟩ _=>bD [18] Q Q (eM aG [7,8] Q<|eA (s8.1,s8.2.1,s8.2.2.1,s8.2.2.2.1,s8.2.2.2.2.1,s8.2.2.2.2.2.1,s8.2.2.2.2.2.2) [0,1,2,3,4,5,6] Q Q)<|LX (s8.1,s8.2.1,s8.2.2.1,s8.2.2.2.1,s8.2.2.2.2.1,s8.2.2.2.2.2.1) [1,5,6,7,8] (fun(p:Int×Sub×aI) (u:AC×AC×AC×AC×AC×AC)=>[(21,I p.1)]) [8,0,1,2,3,4,5,6,7,9,10] [9,10] (fun p u=>[.box 1 [I p.2.1.Kind,I p.2.1.A,I p.2.1.Pc,I p.2.1.E,I p.2.1.Row,I p.2.1.B,I p.2.1.H,I p.2.1.Out,I p.2.1.Code,.b p.2.1.cQ],ow u.1 (p.2.2.Mem.aB.Bytes:List Int),ow u.2.1 (p.2.2.Mem.aB.Class:List Int),ow u.2.2.1 (p.2.2.Mem.aA.Global:List aD),ow u.2.2.2.1 (p.2.2.Mem.aA.aR:List aD),ow u.2.2.2.2.1 (p.2.2.aC.aN:List dS),ow u.2.2.2.2.2 (p.2.2.aJ:List aK),ow s8.2.2.2.2.2.2 (p.2.2.cA:List Int),.box 4 [.h u.1 p.2.2.Mem.aB.Bytes.length,.h u.2.1 p.2.2.Mem.aB.Class.length,.h u.2.2.1 p.2.2.Mem.aA.Global.length,.h u.2.2.2.1 p.2.2.Mem.aA.aR.length,I p.2.2.aC.aE,.h u.2.2.2.2.1 p.2.2.aC.aN.length,.h u.2.2.2.2.2 p.2.2.aJ.length,.h s8.2.2.2.2.2.2 p.2.2.cA.length]]) id [5,6,7,8] (fun(p:Sub×aI) (u:AC×AC×AC×AC×AC×AC)=>[]) [9,10] (fun p u=>[.box 1 [I p.1.Kind,I p.1.A,I p.1.Pc,I p.1.E,I p.1.Row,I p.1.B,I p.1.H,I p.1.Out,I p.1.Code,.b p.1.cQ],ow u.1 (p.2.Mem.aB.Bytes:List Int),ow u.2.1 (p.2.Mem.aB.Class:List Int),ow u.2.2.1 (p.2.Mem.aA.Global:List aD),ow u.2.2.2.1 (p.2.Mem.aA.aR:List aD),ow u.2.2.2.2.1 (p.2.aC.aN:List dS),ow u.2.2.2.2.2 (p.2.aJ:List aK),ow s8.2.2.2.2.2.2 (p.2.cA:List Int),.box 4 [.h u.1 p.2.Mem.aB.Bytes.length,.h u.2.1 p.2.Mem.aB.Class.length,.h u.2.2.1 p.2.Mem.aA.Global.length,.h u.2.2.2.1 p.2.Mem.aA.aR.length,I p.2.aC.aE,.h u.2.2.2.2.1 p.2.aC.aN.length,.h u.2.2.2.2.2 p.2.aJ.length,.h s8.2.2.2.2.2.2 p.2.cA.length]]) Q Q (fun hF2 ⟨x7,x8,x9⟩ ⟨s15,s16,s17,s18,s19,s20⟩ hr2=>bD [22] Q Q (aC8 0 1 0 10 8 4 0 8 [1,2,3,4,5,6,7] Q Q Q Q Q (fun _=>IX) fun x12 s27=>RK (s27.1,s27.2.1,s27.2.2.1,s27.2.2.2.1,s27.2.2.2.2.1,s27.2.2.2.2.2) [0,11,12,13,14,15,16,17,8,9,10] Q)<|T8 (s15,s16,s17,s18,s19,s20) [0,1,2,3,4,5,6,7,8,9,10] Q) fun⟨x10,x11⟩ ⟨s21,s22,s23,s24,s25,s26⟩=>eM aG [0,8] Q<|eA (s21,s22,s23,s24,s25,s26,s8.2.2.2.2.2.2) [1,2,3,4,5,6,7] Q Q
theorem Q2{code:List UInt8}{i:Int}{s1:AC}(h1:bE κ s1 code):V0 Tryz.prog κ 46 (L4 code i) [.h s1 code.length,I i] I:=
 cE tok Tryz.call46 Tryz.func46 Tryz.results46 Q Q<|bD [8] Q Q (E8 cU Q h1 Q fun x1 _ _=>cB Q Q)<|cB Q Q
end
end Go.Proofs.YtbdmodalljibjaaGreat
end
noncomputable section
set_option linter.unusedVariables false
set_option linter.unusedSimpArgs false
namespace Go.Gv
theorem iB{σ ρ:Type}{f:σ→Option (Step σ ρ)}(n:Nat)(S:Nat→σ)(r:ρ)(hs:∀k,k < n→f (S k)=some (.next (S (k+1))))(he:f (S n)=some (.stop r)):loop f (S 0)=some r:=by
  have key:∀d k,k+d=n→loop f (S k)=some r:=by
    intro d
    induction d with
    | zero => intro k hk; obtain rfl : k = n := by omega
              exact bN he
    | succ d ih=>intro k hk;rw [bT (hs k (by omega))];exact ih (k+1) (by omega)
  exact key n 0 (by omega)
theorem aIC{σ ρ:Type}{f:σ→Option (Step σ ρ)}(n:Nat)(S:Nat→σ)(g:Nat→ρ)
    (h:∀k,k≤n→f (S k)=some (.stop (g k))∨(k < n∧f (S k)=some (.next (S (k+1)))∧g k=g (k+1))):∀k,k≤n→loop f (S k)=some (g k):=by
  have key:∀d k,k+d=n→loop f (S k)=some (g k):=by
    intro d
    induction d with
    | zero =>
      intro k hk
      rcases h k (by omega) with h1 | ⟨h1,_⟩
      · exact bN h1
      · omega
    | succ d ih =>
      intro k hk
      rcases h k (by omega) with h1 | ⟨_,h2,h3⟩
      · exact bN h1
      · rw [bT h2,h3];exact ih (k+1) (by omega)
  intro k hk
  exact key (n - k) k (by omega)
theorem q9{σ ρ:Type}{f:σ→Option (Step σ ρ)}(n:Nat)(S:Nat→σ)(p:Nat→Prop)[DecidablePred p](yes no:ρ)
    (h1:∀k,k < n→p k→f (S k)=some (.next (S (k+1)))) (h2:∀k,k < n→¬p k→f (S k)=some (.stop no)) (h3:f (S n)=some (.stop yes)) :
    loop f (S 0)=some (if ∀k,k < n→p k then yes else no):=by
  classical
  have key:∀d k,k+d=n→loop f (S k)=some (if ∀j,k≤j→j < n→p j then yes else no):=by
    intro d
    induction d with
    | zero =>
      intro k hk;obtain rfl:k=n:=by omega
      rw [bN h3,if_pos (fun j a b=>by omega)]
    | succ d ih =>
      intro k hk
      by_cases hp:p k
      · rw [bT (h1 k (by omega) hp),ih (k+1) (by omega)]
        by_cases h:∀j,k+1≤j→j < n→p j
        · rw [if_pos h,if_pos]
          intro j a b
          by_cases e:j=k
          · subst e;exact hp
          · exact h j (by omega) b
        · rw [if_neg h,if_neg]
          exact fun q=>h fun j a b=>q j (by omega) b
      · rw [bN (h2 k (by omega) hp),if_neg]
        exact fun q=>hp (q k (Nat.le_refl _) (by omega))
  have:=key n 0 (by omega)
  rw [this]
  by_cases h:∀k,k < n→p k
  · rw [if_pos h,if_pos (fun j _ b=>h j b)]
  · rw [if_neg h,if_neg (fun q=>h fun k a=>q k (Nat.zero_le _) a)]
theorem nA{α σ ρ:Type}{f:σ→Option (Step σ ρ)}(l:List α)(S:Nat→σ)(p:α→Prop)[DecidablePred p](yes no:ρ)
    (h1:∀k (h:k < l.length),p l[k]→f (S k)=some (.next (S (k+1)))) (h2:∀k (h:k < l.length),¬p l[k]→f (S k)=some (.stop no)) (h3:f (S l.length)=some (.stop yes)) :
    loop f (S 0)=some (if ∀x∈l,p x then yes else no):=by
  classical
  have:=q9 (f:=f) l.length S (fun k=>∀h:k < l.length,p l[k]) yes no (fun k h hp=>h1 k h (hp h)) (fun k h hp=>h2 k h (fun q=>hp fun _=>q)) h3
  rw [this]
  by_cases h:∀x∈l,p x
  · rw [if_pos h,if_pos (fun k hk _=>h _ (List.getElem_mem hk))]
  · rw [if_neg h,if_neg]
    intro q
    refine h fun x hx=>?_
    obtain⟨k,hk,rfl⟩:=List.mem_iff_getElem.1 hx
    exact q k hk hk
theorem aP{x:Int}(h1:-9223372036854775808≤x)(h2:x≤9223372036854775807):aX x=x:=C0 ⟨h1,h2⟩
theorem fI{α:Type}{l:List α}{i:Int}(h0:0≤i)(h1:i < l.length):idx l i=some (l[i.toNat]'(by omega)):=idx_eq h0 h1
theorem wrap_i64{x:Int}(h1:-9223372036854775808≤x)(h2:x≤9223372036854775807):IntKind.i64.wrap x=x:=C0 ⟨h1,h2⟩
theorem AT{x y:Int}(h1:0≤x):x.tdiv y=x / y:=Int.tdiv_eq_ediv_of_nonneg h1
theorem oX{x y:Int}(h1:0≤x):x.tmod y=x % y:=Int.tmod_eq_emod_of_nonneg h1
theorem aOD{x:Int}{k:Nat}(h1:0≤x)(hk:k≤63):pX .i64 x k=x / 2 ^ k:=by
  unfold pX
  have:min ((k:Int).toNat) IntKind.i64.bits=k:=by simp [IntKind.bits];omega
  rw [this,Int.fdiv_eq_ediv_of_nonneg _ (by exact Int.le_of_lt (Int.pow_pos (by omega)))]
end Go.Gv
end
noncomputable section
set_option linter.unusedVariables false
set_option linter.unusedSimpArgs false
namespace Go.Gv
theorem d6(n a b:Int):b8 n a b=some (decide (a≤n∧n≤b)):=by
  unfold b8 mQ
  by_cases h:a≤n <;> simp [h]
theorem bJ(n a b:Int):bG n a b=some (decide (a≤n∧n≤b)):=by
  unfold bG BX
  by_cases h:a≤n <;> simp [h]
theorem map_take{α β:Type}(f:α→β){l:List α}{k:Nat}(h:k < l.length):(l.take (k+1)).map f=(l.take k).map f ++ [f l[k]]:=by
  rw [List.take_succ_eq_append_getElem h,List.map_append];rfl
end Go.Gv
end
noncomputable section
set_option linter.unusedVariables false
set_option linter.unusedSimpArgs false
namespace Go.Gv
def fJ(c:Int):Int:=if c=0 then 8 else if c=1 then 16 else if c=2 then 40 else 0
def aT(c:Int):Int:=if c=0 then 12 else if c=1 then 20 else if c=2 then 44 else 0
def bX(c:Int):Int:=if c=0 then 4 else if c=1 then 2 else if c=2 then 1 else 0
theorem eV{c:Int}(h:0≤c∧c≤2):c=0∨c=1∨c=2:=by omega
theorem aLX{c:Int}(h:¬(0≤c∧c≤2)):fJ c=0:=by unfold fJ;rw [if_neg (by omega),if_neg (by omega),if_neg (by omega)]
theorem WO{c:Int}(h:¬(0≤c∧c≤2)):aT c=0:=by unfold aT;rw [if_neg (by omega),if_neg (by omega),if_neg (by omega)]
theorem aBK{c:Int}(h:¬(0≤c∧c≤2)):bX c=0:=by unfold bX;rw [if_neg (by omega),if_neg (by omega),if_neg (by omega)]
theorem jL(c:Int):0≤bX c∧bX c≤4:=by unfold bX;split <;> (try split) <;> (try split) <;> omega
theorem N2(c:Int):0≤aT c∧aT c≤44:=by unfold aT;split <;> (try split) <;> (try split) <;> omega
theorem iM{c:Int}:0 < bX c↔0≤c∧c≤2:=by
  unfold bX;constructor
  · intro h;split at h <;> (try split at h) <;> (try split at h) <;> omega
  · intro h;rcases eV h with rfl | rfl | rfl <;> decide
theorem xQ(c:Int):p8 c=some (fJ c):=by
  unfold p8 fJ
  by_cases h0:c=0 <;> by_cases h1:c=1 <;> by_cases h2:c=2 <;> simp [h0,h1,h2]
theorem gM(c:Int):hY c=some (decide (0≤c∧c≤2)):=by simp [hY,d6]
theorem KV(c:Int):vT c=some (fJ c):=by
  unfold vT
  rw [gM]
  by_cases h:0≤c∧c≤2
  · rcases eV h with rfl | rfl | rfl <;> rfl
  · simp [h,aLX h]
theorem Q3(c:Int):sS c=some (aT c):=by
  unfold sS
  rw [bJ]
  by_cases h:0≤c∧c≤2
  · rcases eV h with rfl | rfl | rfl <;> rfl
  · simp [h,WO h]
theorem GV(c:Int):o8 c=some (aT c):=by
  unfold o8
  rw [gM]
  by_cases h:0≤c∧c≤2
  · rcases eV h with rfl | rfl | rfl <;> rfl
  · simp [h,WO h]
theorem eP(c:Int):jF c=some (bX c):=by
  unfold jF
  rw [bJ]
  by_cases h:0≤c∧c≤2
  · rcases eV h with rfl | rfl | rfl <;> rfl
  · simp [h,aBK h]
theorem uO(c:Int):lL c=some (bX c):=by
  unfold lL
  rw [gM]
  by_cases h:0≤c∧c≤2
  · rcases eV h with rfl | rfl | rfl <;> rfl
  · simp [h,aBK h]
theorem KW(s:Int):vL s=some (if 0≤s∧s≤23 then s / 4 else -1):=by
  unfold vL
  rw [bJ]
  by_cases h:0≤s∧s≤23
  · simp [h,AT h.1];rw [aP (by omega) (by omega)]
  · simp [h]
theorem I6(s:Int):rN s=some (if 0≤s∧s≤23 then s % 4 else -1):=by
  unfold rN
  rw [bJ]
  by_cases h:0≤s∧s≤23
  · simp [h,oX h.1]
  · simp [h]
def eW(s c:Int):Int:=if (0≤s∧s≤23)∧s % 4 < bX c then s / 4 * 64+8+s % 4 * aT c else -1
theorem DQ{i c:Int}(h0:0≤i)(h1:i < bX c):0≤i * aT c∧i * aT c+aT c≤56:=by
  unfold bX at h1;unfold aT
  split at h1
  · rw [if_pos ‹_›];omega
  · split at h1
    · rw [if_neg ‹_›,if_pos ‹_›];omega
    · split at h1
      · rw [if_neg ‹_›,if_neg ‹_›,if_pos ‹_›];omega
      · omega
theorem lX(s c:Int):nM s c=some (eW s c):=by
  unfold nM y9 eW
  rw [KW,I6,eP,Q3]
  by_cases h:0≤s∧s≤23
  · have hp:=jL c
    have h1:¬s / 4 < 0:=by omega
    have h2:aX (bX c - 1)=bX c - 1:=aP (by omega) (by omega)
    by_cases h3:s % 4 < bX c
    · have hm:=DQ (by omega) h3
      have hs:=N2 c
      have h4:0≤s % 4∧s % 4≤bX c - 1:=by omega
      have h5:¬bX c - 1 < s % 4:=by omega
      have e1:aX (s / 4 * 64)=s / 4 * 64:=aP (by omega) (by omega)
      have e2:aX (s / 4 * 64+8)=s / 4 * 64+8:=aP (by omega) (by omega)
      have e3:aX (s % 4 * aT c)=s % 4 * aT c:=aP (by omega) (by omega)
      have e4:aX (s / 4 * 64+8+s % 4 * aT c)=s / 4 * 64+8+s % 4 * aT c:=aP (by omega) (by omega)
      simp [h,h1,h2,h3,h4,h5,bJ,e1,e2,e3,e4]
    · have h4:¬s % 4≤bX c - 1:=by omega
      simp [h,h1,h2,h3,h4,bJ]
  · simp [h]
theorem rA(s:Int):jO s=some (decide (0≤s∧s≤23)):=by simp [jO,d6]
theorem tQ(s c:Int):qR s c=some (eW s c):=by
  unfold qR tF eW
  rw [rA,gM,uO,GV]
  by_cases h:0≤s∧s≤23
  · have hp:=jL c
    rw [oX h.1,AT h.1]
    by_cases h3:s % 4 < bX c
    · have hm:=DQ (by omega) h3
      have hs:=N2 c
      have hc:0≤c∧c≤2:=iM.1 (by omega)
      have e0:aX (s / 4)=s / 4:=aP (by omega) (by omega)
      have e1:aX (s / 4 * 64)=s / 4 * 64:=aP (by omega) (by omega)
      have e2:aX (s / 4 * 64+8)=s / 4 * 64+8:=aP (by omega) (by omega)
      have e3:aX (s % 4 * aT c)=s % 4 * aT c:=aP (by omega) (by omega)
      have e4:aX (s / 4 * 64+8+s % 4 * aT c)=s / 4 * 64+8+s % 4 * aT c:=aP (by omega) (by omega)
      have h5:¬bX c≤s % 4:=by omega
      simp [h,hc,h3,h5,e0,e1,e2,e3,e4]
    · have h5:bX c≤s % 4:=by omega
      by_cases hc:0≤c∧c≤2 <;> simp [h,hc,h3,h5]
  · simp [h]
end Go.Gv
end
noncomputable section
set_option linter.unusedVariables false
set_option linter.unusedSimpArgs false
namespace Go.Gv
def ldF(l:List Int):Int:=l.foldl (fun n x=>n * 256+x) 0
def pS(l:List Int):Prop:=∀x∈l,0≤x∧x≤255
instance (l:List Int):Decidable (pS l):=by unfold pS;infer_instance
theorem WQ{l:List Int}{k:Nat}(h:k < l.length):ldF (l.take (k+1))=ldF (l.take k) * 256+l[k]:=by
  unfold ldF
  rw [List.take_succ_eq_append_getElem h,List.foldl_append];rfl
theorem ZX{l:List Int}(h:pS l):∀k,k≤l.length→0≤ldF (l.take k)∧ldF (l.take k) < 256 ^ k:=by
  intro k
  induction k with
  | zero=>intro _;simp [ldF]
  | succ k ih =>
    intro hk
    have h1:=ih (by omega)
    have h2:=h _ (List.getElem_mem (show k < l.length by omega))
    rw [WQ (by omega),Int.pow_succ]
    omega
theorem aQU{k:Nat}(h:k≤6):(256:Int) ^ k≤281474976710656:=by
  have h1:(256:Nat) ^ k≤256 ^ 6:=Nat.pow_le_pow_right (by omega) h
  have h2:(256:Nat) ^ 6=281474976710656:=by decide
  rw [h2] at h1
  have h3:((256 ^ k:Nat):Int)≤281474976710656:=by omega
  rw [Int.natCast_pow] at h3
  exact h3
def ld(b:List Int)(at_ w:Nat):Int:=ldF ((b.drop at_).take w)
theorem aHJ{n x:Int}{k:Nat}(hk:k≤6)(h:0≤n∧n < 256 ^ k)(hx:0≤x∧x≤255):aX (aX (n * 256)+x)=n * 256+x∧aX (aX (256 * n)+x)=n * 256+x:=by
  have:=aQU hk
  rw [Int.mul_comm 256 n,aP (x:=n * 256) (by omega) (by omega),aP (by omega) (by omega)]
  exact⟨rfl,rfl⟩
theorem aFB{b:List Int}{a w:Nat}(h:a+w≤b.length):((b.drop a).take w).length=w:=by simp;omega
theorem WR{b:List Int}{a w k:Nat}(h:k < ((b.drop a).take w).length)(h':a+k < b.length):((b.drop a).take w)[k]=b[a+k]:=by simp
theorem aBL{b:List Int}(hb:pS b)(a w:Nat):pS ((b.drop a).take w):=fun x hx=>hb x (List.mem_of_mem_drop (List.mem_of_mem_take hx))
theorem KX{b:List Int}(hb:pS b){a w:Nat}(hw:w≤7)(h:a+w≤b.length)(hl:b.length≤100000):AE b (a:Int) (w:Int)=some (ld b a w):=by
  unfold AE
  have hlen:=aFB h
  have hbb:=aBL hb a w
  have key:loop (p7 b (a:Int) (w:Int)) (0,0)=some (ld b a w):=by
    refine iB (f:=p7 b (a:Int) (w:Int)) w (fun k=>(ldF (((b.drop a).take w).take k),(k:Int))) _ (fun k hk=>?_) ?_
    · have hb1:=ZX hbb k (by omega)
      have hk':k < ((b.drop a).take w).length:=by omega
      have hx:=hbb _ (List.getElem_mem hk')
      have hs:=aHJ (by omega) hb1 hx
      rw [WR hk' (by omega)] at hs
      have e1:aX ((a:Int)+k)=((a+k:Nat):Int):=by rw [aP (by omega) (by omega)];omega
      simp only [p7]
      rw [if_pos (by simp;omega),e1,aW (by omega)]
      simp only [Option.bind_some,hs.1,WQ hk',WR hk' (show a+k < b.length by omega)]
      rw [aP (x:=(k:Int)+1) (by omega) (by omega)];rfl
    · have:((b.drop a).take w).take w=(b.drop a).take w:=by rw [List.take_take];simp
      simp [p7,this,ld]
  rw [key];rfl
theorem BI{b:List Int}(hb:pS b){a w:Nat}(hw:w≤7)(h:a+w≤b.length)(hl:b.length≤100000):nV b (a:Int) (w:Int)=some (ld b a w):=by
  unfold nV
  have hlen:=aFB h
  have hbb:=aBL hb a w
  have e0:aX ((a:Int)+w)=((a+w:Nat):Int):=by rw [aP (by omega) (by omega)];omega
  have e2:(b.take (a+w)).drop a=(b.drop a).take w:=by rw [List.drop_take];congr 1;omega
  rw [aU (by rw [e0];omega)]
  have key:loop (oQ b (a:Int) (w:Int)) (0,0)=some (ld b a w):=by
    refine iB (f:=oQ b (a:Int) (w:Int)) w (fun k=>(ldF (((b.drop a).take w).take k),(k:Int))) _ (fun k hk=>?_) ?_
    · have hb1:=ZX hbb k (by omega)
      have hk':k < ((b.drop a).take w).length:=by omega
      have hx:=hbb _ (List.getElem_mem hk')
      have hs:=aHJ (by omega) hb1 hx
      simp only [oQ,e0,Int.toNat_natCast,e2]
      rw [if_pos (by simp;omega),aW hk']
      simp only [Option.bind_some,hs.2,WQ hk']
      rw [aP (x:=(k:Int)+1) (by omega) (by omega)];rfl
    · have:((b.drop a).take w).take w=(b.drop a).take w:=by rw [List.take_take];simp
      simp only [oQ,e0,Int.toNat_natCast,e2,this,ld]
      rw [if_neg (by rw [hlen];simp)]
  rw [key];rfl
theorem CP{l:List Int}(hl:l.length≤maxLen)(f:Int→Bool):dX l (fun x=>some (f x))=some (l.any f):=by
  unfold dX qP
  have key:∀k:Nat,k≤l.length→loop (fS l (fun x=>some (f x))) (k:Int)=some (if (l.drop k).any f then Out.ret ((k+(l.drop k).findIdx f:Nat):Int) else Out.brk ()):=by
    refine aAN l.length _ fun k hk=>?_
    by_cases h3:k < l.length
    · have hd:l.drop k=l[k] :: l.drop (k+1):=List.drop_eq_getElem_cons h3
      simp only [fS]
      rw [if_pos (by simp;omega),aW h3,jD (sM h3 hl),hd]
      simp only [Option.bind_some,List.any_cons,List.findIdx_cons]
      by_cases h4:f l[k]=true
      · left;simp [h4]
      · right
        have h4:f l[k]=false:=by simpa using h4
        refine⟨h3,by simp [h4],?_⟩
        simp only [h4,Bool.false_or,cond_false]
        congr 2;omega
    · left
      obtain rfl:k=l.length:=by omega
      simp [fS]
  have t0:loop (fS l (fun x=>some (f x))) 0=_:=key 0 (by omega)
  rw [t0]
  simp only [List.drop_zero]
  by_cases h:l.any f=true
  · simp [h,mS]
  · have h:l.any f=false:=by simpa using h
    simp [h,mS,vS]
def BOk(b:List Int):Prop:=b.length≤1000∧pS b
instance (b:List Int):Decidable (BOk b):=by unfold BOk;infer_instance
theorem S9{b:List Int}(hl:b.length≤maxLen):BY b=some (decide (BOk b)):=by
  unfold BY
  have key:loop (kU b) 0=some (if ∀x∈b,0≤x∧x≤255 then Out.brk () else Out.ret false):=by
    refine nA (f:=kU b) b (fun k=>(k:Int)) (fun x=>0≤x∧x≤255) _ _ (fun k h hp=>?_) (fun k h hp=>?_) ?_
    · simp only [kU]
      rw [if_pos (by simp;omega),aW h,jD (sM h hl)]
      simp [bJ,hp]
    · simp only [kU]
      rw [if_pos (by simp;omega),aW h]
      simp only [Option.bind_some,bJ,hp,decide_false,Bool.not_false,if_true]
    · simp [kU]
  rw [key]
  by_cases h:∀x∈b,0≤x∧x≤255
  · rw [if_pos h]
    have:BOk b↔b.length≤1000:=⟨fun q=>q.1,fun q=>⟨q,h⟩⟩
    simp only [Option.bind_some,A1,IF,this]
    congr 1;rw [Bool.eq_iff_iff];simp;omega
  · rw [if_neg h]
    have:¬BOk b:=fun q=>h q.2
    simp [A1,this]
theorem L5{α:Type}{p:α→Prop}[DecidablePred p](l:List α):(l.any fun x=>!decide (p x))=!decide (∀x∈l,p x):=by
  rw [Bool.eq_iff_iff];simp
theorem TA{b:List Int}(hl:b.length≤maxLen):B6 b=some (decide (BOk b)):=by
  unfold B6 uB
  have e:(fun y0=>wR y0)=fun y:Int=>some (!decide (0≤y∧y≤255)):=by
    funext y;simp [wR,J1,d6]
  rw [e,CP hl,L5]
  by_cases h:b.length≤1000
  · have:BOk b↔∀x∈b,0≤x∧x≤255:=⟨fun q=>q.2,fun q=>⟨h,q⟩⟩
    have h':(b.length:Int)≤1000:=by omega
    simp [h',this]
  · have:¬BOk b:=fun q=>h q.1
    have h':¬(b.length:Int)≤1000:=by omega
    simp [h',this]
def dE(h:aB):Prop:=h.Bytes.length=384∧h.Class.length=6∧pS h.Bytes∧∀c∈h.Class,-1≤c∧c≤2
instance (h:aB):Decidable (dE h):=by unfold dE;infer_instance
theorem I7{h:aB}(hl:h.Bytes.length≤maxLen):wA h=some (decide (dE h)):=by
  unfold wA oD
  by_cases h1:h.Bytes.length=384
  · by_cases h2:h.Class.length=6
    · rw [S9 hl]
      have n1:((h.Bytes.length:Int) != 384)=false:=by simp;omega
      have n2:((h.Class.length:Int) != 6)=false:=by simp;omega
      simp only [n1,n2,Bool.false_eq_true,if_false,Option.bind_some]
      by_cases h3:pS h.Bytes
      · have b1:BOk h.Bytes:=⟨by omega,h3⟩
        have key:loop (kV h) 0=some (if ∀x∈h.Class,-1≤x∧x≤2 then Out.brk () else Out.ret false):=by
          refine nA (f:=kV h) h.Class (fun k=>(k:Int)) (fun x=>-1≤x∧x≤2) _ _ (fun k h hp=>?_) (fun k h hp=>?_) ?_
          · simp only [kV]
            rw [if_pos (by simp;omega),aW h,aP (by omega) (by omega)]
            simp [bJ,hp]
          · simp only [kV]
            rw [if_pos (by simp;omega),aW h]
            simp only [Option.bind_some,bJ]
            rw [decide_eq_false hp];rfl
          · simp [kV,h2]
        rw [key]
        have:dE h↔∀x∈h.Class,-1≤x∧x≤2:=⟨fun q=>q.2.2.2,fun q=>⟨h1,h2,h3,q⟩⟩
        simp only [b1,decide_true,Bool.not_true,Bool.false_eq_true,if_false,this]
        by_cases h4:∀x∈h.Class,-1≤x∧x≤2
        · rw [if_pos h4,decide_eq_true h4];rfl
        · rw [if_neg h4,decide_eq_false h4];rfl
      · have b1:¬BOk h.Bytes:=fun q=>h3 q.2
        have:¬dE h:=fun q=>h3 q.2.2.1
        simp [b1,this]
    · have n1:((h.Bytes.length:Int) != 384)=false:=by simp;omega
      have n2:((h.Class.length:Int) != 6)=true:=by simp;omega
      have:¬dE h:=fun q=>h2 q.2.1
      simp [n1,n2,this]
  · have n1:((h.Bytes.length:Int) != 384)=true:=by simp;omega
    have:¬dE h:=fun q=>h1 q.1
    simp [n1,this]
theorem DR{h:aB}(hl:h.Bytes.length≤maxLen):AG h=some (decide (dE h)):=by
  unfold AG mT
  by_cases h1:h.Bytes.length=384
  · have n1:((h.Bytes.length:Int) == 384)=true:=by simp;omega
    rw [TA hl]
    by_cases h3:pS h.Bytes
    · have b1:BOk h.Bytes:=⟨by omega,h3⟩
      by_cases h2:h.Class.length=6
      · have n2:((h.Class.length:Int) == 6)=true:=by simp;omega
        have e:(fun y0=>zD y0)=fun y:Int=>some (!decide (-1≤y∧y≤2)):=by
          funext y;simp [zD,d6]
        rw [e,CP (by rw [h2];simp [maxLen]),L5]
        have:dE h↔∀x∈h.Class,-1≤x∧x≤2:=⟨fun q=>q.2.2.2,fun q=>⟨h1,h2,h3,q⟩⟩
        simp [n1,n2,b1,this]
      · have n2:((h.Class.length:Int) == 6)=false:=by simp;omega
        have:¬dE h:=fun q=>h2 q.2.1
        simp [n1,n2,b1,this]
    · have b1:¬BOk h.Bytes:=fun q=>h3 q.2
      have:¬dE h:=fun q=>h3 q.2.2.1
      simp [n1,b1,this]
  · have n1:((h.Bytes.length:Int) == 384)=false:=by simp;omega
    have:¬dE h:=fun q=>h1 q.1
    simp [n1,this]
end Go.Gv
end
noncomputable section
set_option linter.unusedVariables false
set_option linter.unusedSimpArgs false
set_option linter.unusedSectionVars false
namespace Go.Gv
def cV(h:aB)(p:Nat):List Int:=(h.Bytes.drop (p * 64)).take 64
def bQ(h:aB)(p:Nat):Int:=h.Class.getD p 0
def kK(h:aB)(p:Nat):Prop:=
  if bQ h p < 0 then ∀x∈cV h p,x=0
  else ((cV h p).getD 0 0=171∧(cV h p).getD 1 0=bQ h p∧(cV h p).getD 2 0=bX (bQ h p))∧(∀x∈((cV h p).drop 3).take 5,x=0)∧∀i,i < (bX (bQ h p)).toNat→1≤ld h.Bytes (p * 64+8+i * (aT (bQ h p)).toNat) 4∧ld h.Bytes (p * 64+8+i * (aT (bQ h p)).toNat) 4≤7
instance (h:aB) (p:Nat):Decidable (kK h p):=by unfold kK;infer_instance
noncomputable section
variable {h:aB} (hs:dE h) {p:Nat} (hp:p < 6)
include hs hp
theorem DS:(cV h p).length=64:=aFB (by have:=hs.1;omega)
theorem KY{k:Nat}(hk:k < 64):h.Bytes[p * 64+k]'(by have:=hs.1;omega)=(cV h p)[k]'(by rw [DS hs hp];exact hk):=(WR (show k < ((h.Bytes.drop (p * 64)).take 64).length by have:=DS hs hp;unfold cV at this;omega) _).symm
theorem ZY{k:Nat}(hk:k < 64):h.Bytes[p * 64+k]'(by have:=hs.1;omega)=(cV h p).getD k 0:=by
  rw [KY hs hp hk,List.getD_eq_getElem?_getD,List.getElem?_eq_getElem (by rw [DS hs hp];exact hk)];rfl
theorem L6:h.Class[p]'(by have:=hs.2.1;omega)=bQ h p:=by
  unfold bQ
  rw [List.getD_eq_getElem?_getD,List.getElem?_eq_getElem (by have:=hs.2.1;omega)];rfl
theorem T9:idx h.Class (p:Int)=some (bQ h p):=by rw [aW (by have:=hs.2.1;omega),L6 hs hp]
theorem WS{k:Nat}(hk:k < 64):idx h.Bytes (((p * 64+k:Nat)):Int)=some ((cV h p).getD k 0):=by
  rw [aW (by have:=hs.1;omega),ZY hs hp hk]
theorem aID:pS (cV h p):=aBL hs.2.2.1 _ _
theorem sE{c:Int}(hc:bQ h p=c){i:Nat}(hi:i < (bX c).toNat):(8+i * (aT c).toNat)+4≤64∧0≤(i:Int) * aT c∧((8+i * (aT c).toNat:Nat):Int)=8+(i:Int) * aT c:=by
  have h1:(i:Int) < bX c:=by omega
  have hc2:0≤c∧c≤2:=iM.1 (by omega)
  rcases eV hc2 with rfl | rfl | rfl
  · have e:aT 0=12:=rfl
    have g:(12:Int).toNat=12:=rfl
    have f:(bX 0).toNat=4:=rfl
    rw [e,g];rw [f] at hi;omega
  · have e:aT 1=20:=rfl
    have g:(20:Int).toNat=20:=rfl
    have f:(bX 1).toNat=2:=rfl
    rw [e,g];rw [f] at hi;omega
  · have e:aT 2=44:=rfl
    have g:(44:Int).toNat=44:=rfl
    have f:(bX 2).toNat=1:=rfl
    rw [e,g];rw [f] at hi;omega
theorem aLY{i:Nat}(hi:i < (bX (bQ h p)).toNat):eW ((p:Int) * 4+i) (bQ h p)=((p * 64+(8+i * (aT (bQ h p)).toNat):Nat):Int):=by
  have hz:=sE hs hp rfl hi
  have hle:=jL (bQ h p)
  unfold eW
  rw [if_pos (by omega)]
  have e1:((p:Int) * 4+i) / 4=p:=by omega
  have e2:((p:Int) * 4+i) % 4=i:=by omega
  rw [e1,e2]
  omega
theorem KZ:EJ h (p:Int)=some (decide (kK h p)):=by
  have hb:=hs.1
  have hl:=DS hs hp
  have e0:aX ((p:Int) * 64)=((p * 64+0:Nat):Int):=by rw [aP (by omega) (by omega)];omega
  have e1:aX (((p * 64+0:Nat):Int)+1)=((p * 64+1:Nat):Int):=by rw [aP (by omega) (by omega)];omega
  have e2:aX (((p * 64+0:Nat):Int)+2)=((p * 64+2:Nat):Int):=by rw [aP (by omega) (by omega)];omega
  have e3:aX (((p * 64+0:Nat):Int)+3)=((p * 64+3:Nat):Int):=by rw [aP (by omega) (by omega)];omega
  have e8:aX (((p * 64+0:Nat):Int)+8)=((p * 64+8:Nat):Int):=by rw [aP (by omega) (by omega)];omega
  have e64:aX (((p * 64+0:Nat):Int)+64)=((p * 64+64:Nat):Int):=by rw [aP (by omega) (by omega)];omega
  unfold EJ
  rw [T9 hs hp]
  simp only [Option.bind_some]
  by_cases hc:bQ h p < 0
  · simp only [hc,decide_true,if_true,e0]
    have key:loop (mJ h (p:Int)) (((p * 64+0:Nat)):Int)=some (if ∀x∈cV h p,x=0 then Out.brk () else Out.ret false):=by
      refine nA (f:=mJ h (p:Int)) (cV h p) (fun k=>((p * 64+k:Nat):Int)) (fun x=>x=0) _ _ (fun k hk hx=>?_) (fun k hk hx=>?_) ?_
      · simp only [mJ,e0,e64]
        rw [if_pos (by simp;omega),aW (by omega),KY hs hp (by omega),aP (by omega) (by omega)]
        simp only [Option.bind_some,hx];simp;omega
      · simp only [mJ,e0,e64]
        rw [if_pos (by simp;omega),aW (by omega),KY hs hp (by omega)]
        have hx':((cV h p)[k] != 0)=true:=by simpa using hx
        simp only [Option.bind_some,hx',if_true]
      · simp only [mJ,e0,e64,hl]
        rw [if_neg (by simp)]
    rw [key]
    have hP:kK h p↔∀x∈cV h p,x=0:=by unfold kK;rw [if_pos hc]
    by_cases h4:∀x∈cV h p,x=0
    · rw [if_pos h4,decide_eq_true (hP.2 h4)];rfl
    · rw [if_neg h4,decide_eq_false (fun q=>h4 (hP.1 q))];rfl
  · have hP:kK h p↔((cV h p).getD 0 0=171∧(cV h p).getD 1 0=bQ h p∧(cV h p).getD 2 0=bX (bQ h p))∧(∀x∈((cV h p).drop 3).take 5,x=0)∧∀i,i < (bX (bQ h p)).toNat→1≤ld h.Bytes (p * 64+8+i * (aT (bQ h p)).toNat) 4∧ld h.Bytes (p * 64+8+i * (aT (bQ h p)).toNat) 4≤7:=by unfold kK;rw [if_neg hc]
    simp only [hc,decide_false,Bool.false_eq_true,if_false,e0,e1,e2,WS hs hp (show 0 < 64 by omega),WS hs hp (show 1 < 64 by omega),WS hs hp (show 2 < 64 by omega),Option.bind_some,eP]
    by_cases a0:(cV h p).getD 0 0=171
    · by_cases a1:(cV h p).getD 1 0=bQ h p
      · by_cases a2:(cV h p).getD 2 0=bX (bQ h p)
        · have n0:((cV h p).getD 0 0 != 171)=false:=by simp only [bne_eq_false_iff_eq];exact a0
          have n1:((cV h p).getD 1 0 != bQ h p)=false:=by simp only [bne_eq_false_iff_eq];exact a1
          have n2:((cV h p).getD 2 0 != bX (bQ h p))=false:=by simp only [bne_eq_false_iff_eq];exact a2
          simp only [n0,n1,n2,Bool.false_eq_true,if_false,iE,e0,e3]
          have hl5:(((cV h p).drop 3).take 5).length=5:=by simp [hl]
          have key:loop (mL h (p:Int)) (((p * 64+3:Nat)):Int)=some (if ∀x∈((cV h p).drop 3).take 5,x=0 then Out.brk () else Out.ret false):=by
            refine nA (f:=mL h (p:Int)) (((cV h p).drop 3).take 5) (fun k=>((p * 64+(3+k):Nat):Int)) (fun x=>x=0) _ _ (fun k hk hx=>?_) (fun k hk hx=>?_) ?_
            · simp only [mL,e0,e8]
              rw [if_pos (by simp;omega),aW (by omega),KY hs hp (by omega),aP (by omega) (by omega),←WR hk (by omega),hx]
              simp;omega
            · simp only [mL,e0,e8]
              rw [if_pos (by simp;omega),aW (by omega),KY hs hp (by omega),←WR hk (by omega)]
              have hx':((((cV h p).drop 3).take 5)[k] != 0)=true:=by simp only [bne_iff_ne];exact hx
              simp only [Option.bind_some,hx',if_true]
            · simp only [mL,e0,e8,hl5]
              rw [if_neg (by simp)]
          rw [key]
          by_cases h4:∀x∈((cV h p).drop 3).take 5,x=0
          · rw [if_pos h4]
            simp only [Option.bind_some,J0,JZ]
            have key2:loop (mK h (p:Int) (bQ h p)) 0=some (if ∀i,i < (bX (bQ h p)).toNat→1≤ld h.Bytes (p * 64+8+i * (aT (bQ h p)).toNat) 4∧ld h.Bytes (p * 64+8+i * (aT (bQ h p)).toNat) 4≤7 then Out.brk () else Out.ret false):=by
              have hle:=jL (bQ h p)
              have hst:∀k:Nat,k < (bX (bQ h p)).toNat→mK h (p:Int) (bQ h p) (k:Int)=if 1≤ld h.Bytes (p * 64+8+k * (aT (bQ h p)).toNat) 4∧ld h.Bytes (p * 64+8+k * (aT (bQ h p)).toNat) 4≤7 then some (.next ((k+1:Nat):Int)) else some (.stop (Out.ret false)):=by
                intro k hk
                have hz:=sE hs hp rfl hk
                have s1:nJ (p:Int) (k:Int)=some ((p:Int) * 4+k):=by
                  unfold nJ p9
                  rw [bJ,bJ]
                  have g1:(0:Int)≤p∧(p:Int)≤5:=by omega
                  have g2:(0:Int)≤k∧(k:Int)≤3:=by omega
                  simp only [Option.bind_some,g1,g2,and_self,decide_true,Bool.not_true,Bool.false_eq_true,if_false]
                  rw [aP (x:=(p:Int) * 4) (by omega) (by omega),aP (by omega) (by omega)]
                have l1:=KX hs.2.2.1 (a:=p * 64+(8+k * (aT (bQ h p)).toNat)) (w:=4) (by omega) (by omega) (by omega)
                simp only [mK,eP,Option.bind_some]
                rw [if_pos (by simp;omega),s1]
                simp only [Option.bind_some,lX,aLY hs hp hk]
                rw [show((4:Nat):Int)=4 from rfl] at l1
                rw [l1,Nat.add_assoc,aP (x:=(k:Int)+1) (by omega) (by omega)]
                simp only [Option.bind_some,bJ]
                by_cases q:1≤ld h.Bytes (p * 64+(8+k * (aT (bQ h p)).toNat)) 4∧ld h.Bytes (p * 64+(8+k * (aT (bQ h p)).toNat)) 4≤7
                · rw [if_pos q,decide_eq_true q];rfl
                · rw [if_neg q,decide_eq_false q];rfl
              refine q9 (f:=mK h (p:Int) (bQ h p)) (bX (bQ h p)).toNat (fun k=>(k:Int)) (fun i=>1≤ld h.Bytes (p * 64+8+i * (aT (bQ h p)).toNat) 4∧ld h.Bytes (p * 64+8+i * (aT (bQ h p)).toNat) 4≤7) _ _ (fun k hk hx=>?_) (fun k hk hx=>?_) ?_
              · rw [hst k hk,if_pos hx]
              · rw [hst k hk,if_neg hx]
              · simp only [mK,eP,Option.bind_some]
                rw [if_neg (by simp;omega)]
            rw [key2]
            by_cases h5:∀i,i < (bX (bQ h p)).toNat→1≤ld h.Bytes (p * 64+8+i * (aT (bQ h p)).toNat) 4∧ld h.Bytes (p * 64+8+i * (aT (bQ h p)).toNat) 4≤7
            · rw [if_pos h5,decide_eq_true (hP.2 ⟨⟨a0,a1,a2⟩,h4,h5⟩)];rfl
            · rw [if_neg h5,decide_eq_false (fun q=>h5 (hP.1 q).2.2)];rfl
          · rw [if_neg h4,decide_eq_false (fun q=>h4 (hP.1 q).2.1)];rfl
        · have n0:((cV h p).getD 0 0 != 171)=false:=by simp only [bne_eq_false_iff_eq];exact a0
          have n1:((cV h p).getD 1 0 != bQ h p)=false:=by simp only [bne_eq_false_iff_eq];exact a1
          have n2:((cV h p).getD 2 0 != bX (bQ h p))=true:=by simp only [bne_iff_ne];exact a2
          simp only [n0,n1,n2,Bool.false_eq_true,if_false,iE,if_true]
          rw [decide_eq_false (fun q=>a2 (hP.1 q).1.2.2)]
      · have n0:((cV h p).getD 0 0 != 171)=false:=by simp only [bne_eq_false_iff_eq];exact a0
        have n1:((cV h p).getD 1 0 != bQ h p)=true:=by simp only [bne_iff_ne];exact a1
        simp only [n0,n1,Bool.false_eq_true,if_false,iE,if_true]
        rw [decide_eq_false (fun q=>a1 (hP.1 q).1.2.1)]
    · have n0:((cV h p).getD 0 0 != 171)=true:=by simp only [bne_iff_ne];exact a0
      simp only [n0,Bool.false_eq_true,if_false,iE,if_true]
      rw [decide_eq_false (fun q=>a0 (hP.1 q).1.1)]
end
end Go.Gv
end
noncomputable section
set_option linter.unusedVariables false
set_option linter.unusedSimpArgs false
set_option linter.unusedSectionVars false
namespace Go.Gv
theorem K0{l:List Int}(hl:l.length≤maxLen):AH l=some (decide (∀x∈l,x=0)):=by
  unfold AH
  have e:(fun y0=>zE y0)=fun y:Int=>some (!decide (y=0)):=by
    funext y;simp [zE,bne];rfl
  rw [e,CP hl,L5]
  simp
noncomputable section
variable {h:aB} (hs:dE h) {p:Nat} (hp:p < 6)
include hs hp
theorem aPD:(h.Bytes.take ((p+1) * 64)).drop (p * 64)=cV h p:=by
  unfold cV
  rw [List.drop_take];congr 1;omega
theorem aOE{a:Nat}(ha:a+4≤64):ld (cV h p) a 4=ld h.Bytes (p * 64+a) 4:=by
  unfold ld cV
  rw [List.drop_take,List.take_take,List.drop_drop]
  congr 2;omega
theorem aFC{k:Nat}(hk:k < 64):idx (cV h p) (k:Int)=some ((cV h p).getD k 0):=by
  have:=DS hs hp
  rw [aW (by omega),List.getD_eq_getElem?_getD,List.getElem?_eq_getElem (by omega)];rfl
theorem K1:EO h (p:Int)=some (decide (kK h p)):=by
  have hb:=hs.1
  have hl:=DS hs hp
  have hm:(cV h p).length≤maxLen:=by rw [hl];simp [maxLen]
  have e0:aX ((p:Int) * 64)=((p * 64:Nat):Int):=by rw [aP (by omega) (by omega)];omega
  have e1:aX (aX ((p:Int)+1) * 64)=(((p+1) * 64:Nat):Int):=by rw [aP (x:=(p:Int)+1) (by omega) (by omega),aP (by omega) (by omega)];omega
  have i0:=aFC hs hp (show 0 < 64 by omega)
  have i1:=aFC hs hp (show 1 < 64 by omega)
  have i2:=aFC hs hp (show 2 < 64 by omega)
  rw [show((0:Nat):Int)=0 from rfl] at i0
  rw [show((1:Nat):Int)=1 from rfl] at i1
  rw [show((2:Nat):Int)=2 from rfl] at i2
  unfold EO
  rw [T9 hs hp]
  simp only [Option.bind_some,e0,e1,Int.toNat_natCast,aPD hs hp]
  rw [aU (by omega)]
  by_cases hc:bQ h p < 0
  · have hP:kK h p↔∀x∈cV h p,x=0:=by unfold kK;rw [if_pos hc]
    simp only [hc,decide_true,if_true,K0 hm,Option.bind_some,hP]
  · have hP:kK h p↔((cV h p).getD 0 0=171∧(cV h p).getD 1 0=bQ h p∧(cV h p).getD 2 0=bX (bQ h p))∧(∀x∈((cV h p).drop 3).take 5,x=0)∧∀i,i < (bX (bQ h p)).toNat→1≤ld h.Bytes (p * 64+8+i * (aT (bQ h p)).toNat) 4∧ld h.Bytes (p * 64+8+i * (aT (bQ h p)).toNat) 4≤7:=by unfold kK;rw [if_neg hc]
    simp only [hc,decide_false,Bool.false_eq_true,if_false,i0,i1,i2,Option.bind_some,uO]
    by_cases a0:(cV h p).getD 0 0=171
    · by_cases a1:(cV h p).getD 1 0=bQ h p
      · by_cases a2:(cV h p).getD 2 0=bX (bQ h p)
        · have n0:((cV h p).getD 0 0 != 171)=false:=by simp only [bne_eq_false_iff_eq];exact a0
          have n1:((cV h p).getD 1 0 != bQ h p)=false:=by simp only [bne_eq_false_iff_eq];exact a1
          have n2:((cV h p).getD 2 0 != bX (bQ h p))=false:=by simp only [bne_eq_false_iff_eq];exact a2
          have t8:((cV h p).take (8:Int).toNat).drop (3:Int).toNat=((cV h p).drop 3).take 5:=by
            rw [show(8:Int).toNat=8 from rfl,show(3:Int).toNat=3 from rfl,List.drop_take]
          simp only [n0,n1,n2,Bool.false_eq_true,if_false,fZ,t8]
          rw [aU (by omega),K0 (by simp [maxLen];omega)]
          by_cases h4:∀x∈((cV h p).drop 3).take 5,x=0
          · simp only [decide_eq_true h4,Option.bind_some,Bool.not_true,Bool.false_eq_true,if_false,uO]
            have key2:loop (mU h (p:Int) (bQ h p) (bX (bQ h p))) 0=some (if ∀i,i < (bX (bQ h p)).toNat→1≤ld h.Bytes (p * 64+8+i * (aT (bQ h p)).toNat) 4∧ld h.Bytes (p * 64+8+i * (aT (bQ h p)).toNat) 4≤7 then Out.brk () else Out.ret false):=by
              have hle:=jL (bQ h p)
              have hst:∀k:Nat,k < (bX (bQ h p)).toNat→mU h (p:Int) (bQ h p) (bX (bQ h p)) (k:Int)=if 1≤ld h.Bytes (p * 64+8+k * (aT (bQ h p)).toNat) 4∧ld h.Bytes (p * 64+8+k * (aT (bQ h p)).toNat) 4≤7 then some (.next ((k+1:Nat):Int)) else some (.stop (Out.ret false)):=by
                intro k hk
                have hz:=sE hs hp rfl hk
                have e5:aX (8+aX ((k:Int) * aT (bQ h p)))=((8+k * (aT (bQ h p)).toNat:Nat):Int):=by
                  rw [aP (x:=(k:Int) * aT (bQ h p)) (by omega) (by omega),aP (by omega) (by omega)];omega
                have l1:=BI (aID hs hp) (a:=8+k * (aT (bQ h p)).toNat) (w:=4) (by omega) (by omega) (by omega)
                rw [show((4:Nat):Int)=4 from rfl,aOE hs hp (by omega)] at l1
                simp only [mU,GV,Option.bind_some,e0,e1,Int.toNat_natCast,aPD hs hp,e5]
                rw [if_pos (by simp;omega),l1,Nat.add_assoc,aP (x:=(k:Int)+1) (by omega) (by omega)]
                simp only [Option.bind_some,d6]
                by_cases q:1≤ld h.Bytes (p * 64+(8+k * (aT (bQ h p)).toNat)) 4∧ld h.Bytes (p * 64+(8+k * (aT (bQ h p)).toNat)) 4≤7
                · rw [if_pos q,decide_eq_true q];rfl
                · rw [if_neg q,decide_eq_false q];rfl
              refine q9 (f:=mU h (p:Int) (bQ h p) (bX (bQ h p))) (bX (bQ h p)).toNat (fun k=>(k:Int)) (fun i=>1≤ld h.Bytes (p * 64+8+i * (aT (bQ h p)).toNat) 4∧ld h.Bytes (p * 64+8+i * (aT (bQ h p)).toNat) 4≤7) _ _ (fun k hk hx=>?_) (fun k hk hx=>?_) ?_
              · rw [hst k hk,if_pos hx]
              · rw [hst k hk,if_neg hx]
              · simp only [mU]
                rw [if_neg (by simp;omega)]
            rw [key2]
            by_cases h5:∀i,i < (bX (bQ h p)).toNat→1≤ld h.Bytes (p * 64+8+i * (aT (bQ h p)).toNat) 4∧ld h.Bytes (p * 64+8+i * (aT (bQ h p)).toNat) 4≤7
            · rw [if_pos h5,decide_eq_true (hP.2 ⟨⟨a0,a1,a2⟩,h4,h5⟩)];rfl
            · rw [if_neg h5,decide_eq_false (fun q=>h5 (hP.1 q).2.2)];rfl
          · simp only [decide_eq_false h4,Option.bind_some,Bool.not_false,if_true]
            rw [decide_eq_false (fun q=>h4 (hP.1 q).2.1)]
        · have n0:((cV h p).getD 0 0 != 171)=false:=by simp only [bne_eq_false_iff_eq];exact a0
          have n1:((cV h p).getD 1 0 != bQ h p)=false:=by simp only [bne_eq_false_iff_eq];exact a1
          have n2:((cV h p).getD 2 0 != bX (bQ h p))=true:=by simp only [bne_iff_ne];exact a2
          simp only [n0,n1,n2,Bool.false_eq_true,if_false,fZ,if_true]
          rw [decide_eq_false (fun q=>a2 (hP.1 q).1.2.2)]
      · have n0:((cV h p).getD 0 0 != 171)=false:=by simp only [bne_eq_false_iff_eq];exact a0
        have n1:((cV h p).getD 1 0 != bQ h p)=true:=by simp only [bne_iff_ne];exact a1
        simp only [n0,n1,Bool.false_eq_true,if_false,fZ,if_true]
        rw [decide_eq_false (fun q=>a1 (hP.1 q).1.2.1)]
    · have n0:((cV h p).getD 0 0 != 171)=true:=by simp only [bne_iff_ne];exact a0
      simp only [n0,Bool.false_eq_true,if_false,fZ,if_true]
      rw [decide_eq_false (fun q=>a0 (hP.1 q).1.1)]
end
instance (h:aB):Decidable (∀p,p < 6→kK h p):=Nat.decidableBallLT 6 fun p _=>kK h p
def N9(h:aB):Prop:=dE h∧∀p,p < 6→kK h p
instance (h:aB):Decidable (N9 h):=by unfold N9;infer_instance
theorem K2{h:aB}(hl:h.Bytes.length≤maxLen):vM h=some (decide (N9 h)):=by
  unfold vM
  rw [I7 hl]
  by_cases hs:dE h
  · have key:loop (qA h) 0=some (if ∀p,p < 6→kK h p then Out.brk () else Out.ret false):=by
      refine q9 (f:=qA h) 6 (fun k=>(k:Int)) (fun p=>kK h p) _ _ (fun k hk hx=>?_) (fun k hk hx=>?_) ?_
      · simp only [qA]
        rw [if_pos (by simp;omega),KZ hs hk,aP (by omega) (by omega),decide_eq_true hx];rfl
      · simp only [qA]
        rw [if_pos (by simp;omega),KZ hs hk,decide_eq_false hx];rfl
      · rfl
    simp only [Option.bind_some,decide_eq_true hs,Bool.not_true,Bool.false_eq_true,if_false]
    rw [key]
    by_cases h4:∀p,p < 6→kK h p
    · rw [if_pos h4,decide_eq_true (show N9 h from ⟨hs,h4⟩)];rfl
    · rw [if_neg h4,decide_eq_false (fun q:N9 h=>h4 q.2)];rfl
  · rw [decide_eq_false (fun q:N9 h=>hs q.1),decide_eq_false hs];rfl
theorem DT{h:aB}(hl:h.Bytes.length≤maxLen):AI h=some (decide (N9 h)):=by
  unfold AI
  rw [DR hl]
  by_cases hs:dE h
  · have key:loop (qQ h) 0=some (if ∀p,p < 6→kK h p then Out.brk () else Out.ret false):=by
      refine q9 (f:=qQ h) 6 (fun k=>(k:Int)) (fun p=>kK h p) _ _ (fun k hk hx=>?_) (fun k hk hx=>?_) ?_
      · simp only [qQ]
        rw [if_pos (by simp;omega),K1 hs hk,aP (by omega) (by omega),decide_eq_true hx];rfl
      · simp only [qQ]
        rw [if_pos (by simp;omega),K1 hs hk,decide_eq_false hx];rfl
      · rfl
    simp only [Option.bind_some,decide_eq_true hs,Bool.not_true,Bool.false_eq_true,if_false]
    rw [key]
    by_cases h4:∀p,p < 6→kK h p
    · rw [if_pos h4,decide_eq_true (show N9 h from ⟨hs,h4⟩)];rfl
    · rw [if_neg h4,decide_eq_false (fun q:N9 h=>h4 q.2)];rfl
  · rw [decide_eq_false (fun q:N9 h=>hs q.1),decide_eq_false hs];rfl
def bB(h:aB)(s:Int):Int:=if (0≤s∧s≤23)∧s % 4 < bX (bQ h (s / 4).toNat) then bQ h (s / 4).toNat else -1
theorem uP{h:aB}{s:Int}(hc:0≤bB h s):(0≤s∧s≤23)∧s % 4 < bX (bQ h (s / 4).toNat)∧bB h s=bQ h (s / 4).toNat:=by
  unfold bB at hc ⊢
  split at hc
  · rename_i h1;exact⟨h1.1,h1.2,by rw [if_pos h1]⟩
  · omega
theorem gN{h:aB}(hs:dE h)(s:Int):g9 h s=some (bB h s):=by
  unfold g9 oF bB
  rw [KW,I6]
  by_cases h1:0≤s∧s≤23
  · obtain⟨k,rfl⟩:=Int.eq_ofNat_of_zero_le h1.1
    have hk:k / 4 < 6:=by omega
    have e1:((k:Int) / 4)=((k / 4:Nat):Int):=by omega
    have hi:=T9 hs hk
    have n1:¬((k / 4:Nat):Int) < 0:=by omega
    simp only [h1,and_self,if_true,Option.bind_some,e1,n1,decide_false,Bool.false_eq_true,if_false,hi,Int.toNat_natCast,true_and]
    by_cases h2:bQ h (k / 4) < 0
    · have h3:bX (bQ h (k / 4))=0:=aBK (by omega)
      have h4:¬(k:Int) % 4 < 0:=by omega
      simp [h2,h3,h4]
    · by_cases h3:(k:Int) % 4 < bX (bQ h (k / 4))
      · have h4:¬bX (bQ h (k / 4))≤(k:Int) % 4:=by omega
        simp [h2,h3,h4,eP]
      · have h4:bX (bQ h (k / 4))≤(k:Int) % 4:=by omega
        simp [h2,h3,h4,eP]
  · simp [h1]
theorem lD{h:aB}(hs:dE h)(s:Int):lM h s=some (bB h s):=by
  unfold lM uC bB
  rw [rA]
  by_cases h1:0≤s∧s≤23
  · obtain⟨k,rfl⟩:=Int.eq_ofNat_of_zero_le h1.1
    have hk:k / 4 < 6:=by omega
    have e1:((k:Int) / 4)=((k / 4:Nat):Int):=by omega
    have hi:=T9 hs hk
    have e2:aX (Int.tdiv (k:Int) 4)=((k / 4:Nat):Int):=by rw [AT (by omega),aP (by omega) (by omega)];omega
    simp only [h1,and_self,decide_true,Bool.not_true,Bool.false_eq_true,if_true,Option.bind_some,e1,e2,if_false,hi,Int.toNat_natCast,true_and,tQ]
    by_cases h3:(k:Int) % 4 < bX (bQ h (k / 4))
    · have hm:=DQ (c:=bQ h (k / 4)) (by omega) h3
      have hg:¬eW (k:Int) (bQ h (k / 4)) < 0:=by
        unfold eW;rw [if_pos ⟨h1,h3⟩];omega
      simp [h3,hg]
    · have hg:eW (k:Int) (bQ h (k / 4)) < 0:=by
        unfold eW;rw [if_neg (fun q=>h3 q.2)];omega
      simp [h3,hg]
  · simp [h1]
def jZ(h:aB)(s:Int):Int:=ld h.Bytes (eW s (bB h s)).toNat 4
theorem zZ{h:aB}{s:Int}(hc:0≤bB h s):0≤eW s (bB h s)∧eW s (bB h s)+4≤384:=by
  obtain⟨h1,h2,h3⟩:=uP hc
  rw [h3]
  have hm:=DQ (c:=bQ h (s / 4).toNat) (by omega) h2
  have hst:0 < aT (bQ h (s / 4).toNat):=by
    have:0≤bQ h (s / 4).toNat∧bQ h (s / 4).toNat≤2:=iM.1 (by omega)
    rcases eV this with e | e | e <;> rw [e] <;> decide
  have:4≤aT (bQ h (s / 4).toNat):=by
    have:0≤bQ h (s / 4).toNat∧bQ h (s / 4).toNat≤2:=iM.1 (by omega)
    rcases eV this with e | e | e <;> rw [e] <;> decide
  unfold eW;rw [if_pos ⟨h1,h2⟩];omega
theorem lY{h:aB}(hs:dE h){s:Int}(hc:0≤bB h s):qB h s=some (jZ h s):=by
  have hg:=zZ hc
  unfold qB
  rw [gN hs]
  simp only [Option.bind_some,lX]
  have l1:=KX hs.2.2.1 (a:=(eW s (bB h s)).toNat) (w:=4) (by omega) (by have:=hs.1;omega) (by have:=hs.1;omega)
  rw [show((4:Nat):Int)=4 from rfl,Int.toNat_of_nonneg hg.1] at l1
  rw [l1];rfl
theorem z4{h:aB}(hs:dE h){s:Int}(hc:0≤bB h s):vC h s=some (jZ h s):=by
  have hg:=zZ hc
  have hm:h.Bytes.length≤maxLen:=by rw [hs.1];simp [maxLen]
  unfold vC wS
  rw [DR hm,lD hs]
  have l1:=BI hs.2.2.1 (a:=(eW s (bB h s)).toNat) (w:=4) (by omega) (by have:=hs.1;omega) (by have:=hs.1;omega)
  rw [show((4:Nat):Int)=4 from rfl,Int.toNat_of_nonneg hg.1] at l1
  have n1:¬bB h s < 0:=by omega
  simp [hs,n1,tQ,l1,jZ]
end Go.Gv
end
noncomputable section
set_option linter.unusedVariables false
set_option linter.unusedSimpArgs false
set_option linter.unusedSectionVars false
namespace Go.Gv
def cC(l:List aD):List Int:=l.flatMap aD.aO
def dF(l:aA):List Int:=cC l.Global++cC l.aR
def XY(l:aA):Prop:=l.Global.length=3∧l.aR.length=9∧(∀s∈l.aR,s.aO.length≤2)∧(∀x∈dF l,0≤x∧x≤23)∧(dF l).Nodup
instance (l:aA):Decidable (XY l):=by unfold XY;infer_instance
theorem GW{l:List aD}{k:Nat}(h:k < l.length):cC (l.take (k+1))=cC (l.take k)++l[k].aO:=by
  unfold cC
  rw [List.take_succ_eq_append_getElem h,List.flatMap_append];simp
theorem UA(l:List aD)(k:Nat):(cC (l.take k)).length≤(cC l).length:=by
  have:cC l=cC (l.take k)++cC (l.drop k):=by
    unfold cC;rw [←List.flatMap_append,List.take_append_drop]
  rw [this];simp
theorem K3(l:List aD){k:Nat}(h:k < l.length):l[k].aO.length≤(cC l).length:=by
  have h1:=UA l (k+1)
  rw [GW h] at h1
  simp at h1;omega
theorem FV{l:aA}(h:(dF l).length≤1073741824)(hg:l.Global.length≤maxLen)(ho:l.aR.length≤maxLen):yJ l=some (dF l):=by
  have hsum:(cC l.Global).length+(cC l.aR).length≤1073741824:=by simpa [dF] using h
  unfold yJ
  have k1:loop (sU l) ([],0)=some (cC l.Global):=by
    refine iB (f:=sU l) l.Global.length (fun k=>(cC (l.Global.take k),(k:Int))) _ (fun k hk=>?_) ?_
    · have h1:=UA l.Global (k+1)
      rw [GW hk] at h1
      simp only [sU]
      rw [if_pos (by simp;omega),aW hk]
      simp only [Option.bind_some]
      rw [aU (by simp at h1;omega),GW hk,jD (sM hk hg)]
    · simp [sU]
  rw [k1]
  simp only [Option.bind_some,MM,ML]
  have k2:loop (sT l) (cC l.Global,0)=some (dF l):=by
    have:=iB (f:=sT l) l.aR.length (fun k=>(cC l.Global++cC (l.aR.take k),(k:Int))) (dF l) (fun k hk=>?_) ?_
    · simpa [cC] using this
    · have h1:=UA l.aR (k+1)
      rw [GW hk] at h1
      simp only [sT]
      rw [if_pos (by simp;omega),aW hk]
      simp only [Option.bind_some]
      rw [aU (by simp at h1 ⊢;omega),GW hk,jD (sM hk ho),List.append_assoc]
    · simp [sT,dF]
  rw [k2];rfl
theorem z5{l:List Int}(hl:l.length≤maxLen)(x:Int):uY l x=some (decide (x∈l)):=by
  unfold uY
  have key:loop (oZ l x) 0=some (if ∀y∈l,y≠x then Out.brk () else Out.ret true):=by
    refine nA (f:=oZ l x) l (fun k=>(k:Int)) (fun y=>y≠x) _ _ (fun k h hp=>?_) (fun k h hp=>?_) ?_
    · simp only [oZ]
      rw [if_pos (by simp;omega),aW h,jD (sM h hl)]
      have:(l[k] == x)=false:=by simpa using hp
      simp only [Option.bind_some,this,Bool.false_eq_true,if_false]
    · simp only [oZ]
      rw [if_pos (by simp;omega),aW h]
      have:(l[k] == x)=true:=by simpa using hp
      simp only [Option.bind_some,this,if_true]
    · simp [oZ]
  rw [key]
  by_cases h:x∈l
  · rw [if_neg (fun q=>q x h rfl),decide_eq_true h];rfl
  · rw [if_pos (fun y hy (e:y=x)=>h (e ▸ hy)),decide_eq_false h];rfl
theorem HY(l:List Int):l.Nodup↔∀k (h:k < l.length),l[k]∉l.take k:=by
  unfold List.Nodup
  rw [List.pairwise_iff_getElem]
  constructor
  · intro h k hk hm
    obtain⟨i,hi,he⟩:=List.mem_take_iff_getElem.1 hm
    exact h i k (by omega) hk (by omega) he
  · intro h i j hi hj hij he
    exact h j hj (List.mem_take_iff_getElem.2 ⟨i,by omega,he⟩)
theorem lE{l:aA}(h:(dF l).length≤1073741824):nN l=some (decide (XY l)):=by
  unfold nN tX
  by_cases hg:l.Global.length=3
  · by_cases ho:l.aR.length=9
    · have n1:((l.Global.length:Int) != 3)=false:=by simp;omega
      have n2:((l.aR.length:Int) != 9)=false:=by simp;omega
      simp only [n1,n2,Bool.false_eq_true,if_false]
      have k1:loop (kX l) 0=some (if ∀s∈l.aR,s.aO.length≤2 then Out.brk () else Out.ret false):=by
        refine nA (f:=kX l) l.aR (fun k=>(k:Int)) (fun s=>s.aO.length≤2) _ _ (fun k hk hp=>?_) (fun k hk hp=>?_) ?_
        · simp only [kX]
          rw [if_pos (by simp;omega),aW hk,aP (by omega) (by omega)]
          simp only [Option.bind_some]
          rw [if_neg (by simp;omega)];rfl
        · simp only [kX]
          rw [if_pos (by simp;omega),aW hk]
          simp only [Option.bind_some]
          rw [if_pos (by simp;omega)]
        · simp [kX]
      rw [k1]
      by_cases h2:∀s∈l.aR,s.aO.length≤2
      · rw [if_pos h2]
        simp only [Option.bind_some,IH,IG]
        rw [FV h (by rw [hg];simp [maxLen]) (by rw [ho];simp [maxLen])]
        simp only [Option.bind_some]
        have k2:loop (kW (dF l)) 0=some (if ∀k,k < (dF l).length→(0≤(dF l).getD k 0∧(dF l).getD k 0≤23)∧(dF l).getD k 0∉(dF l).take k then Out.brk () else Out.ret false):=by
          have hst:∀k,k < (dF l).length→kW (dF l) (k:Int)=if (0≤(dF l).getD k 0∧(dF l).getD k 0≤23)∧(dF l).getD k 0∉(dF l).take k then some (.next ((k+1:Nat):Int)) else some (.stop (Out.ret false)):=by
            intro k hk
            have e:(dF l).getD k 0=(dF l)[k]:=by rw [List.getD_eq_getElem?_getD,List.getElem?_eq_getElem hk];rfl
            rw [e]
            simp only [kW]
            rw [if_pos (by simp;omega),aW hk]
            simp only [Option.bind_some,bJ,tW]
            by_cases q:0≤(dF l)[k]∧(dF l)[k]≤23
            · rw [decide_eq_true q]
              simp only [Bool.not_true,Bool.false_eq_true,if_false,Int.toNat_natCast,List.drop_zero]
              rw [aU (by omega),z5 (by simp [maxLen];omega),aP (by omega) (by omega)]
              by_cases q2:(dF l)[k]∈(dF l).take k
              · rw [if_neg (fun x=>x.2 q2),decide_eq_true q2];rfl
              · rw [if_pos ⟨q,q2⟩,decide_eq_false q2];rfl
            · rw [decide_eq_false q];simp only [Bool.not_false,if_true];rw [if_neg (fun x=>q x.1)]
          refine q9 (f:=kW (dF l)) (dF l).length (fun k=>(k:Int)) (fun k=>(0≤(dF l).getD k 0∧(dF l).getD k 0≤23)∧(dF l).getD k 0∉(dF l).take k) _ _ (fun k hk hx=>?_) (fun k hk hx=>?_) ?_
          · rw [hst k hk,if_pos hx]
          · rw [hst k hk,if_neg hx]
          · simp [kW]
        rw [k2]
        have hiff:XY l↔∀k,k < (dF l).length→(0≤(dF l).getD k 0∧(dF l).getD k 0≤23)∧(dF l).getD k 0∉(dF l).take k:=by
          have e:∀k (hk:k < (dF l).length),(dF l).getD k 0=(dF l)[k]:=fun k hk=>by rw [List.getD_eq_getElem?_getD,List.getElem?_eq_getElem hk];rfl
          constructor
          · rintro⟨_,_,_,q1,q2⟩ k hk
            rw [e k hk]
            exact⟨q1 _ (List.getElem_mem hk),(HY _).1 q2 k hk⟩
          · intro q
            refine⟨hg,ho,h2,fun x hx=>?_,(HY _).2 fun k hk=>?_⟩
            · obtain⟨k,hk,rfl⟩:=List.mem_iff_getElem.1 hx
              have:=(q k hk).1;rw [e k hk] at this;exact this
            · have:=(q k hk).2;rw [e k hk] at this;exact this
        by_cases q:XY l
        · rw [if_pos (hiff.1 q),decide_eq_true q];rfl
        · rw [if_neg (fun x=>q (hiff.2 x)),decide_eq_false q];rfl
      · rw [if_neg h2,decide_eq_false (fun q:XY l=>h2 q.2.2.1)];rfl
    · have n1:((l.Global.length:Int) != 3)=false:=by simp;omega
      have n2:((l.aR.length:Int) != 9)=true:=by simp;omega
      simp only [n1,n2,Bool.false_eq_true,if_false,if_true]
      rw [decide_eq_false (fun q:XY l=>ho q.2.1)]
  · have n1:((l.Global.length:Int) != 3)=true:=by simp;omega
    simp only [n1,if_true]
    rw [decide_eq_false (fun q:XY l=>hg q.1)]
def tR:List Bool→List Int→Option (List Bool)
  | met,[]=>some met
  | met,x :: r=>if (0≤x∧x≤23)∧met.getD x.toNat true=false then tR (met.set x.toNat true) r else none
theorem ZZ:∀{xs:List Int} {met m:List Bool},tR met xs=some m→m.length=met.length
  | [],met,m,h=>by simp [tR] at h;rw [h]
  | x :: r, met, m, h => by
    simp only [tR] at h
    split at h
    · have:=ZZ h;simpa using this
    · cases h
theorem PD:∀(a b:List Int) (met:List Bool),tR met (a++b)=(tR met a).bind fun m=>tR m b
  | [],b,met=>rfl
  | x :: r, b, met => by
    simp only [List.cons_append,tR]
    split
    · exact PD r b _
    · rfl
theorem N3:∀(xs:List Int) (met:List Bool),met.length=24→((tR met xs).isSome=true↔(∀x∈xs,0≤x∧x≤23)∧xs.Nodup∧∀x∈xs,met.getD x.toNat true=false)
  | [],met,hm=>by simp [tR]
  | x :: r, met, hm => by
    simp only [tR]
    by_cases h:(0≤x∧x≤23)∧met.getD x.toNat true=false
    · rw [if_pos h,N3 r _ (by simpa using hm)]
      have hset:∀y,0≤y∧y≤23→(((met.set x.toNat true).getD y.toNat true=false)↔(y≠x∧met.getD y.toNat true=false)):=by
        intro y hy
        rw [List.getD_eq_getElem?_getD,List.getD_eq_getElem?_getD]
        by_cases e:y=x
        · subst e;rw [List.getElem?_set_self (by omega)];simp
        · rw [List.getElem?_set_ne (by omega)];simp [e]
      constructor
      · rintro⟨q1,q2,q3⟩
        refine⟨fun y hy=>?_,List.nodup_cons.2 ⟨fun hx=>?_,q2⟩,fun y hy=>?_⟩
        · rcases List.mem_cons.1 hy with rfl | hy
          · exact h.1
          · exact q1 y hy
        · exact((hset x h.1).1 (q3 x hx)).1 rfl
        · rcases List.mem_cons.1 hy with rfl | hy
          · exact h.2
          · exact((hset y (q1 y hy)).1 (q3 y hy)).2
      · rintro⟨q1,q2,q3⟩
        have q2:=List.nodup_cons.1 q2
        refine⟨fun y hy=>q1 y (List.mem_cons_of_mem _ hy),q2.2,fun y hy=>(hset y (q1 y (List.mem_cons_of_mem _ hy))).2 ⟨fun e=>q2.1 (e ▸ hy),q3 y (List.mem_cons_of_mem _ hy)⟩⟩
    · rw [if_neg h]
      constructor
      · intro q;cases q
      · rintro⟨q1,q2,q3⟩
        exact(h ⟨q1 x List.mem_cons_self,q3 x List.mem_cons_self⟩).elim
def aBM:Option (List Bool)→Out (List Bool) Bool
  | some m=>.brk m
  | none=>.ret false
theorem aSN{s:aD}(hl:s.aO.length≤maxLen):∀d k (met:List Bool),k+d=s.aO.length→met.length=24→loop (iY s) ((k:Int),met)=some (aBM (tR met (s.aO.drop k))):=by
  intro d
  induction d with
  | zero =>
    intro k met hk hm
    rw [bN (r:=Out.brk met) (by simp [iY];omega),List.drop_eq_nil_of_le (by omega)];rfl
  | succ d ih =>
    intro k met hk hm
    have hk':k < s.aO.length:=by omega
    have hd:s.aO.drop k=s.aO[k] :: s.aO.drop (k+1):=List.drop_eq_getElem_cons hk'
    have hst:iY s ((k:Int),met)=if (0≤s.aO[k]∧s.aO[k]≤23)∧met.getD s.aO[k].toNat true=false then some (.next (((k+1:Nat):Int),met.set s.aO[k].toNat true)) else some (.stop (Out.ret false)):=by
      simp only [iY]
      rw [if_pos (by simp;omega),aW hk']
      simp only [Option.bind_some,rA]
      generalize s.aO[k]=x
      by_cases q:0≤x∧x≤23
      · obtain⟨j,rfl⟩:=Int.eq_ofNat_of_zero_le q.1
        have hj:j < met.length:=by omega
        have e:met.getD j true=met[j]:=by rw [List.getD_eq_getElem?_getD,List.getElem?_eq_getElem hj];rfl
        simp only [q,and_self,decide_true,Bool.not_true,Bool.false_eq_true,if_false,lA,Int.toNat_natCast,true_and,e]
        rw [aU (by omega),aW hj]
        simp only [Option.bind_some]
        cases met[j]
        · simp only [Bool.false_eq_true,if_false,if_true]
          rw [aU (by omega),jD (sM hk' hl)]
        · simp
      · rw [decide_eq_false q];simp only [Bool.not_false,if_true,lA];rw [if_neg (fun x=>q x.1)]
    rw [hd,tR]
    by_cases q:(0≤s.aO[k]∧s.aO[k]≤23)∧met.getD s.aO[k].toNat true=false
    · rw [if_pos q] at hst ⊢
      rw [bT hst,ih (k+1) _ (by omega) (by simpa using hm)]
    · rw [if_neg q] at hst ⊢
      rw [bN hst];rfl
def RR(l:List aD):Prop:=∀s∈l,s.aO.length≤2
instance (l:List aD):Decidable (RR l):=by unfold RR;infer_instance
theorem aSO{l:aA}(ho:l.aR.length=9)(hn:(l.aR++l.Global).length≤1000)(hs:∀s∈l.aR++l.Global,s.aO.length≤maxLen):∀d k (met:List Bool),k+d=(l.aR++l.Global).length→met.length=24 →
    loop (i3 l) ((k:Int),met)=some (if RR (((l.aR++l.Global).drop k).take (9 - k))∧(tR met (cC ((l.aR++l.Global).drop k))).isSome=true then Out.brk () else Out.ret false):=by
  intro d
  induction d with
  | zero =>
    intro k met hk hm
    rw [List.drop_eq_nil_of_le (by omega),if_pos ⟨by simp [RR],rfl⟩]
    refine bN ?_
    simp only [i3]
    rw [if_neg (by simp;simp at hk;omega)]
  | succ d ih =>
    intro k met hk hm
    have hk':k < (l.aR++l.Global).length:=by omega
    have hd:(l.aR++l.Global).drop k=(l.aR++l.Global)[k] :: (l.aR++l.Global).drop (k+1):=List.drop_eq_getElem_cons hk'
    have hsk:=hs _ (List.getElem_mem hk')
    have hf:cC ((l.aR++l.Global).drop k)=(l.aR++l.Global)[k].aO++cC ((l.aR++l.Global).drop (k+1)):=by unfold cC;rw [hd,List.flatMap_cons]
    have hin:∀b:Bool,iZ (k:Int) met (l.aR++l.Global)[k] b=if b then some (.stop (Out.ret false)) else (match tR met (l.aR++l.Global)[k].aO with | some m=>some (.next (((k+1:Nat):Int),m)) | none=>some (.stop (Out.ret false))):=by
      intro b
      have h4:=aSN hsk _ 0 met (Nat.zero_add _) hm
      rw [show((0:Nat):Int)=0 from rfl,List.drop_zero] at h4
      unfold iZ
      rw [h4]
      cases b
      · simp only [Bool.false_eq_true,if_false,Option.bind_some]
        cases tR met (l.aR++l.Global)[k].aO with
        | none=>rfl
        | some m=>simp only [aBM,II,uA];rw [aP (by omega) (by omega)];rfl
      · rfl
    have hst:i3 l ((k:Int),met)=iZ (k:Int) met (l.aR++l.Global)[k] (decide (k < 9∧2 < (l.aR++l.Global)[k].aO.length)):=by
      simp only [i3]
      rw [if_pos (by simp;simp at hk';omega),aW hk']
      simp only [Option.bind_some]
      by_cases h9:k < 9
      · rw [if_pos (by simp;omega)]
        congr 1
        rw [Bool.eq_iff_iff];simp only [decide_eq_true_eq];omega
      · rw [if_neg (by simp;omega),decide_eq_false (by omega)]
    rw [hin] at hst
    by_cases h2:k < 9∧2 < (l.aR++l.Global)[k].aO.length
    · rw [decide_eq_true h2] at hst
      simp only [if_true] at hst
      rw [bN hst,if_neg]
      rintro⟨q,_⟩
      have e:9 - k=(9 - (k+1))+1:=by omega
      rw [hd,e,List.take_succ_cons] at q
      have:=q _ List.mem_cons_self
      omega
    · rw [decide_eq_false h2] at hst
      simp only [Bool.false_eq_true,if_false] at hst
      have hcond:RR (((l.aR++l.Global).drop k).take (9 - k))↔RR (((l.aR++l.Global).drop (k+1)).take (9 - (k+1))):=by
        unfold RR
        by_cases h9:k < 9
        · have e:9 - k=(9 - (k+1))+1:=by omega
          rw [hd,e,List.take_succ_cons,List.forall_mem_cons]
          exact⟨fun q=>q.2,fun q=>⟨by omega,q⟩⟩
        · have e:9 - k=0:=by omega
          have e':9 - (k+1)=0:=by omega
          rw [e,e'];simp
      rw [hf,PD]
      cases hg:tR met (l.aR++l.Global)[k].aO with
      | none =>
        rw [hg] at hst
        rw [bN hst,if_neg (by simp)]
      | some m =>
        rw [hg] at hst
        rw [bT hst,ih (k+1) m (by omega) (by rw [ZZ hg];exact hm)]
        simp only [Option.bind_some,hcond]
theorem I8{l:aA}(h:(dF l).length≤1073741824):hU l=some (decide (XY l)):=by
  unfold hU oP
  by_cases hg:l.Global.length=3
  · by_cases ho:l.aR.length=9
    · have n1:((l.Global.length:Int) != 3)=false:=by simp;omega
      have n2:((l.aR.length:Int) != 9)=false:=by simp;omega
      simp only [n1,n2,Bool.false_eq_true,if_false]
      rw [aU (by omega)]
      have hsl:∀s∈l.aR++l.Global,s.aO.length≤maxLen:=by
        intro s hm
        have hsum:(cC l.Global).length+(cC l.aR).length≤1073741824:=by simpa [dF] using h
        have hb:(1073741824:Nat)≤maxLen:=by simp [maxLen]
        rcases List.mem_append.1 hm with hm | hm
        · obtain⟨k,hk,rfl⟩:=List.mem_iff_getElem.1 hm
          have:=K3 l.aR hk;omega
        · obtain⟨k,hk,rfl⟩:=List.mem_iff_getElem.1 hm
          have:=K3 l.Global hk;omega
      have key:=aSO ho (by simp;omega) hsl (l.aR++l.Global).length 0 [false,false,false,false,false,false,false,false,false,false,false,false,false,false,false,false,false,false,false,false,false,false,false,false] (by omega) rfl
      rw [show((0:Nat):Int)=0 from rfl,List.drop_zero,Nat.sub_zero] at key
      rw [key]
      have et:(l.aR++l.Global).take 9=l.aR:=by rw [←ho];simp
      have ef:cC (l.aR++l.Global)=cC l.aR++cC l.Global:=by simp [cC]
      have hm0:∀j:Nat,j < 24→[false,false,false,false,false,false,false,false,false,false,false,false,false,false,false,false,false,false,false,false,false,false,false,false].getD j true=false:=by decide
      have hiff:XY l↔RR ((l.aR++l.Global).take 9)∧(tR [false,false,false,false,false,false,false,false,false,false,false,false,false,false,false,false,false,false,false,false,false,false,false,false] (cC (l.aR++l.Global))).isSome=true:=by
        rw [N3 _ _ rfl,et,ef]
        have hp:(cC l.aR++cC l.Global).Perm (dF l):=List.perm_append_comm
        constructor
        · rintro⟨_,_,q1,q2,q3⟩
          exact⟨q1,fun x hx=>q2 x (hp.mem_iff.1 hx),hp.nodup_iff.2 q3,fun x hx=>hm0 _ (by have:=q2 x (hp.mem_iff.1 hx);omega)⟩
        · rintro⟨q1,q2,q3,_⟩
          exact⟨hg,ho,q1,fun x hx=>q2 x (hp.mem_iff.2 hx),hp.nodup_iff.1 q3⟩
      by_cases q:XY l
      · rw [if_pos (hiff.1 q),decide_eq_true q];rfl
      · rw [if_neg (fun x=>q (hiff.2 x)),decide_eq_false q];rfl
    · have n1:((l.Global.length:Int) != 3)=false:=by simp;omega
      have n2:((l.aR.length:Int) != 9)=true:=by simp;omega
      simp only [n1,n2,Bool.false_eq_true,if_false,if_true]
      rw [decide_eq_false (fun q:XY l=>ho q.2.1)]
  · have n1:((l.Global.length:Int) != 3)=true:=by simp;omega
    simp only [n1,if_true]
    rw [decide_eq_false (fun q:XY l=>hg q.1)]
end Go.Gv
end
noncomputable section
set_option linter.unusedVariables false
set_option linter.unusedSimpArgs false
set_option linter.unusedSectionVars false
namespace Go.Gv
def xR(h:aB)(l:List Int)(c:Int):Prop:=∀x∈l,bB h x=c∧jZ h x≤6
instance (h:aB) (l:List Int) (c:Int):Decidable (xR h l c):=by unfold xR;infer_instance
theorem GX{h:aB}(hs:dE h){l:List Int}(hl:l.length≤maxLen){c:Int}(hc:0≤c):sV h l c=some (decide (xR h l c)):=by
  unfold sV
  have key:loop (jU h l c) 0=some (if ∀x∈l,bB h x=c∧jZ h x≤6 then Out.brk () else Out.ret false):=by
    have hst:∀k (hk:k < l.length),jU h l c (k:Int)=if bB h l[k]=c∧jZ h l[k]≤6 then some (.next ((k+1:Nat):Int)) else some (.stop (Out.ret false)):=by
      intro k hk
      simp only [jU]
      rw [if_pos (by simp;omega),aW hk]
      generalize l[k]=x
      simp only [Option.bind_some,gN hs,rO]
      by_cases q:bB h x=c
      · have n1:(bB h x != c)=false:=by simp only [bne_eq_false_iff_eq];exact q
        simp only [n1,Bool.false_eq_true,if_false,lY hs (show 0≤bB h x by omega),Option.bind_some,jD (sM hk hl)]
        by_cases q2:jZ h x≤6
        · rw [if_neg (by simp;omega),if_pos ⟨q,q2⟩]
        · rw [if_pos (by simp;omega),if_neg (fun x=>q2 x.2)]
      · have n1:(bB h x != c)=true:=by simp only [bne_iff_ne];exact q
        simp only [n1,if_true]
        rw [if_neg (fun x=>q x.1)]
    refine nA (f:=jU h l c) l (fun k=>(k:Int)) (fun x=>bB h x=c∧jZ h x≤6) _ _ (fun k hk hp=>?_) (fun k hk hp=>?_) ?_
    · rw [hst k hk,if_pos hp]
    · rw [hst k hk,if_neg hp]
    · simp [jU]
  rw [key]
  by_cases q:∀x∈l,bB h x=c∧jZ h x≤6
  · rw [if_pos q,decide_eq_true (show xR h l c from q)];rfl
  · rw [if_neg q,decide_eq_false (show ¬xR h l c from q)];rfl
theorem GY{h:aB}(hs:dE h){s:aD}(hl:s.aO.length≤maxLen){c:Int}(hc:0≤c):tG h s c=some (decide (xR h s.aO c)):=by
  unfold tG
  have key:loop (jV h s c) 0=some (if ∀x∈s.aO,bB h x=c∧jZ h x≤6 then Out.brk () else Out.ret false):=by
    have hst:∀k (hk:k < s.aO.length),jV h s c (k:Int)=if bB h s.aO[k]=c∧jZ h s.aO[k]≤6 then some (.next ((k+1:Nat):Int)) else some (.stop (Out.ret false)):=by
      intro k hk
      simp only [jV]
      rw [if_pos (by simp;omega),aW hk]
      generalize s.aO[k]=x
      simp only [Option.bind_some,lD hs,rU]
      by_cases q:bB h x=c
      · have n1:(bB h x != c)=false:=by simp only [bne_eq_false_iff_eq];exact q
        simp only [n1,Bool.false_eq_true,if_false,z4 hs (show 0≤bB h x by omega),Option.bind_some,jD (sM hk hl)]
        by_cases q2:jZ h x≤6
        · rw [if_neg (by simp;omega),if_pos ⟨q,q2⟩]
        · rw [if_pos (by simp;omega),if_neg (fun x=>q2 x.2)]
      · have n1:(bB h x != c)=true:=by simp only [bne_iff_ne];exact q
        simp only [n1,if_true]
        rw [if_neg (fun x=>q x.1)]
    refine nA (f:=jV h s c) s.aO (fun k=>(k:Int)) (fun x=>bB h x=c∧jZ h x≤6) _ _ (fun k hk hp=>?_) (fun k hk hp=>?_) ?_
    · rw [hst k hk,if_pos hp]
    · rw [hst k hk,if_neg hp]
    · simp [jV]
  rw [key]
  by_cases q:∀x∈s.aO,bB h x=c∧jZ h x≤6
  · rw [if_pos q,decide_eq_true (show xR h s.aO c from q)];rfl
  · rw [if_neg q,decide_eq_false (show ¬xR h s.aO c from q)];rfl
def dT(l:List aD)(k:Nat):List Int:=(l.getD k ⟨[]⟩).aO
theorem cJ{l:List aD}{k:Nat}(h:k < l.length):l[k].aO=dT l k:=by
  unfold dT;rw [List.getD_eq_getElem?_getD,List.getElem?_eq_getElem h];rfl
def EA(m:Mem)(k:Nat):Prop:=xR m.aB (dT m.aA.Global k) (k:Int)
def xS(m:Mem)(k:Nat):Prop:=xR m.aB (dT m.aA.aR k) ((k % 3:Nat):Int)
instance (m:Mem) (k:Nat):Decidable (EA m k):=by unfold EA;infer_instance
instance (m:Mem) (k:Nat):Decidable (xS m k):=by unfold xS;infer_instance
instance (m:Mem):Decidable (∀k,k < 3→EA m k):=Nat.decidableBallLT 3 fun k _=>EA m k
instance (m:Mem):Decidable (∀k,k < 9→xS m k):=Nat.decidableBallLT 9 fun k _=>xS m k
instance (m:Mem) (c:Nat):Decidable (∀w,w < 3→xS m (w * 3+c)):=Nat.decidableBallLT 3 fun w _=>xS m (w * 3+c)
instance (m:Mem):Decidable (∀k,k < 3→EA m k∧∀w,w < 3→xS m (w * 3+k)):=Nat.decidableBallLT 3 fun k _=>EA m k∧∀w,w < 3→xS m (w * 3+k)
def kO(m:Mem):Prop:=(N9 m.aB∧XY m.aA)∧(∀k,k < 3→EA m k)∧∀k,k < 9→xS m k
instance (m:Mem):Decidable (kO m):=by unfold kO;infer_instance
theorem XY.PE{l:aA}(h:XY l)(hb:(dF l).length≤1073741824):(∀s∈l.Global,s.aO.length≤1073741824)∧∀s∈l.aR,s.aO.length≤1073741824:=by
  have hsum:(cC l.Global).length+(cC l.aR).length≤1073741824:=by simpa [dF] using hb
  constructor
  · intro s hm
    obtain⟨k,hk,rfl⟩:=List.mem_iff_getElem.1 hm
    have:=K3 l.Global hk;omega
  · intro s hm
    obtain⟨k,hk,rfl⟩:=List.mem_iff_getElem.1 hm
    have:=K3 l.aR hk;omega
theorem aHK{m:Mem}:(∀k,k < 3→EA m k∧∀w,w < 3→xS m (w * 3+k))↔(∀k,k < 3→EA m k)∧∀k,k < 9→xS m k:=by
  constructor
  · intro h
    refine⟨fun k hk=>(h k hk).1,fun k hk=>?_⟩
    have:=(h (k % 3) (by omega)).2 (k / 3) (by omega)
    have e:k / 3 * 3+k % 3=k:=by omega
    rwa [e] at this
  · rintro⟨h1,h2⟩ k hk
    exact⟨h1 k hk,fun w hw=>h2 _ (by omega)⟩
theorem FW{m:Mem}(hb:m.aB.Bytes.length≤maxLen)(hl:(dF m.aA).length≤1073741824):qC m=some (decide (kO m)):=by
  unfold qC zA
  rw [K2 hb,lE hl]
  by_cases h1:N9 m.aB
  · by_cases h2:XY m.aA
    · have hmx:(1073741824:Nat)≤maxLen:=by simp [maxLen]
      have hsl:=XY.PE h2 hl
      simp only [decide_eq_true h1,decide_eq_true h2,Option.bind_some,Bool.not_true,Bool.false_eq_true,if_false]
      have k3:∀c:Nat,c < 3→loop (sW m (c:Int)) 0=some (if ∀w,w < 3→xS m (w * 3+c) then Out.brk () else Out.ret false):=by
        intro c hc
        have hst:∀w:Nat,w < 3→sW m (c:Int) (w:Int)=if xS m (w * 3+c) then some (.next ((w+1:Nat):Int)) else some (.stop (Out.ret false)):=by
          intro w hw
          have hk:w * 3+c < m.aA.aR.length:=by rw [h2.2.1];omega
          have e:j8 (w:Int) (c:Int)=some ((w * 3+c:Nat):Int):=by
            unfold j8 o4
            rw [bJ,bJ,decide_eq_true (by omega),decide_eq_true (by omega)]
            simp only [Option.bind_some,Bool.not_true,Bool.false_eq_true,if_false]
            rw [aP (x:=(w:Int) * 3) (by omega) (by omega),aP (by omega) (by omega)];rfl
          have hlen:=hsl.2 _ (List.getElem_mem hk)
          simp only [sW]
          rw [if_pos (by simp;omega),e]
          simp only [Option.bind_some,aW hk]
          rw [GX h1.1 (by omega) (by omega),cJ hk]
          have em:(w * 3+c) % 3=c:=by omega
          have ho:xS m (w * 3+c)↔xR m.aB (dT m.aA.aR (w * 3+c)) (c:Int):=by unfold xS;rw [em]
          rw [aP (by omega) (by omega)]
          by_cases q:xS m (w * 3+c)
          · rw [if_pos q,decide_eq_true (ho.1 q)];rfl
          · rw [if_neg q,decide_eq_false (fun x=>q (ho.2 x))];rfl
        refine q9 (f:=sW m (c:Int)) 3 (fun k=>(k:Int)) (fun w=>xS m (w * 3+c)) _ _ (fun k hk hx=>?_) (fun k hk hx=>?_) ?_
        · rw [hst k hk,if_pos hx]
        · rw [hst k hk,if_neg hx]
        · rfl
      have k2:loop (sY m) 0=some (if ∀k,k < 3→EA m k∧∀w,w < 3→xS m (w * 3+k) then Out.brk () else Out.ret false):=by
        have hst:∀c:Nat,c < 3→sY m (c:Int)=if EA m c∧∀w,w < 3→xS m (w * 3+c) then some (.next ((c+1:Nat):Int)) else some (.stop (Out.ret false)):=by
          intro c hc
          have hk:c < m.aA.Global.length:=by rw [h2.1];omega
          have hlen:=hsl.1 _ (List.getElem_mem hk)
          simp only [sY]
          rw [if_pos (by simp;omega)]
          simp only [Option.bind_some,aW hk]
          rw [GX h1.1 (by omega) (by omega),cJ hk,k3 c hc]
          by_cases q:EA m c
          · have q':xR m.aB (dT m.aA.Global c) (c:Int):=q
            rw [decide_eq_true q']
            simp only [Option.bind_some,Bool.not_true,Bool.false_eq_true,if_false]
            by_cases q2:∀w,w < 3→xS m (w * 3+c)
            · rw [if_pos q2,if_pos ⟨q,q2⟩]
              simp only [MO,MN]
              rw [aP (by omega) (by omega)];rfl
            · rw [if_neg q2,if_neg (fun x=>q2 x.2)];rfl
          · have q':¬xR m.aB (dT m.aA.Global c) (c:Int):=q
            rw [decide_eq_false q',if_neg (fun x:EA m c∧_=>q x.1)];rfl
        refine q9 (f:=sY m) 3 (fun k=>(k:Int)) (fun k=>EA m k∧∀w,w < 3→xS m (w * 3+k)) _ _ (fun k hk hx=>?_) (fun k hk hx=>?_) ?_
        · rw [hst k hk,if_pos hx]
        · rw [hst k hk,if_neg hx]
        · rfl
      rw [k2]
      by_cases q:∀k,k < 3→EA m k∧∀w,w < 3→xS m (w * 3+k)
      · rw [if_pos q,decide_eq_true (show kO m from ⟨⟨h1,h2⟩,aHK.1 q⟩)];rfl
      · rw [if_neg q,decide_eq_false (fun x:kO m=>q (aHK.2 x.2))];rfl
    · rw [decide_eq_false (fun q:kO m=>h2 q.1.2),decide_eq_true h1,decide_eq_false h2];rfl
  · rw [decide_eq_false (fun q:kO m=>h1 q.1.1),decide_eq_false h1];rfl
theorem NG{m:Mem}(hb:m.aB.Bytes.length≤maxLen)(hl:(dF m.aA).length≤1073741824):C6 m=some (decide (kO m)):=by
  unfold C6 zF
  rw [DT hb,I8 hl]
  by_cases h1:N9 m.aB
  · by_cases h2:XY m.aA
    · have hmx:(1073741824:Nat)≤maxLen:=by simp [maxLen]
      have hsl:=XY.PE h2 hl
      simp only [decide_eq_true h1,decide_eq_true h2,Option.bind_some,Bool.not_true,Bool.false_eq_true,if_false]
      have k3:loop (o9 m) 0=some (if ∀k,k < 9→xS m k then Out.brk () else Out.ret false):=by
        have hst:∀w:Nat,w < 9→o9 m (w:Int)=if xS m w then some (.next ((w+1:Nat):Int)) else some (.stop (Out.ret false)):=by
          intro w hw
          have hk:w < m.aA.aR.length:=by rw [h2.2.1];omega
          have hlen:=hsl.2 _ (List.getElem_mem hk)
          have em:Int.tmod (w:Int) 3=((w % 3:Nat):Int):=by rw [oX (by omega)];omega
          simp only [o9]
          rw [if_pos (by simp;omega)]
          simp only [Option.bind_some,aW hk,em]
          rw [GY h1.1 (by omega) (by omega),cJ hk,aP (by omega) (by omega)]
          by_cases q:xS m w
          · rw [if_pos q,decide_eq_true (show xR m.aB (dT m.aA.aR w) ((w % 3:Nat):Int) from q)];rfl
          · rw [if_neg q,decide_eq_false (show ¬xR m.aB (dT m.aA.aR w) ((w % 3:Nat):Int) from q)];rfl
        refine q9 (f:=o9 m) 9 (fun k=>(k:Int)) (fun w=>xS m w) _ _ (fun k hk hx=>?_) (fun k hk hx=>?_) ?_
        · rw [hst k hk,if_pos hx]
        · rw [hst k hk,if_neg hx]
        · simp [o9,h2.2.1]
      have k2:loop (pA m) 0=some (if ∀k,k < 3→EA m k then Out.brk () else Out.ret false):=by
        have hst:∀w:Nat,w < 3→pA m (w:Int)=if EA m w then some (.next ((w+1:Nat):Int)) else some (.stop (Out.ret false)):=by
          intro w hw
          have hk:w < m.aA.Global.length:=by rw [h2.1];omega
          have hlen:=hsl.1 _ (List.getElem_mem hk)
          simp only [pA]
          rw [if_pos (by simp;omega)]
          simp only [Option.bind_some,aW hk]
          rw [GY h1.1 (by omega) (by omega),cJ hk,aP (by omega) (by omega)]
          by_cases q:EA m w
          · rw [if_pos q,decide_eq_true (show xR m.aB (dT m.aA.Global w) (w:Int) from q)];rfl
          · rw [if_neg q,decide_eq_false (show ¬xR m.aB (dT m.aA.Global w) (w:Int) from q)];rfl
        refine q9 (f:=pA m) 3 (fun k=>(k:Int)) (fun w=>EA m w) _ _ (fun k hk hx=>?_) (fun k hk hx=>?_) ?_
        · rw [hst k hk,if_pos hx]
        · rw [hst k hk,if_neg hx]
        · simp [pA,h2.1]
      rw [k2]
      by_cases q:∀k,k < 3→EA m k
      · rw [if_pos q]
        simp only [Option.bind_some,MS,MR]
        rw [k3]
        by_cases q2:∀k,k < 9→xS m k
        · rw [if_pos q2,decide_eq_true (show kO m from ⟨⟨h1,h2⟩,q,q2⟩)];rfl
        · rw [if_neg q2,decide_eq_false (fun x:kO m=>q2 x.2.2)];rfl
      · rw [if_neg q,decide_eq_false (fun x:kO m=>q x.2.1)];rfl
    · rw [decide_eq_false (fun q:kO m=>h2 q.1.2),decide_eq_true h1,decide_eq_false h2];rfl
  · rw [decide_eq_false (fun q:kO m=>h1 q.1.1),decide_eq_false h1];rfl
end Go.Gv
end
noncomputable section
set_option linter.unusedVariables false
set_option linter.unusedSimpArgs false
set_option linter.unusedSectionVars false
namespace Go.Gv
theorem rB{l:List aD}{s:aD}(h:s∈l):s.aO.length≤(cC l).length:=by
  obtain⟨k,hk,rfl⟩:=List.mem_iff_getElem.1 h
  exact K3 l hk
theorem fK(l:aA):(dF l).length=(cC l.Global).length+(cC l.aR).length:=by simp [dF]
def lZ(m:Mem):Prop:=m.aB.Bytes.length≤1048576∧m.aB.Class.length≤1048576∧m.aA.Global.length≤1048576∧m.aA.aR.length≤1048576∧(dF m.aA).length≤1048576
theorem lZ.PE{m:Mem}(h:lZ m):(∀s∈m.aA.Global,s.aO.length≤1048576)∧∀s∈m.aA.aR,s.aO.length≤1048576:=by
  have:=fK m.aA
  have h5:=h.2.2.2.2
  exact⟨fun s hm=>by have:=rB hm;omega,fun s hm=>by have:=rB hm;omega⟩
end Go.Gv
end
noncomputable section
set_option linter.unusedVariables false
set_option linter.unusedSimpArgs false
set_option linter.unusedSectionVars false
namespace Go.Gv
def POk(e:Int)(p:dS):Prop:=(0≤p.aE∧p.aE≤e)∧(0≤p.Seen∧p.Seen≤2)∧(p.On=false→p=⟨false,0,false,0⟩)
instance (e:Int) (p:dS):Decidable (POk e p):=by unfold POk;infer_instance
def AX(c:aC):Prop:=(0≤c.aE∧c.aE≤100000)∧c.aN.length=3∧∀p∈c.aN,POk c.aE p
instance (c:aC):Decidable (AX c):=by unfold AX;infer_instance
theorem fL(c:aC):jE c=some (decide (AX c)):=by
  unfold jE
  rw [bJ]
  by_cases h1:0≤c.aE∧c.aE≤100000
  · by_cases h2:c.aN.length=3
    · simp only [Option.bind_some,h1,h2,kT]
      have key:∀k:Nat,k≤3→loop (oC c) (k:Int)=some (if ∀p∈c.aN.drop k,POk c.aE p then Out.brk () else Out.ret false):=by
        refine aAN 3 _ fun k hk=>?_
        by_cases h3:k < 3
        · have hd:c.aN.drop k=c.aN[k] :: c.aN.drop (k+1):=List.drop_eq_getElem_cons (by omega)
          simp only [oC]
          rw [if_pos (by simp;omega),aW (by omega)]
          simp only [Option.bind_some,bJ,iW,hd]
          rw [jD (by simp [maxLen];omega)]
          generalize c.aN[k]=p
          have hp:POk c.aE p↔decide (0≤p.aE∧p.aE≤c.aE)=true∧decide (0≤p.Seen∧p.Seen≤2)=true∧(p.On=false→decide (p=⟨false,0,false,0⟩)=true):=by simp only [POk,decide_eq_true_eq]
          simp only [List.forall_mem_cons,hp]
          generalize decide (0≤p.aE∧p.aE≤c.aE)=b1
          generalize decide (0≤p.Seen∧p.Seen≤2)=b2
          generalize decide (p=⟨false,0,false,0⟩)=b3
          generalize p.On=b4
          cases b1 <;> cases b2 <;> cases b3 <;> cases b4 <;> simp [h3]
        · left
          obtain rfl:k=3:=by omega
          simp [oC,List.drop_eq_nil_of_le (show c.aN.length≤3 by omega)]
      have:=key 0 (by omega)
      simp only [Int.ofNat_zero,List.drop_zero] at this
      have e:decide (AX c)=if ∀p∈c.aN,POk c.aE p then true else false:=by
        have:AX c↔∀p∈c.aN,POk c.aE p:=⟨fun h=>h.2.2,fun h=>⟨h1,h2,h⟩⟩
        simp [this]
      rw [e]
      simp only [Int.cast_ofNat_Int] at *
      have t0:loop (oC c) 0=_:=this
      by_cases h5:∀p∈c.aN,POk c.aE p
      · rw [if_pos h5] at t0 ⊢;rw [t0];simp [A0,IE]
      · rw [if_neg h5] at t0 ⊢;rw [t0];simp [A0]
    · simp [h1,h2,kT,AX]
      omega
  · simp [h1,kT,AX]
theorem aDF(p:dS)(c:aC):qO p c=some (!decide (POk c.aE p)):=by
  unfold qO iQ
  rw [d6,d6]
  have hp:decide (POk c.aE p)=(decide (0≤p.aE∧p.aE≤c.aE) && (decide (0≤p.Seen∧p.Seen≤2) && (p.On || decide (p=⟨false,0,false,0⟩)))):=by
    rw [Bool.eq_iff_iff];simp only [POk,decide_eq_true_eq,Bool.and_eq_true,Bool.or_eq_true]
    by_cases h:p.On=true
    · simp [h]
    · simp [(by simpa using h:p.On=false)]
  rw [hp]
  generalize decide (0≤p.aE∧p.aE≤c.aE)=b1
  generalize decide (0≤p.Seen∧p.Seen≤2)=b2
  generalize decide (p=⟨false,0,false,0⟩)=b3
  generalize p.On=b4
  cases b1 <;> cases b2 <;> cases b3 <;> cases b4 <;> rfl
theorem aBO{l:List dS}(hl:l.length≤maxLen)(f:dS→Bool):iP l (fun x=>some (f x))=some (l.any f):=by
  unfold iP qN
  have key:∀k:Nat,k≤l.length→loop (fQ l (fun x=>some (f x))) (k:Int)=some (if (l.drop k).any f then Out.ret ((k+(l.drop k).findIdx f:Nat):Int) else Out.brk ()):=by
    refine aAN l.length _ fun k hk=>?_
    by_cases h3:k < l.length
    · have hd:l.drop k=l[k] :: l.drop (k+1):=List.drop_eq_getElem_cons h3
      simp only [fQ]
      rw [if_pos (by simp;omega),aW h3,jD (sM h3 hl),hd]
      simp only [Option.bind_some,List.any_cons,List.findIdx_cons]
      by_cases h4:f l[k]=true
      · left;simp [h4]
      · right
        have h4:f l[k]=false:=by simpa using h4
        refine⟨h3,by simp [h4],?_⟩
        simp only [h4,Bool.false_or,cond_false]
        congr 2;omega
    · left
      obtain rfl:k=l.length:=by omega
      simp [fQ]
  have t0:loop (fQ l (fun x=>some (f x))) 0=_:=key 0 (by omega)
  rw [t0]
  simp only [List.drop_zero]
  by_cases h:l.any f=true
  · simp [h,mR]
  · have h:l.any f=false:=by simpa using h
    simp [h,mR,vR]
theorem gO{c:aC}(hc:c.aN.length≤maxLen):hQ c=some (decide (AX c)):=by
  unfold hQ oO
  rw [d6]
  have e:(fun y0=>qO y0 c)=fun y0=>some (!decide (POk c.aE y0)):=funext fun y=>aDF y c
  rw [e,aBO hc]
  by_cases h1:0≤c.aE∧c.aE≤100000
  · by_cases h2:c.aN.length=3
    · have:AX c↔∀p∈c.aN,POk c.aE p:=⟨fun h=>h.2.2,fun h=>⟨h1,h2,h⟩⟩
      have e2:(c.aN.any fun y0=>!decide (POk c.aE y0))=!decide (∀p∈c.aN,POk c.aE p):=by
        rw [Bool.eq_iff_iff];simp
      simp [h1,h2,this,e2]
    · have:¬(c.aN.length:Int)=3:=by omega
      simp [h1,this,h2,AX]
  · simp [h1,AX]
end Go.Gv
end
noncomputable section
set_option linter.unusedVariables false
set_option linter.unusedSimpArgs false
set_option linter.unusedSectionVars false
namespace Go.Gv
def bH(l:List aK):List bM:=l.flatMap aK.Rows
theorem DU{l:List aK}{k:Nat}(h:k < l.length):bH (l.take (k+1))=bH (l.take k)++l[k].Rows:=by
  unfold bH
  rw [List.take_succ_eq_append_getElem h,List.flatMap_append];simp
theorem PF(l:List aK)(k:Nat):(bH (l.take k)).length≤(bH l).length:=by
  have:bH l=bH (l.take k)++bH (l.drop k):=by
    unfold bH;rw [←List.flatMap_append,List.take_append_drop]
  rw [this];simp
theorem aIE(l:List aK){k:Nat}(h:k < l.length):l[k].Rows.length≤(bH l).length:=by
  have h1:=PF l (k+1)
  rw [DU h] at h1
  simp at h1;omega
theorem GZ{l:List aK}{s:aK}(h:s∈l):s.Rows.length≤(bH l).length:=by
  obtain⟨k,hk,rfl⟩:=List.mem_iff_getElem.1 h
  exact aIE l hk
theorem DV{l:List aK}(h:(bH l).length≤1073741824)(hl:l.length≤maxLen):vN l=some (bH l):=by
  unfold vN
  have k1:loop (qD l) ([],0)=some (bH l):=by
    refine iB (f:=qD l) l.length (fun k=>(bH (l.take k),(k:Int))) _ (fun k hk=>?_) ?_
    · have h1:=PF l (k+1)
      rw [DU hk] at h1
      simp only [qD]
      rw [if_pos (by simp;omega),aW hk]
      simp only [Option.bind_some]
      rw [aU (by simp at h1;omega),DU hk,jD (sM hk hl)]
    · simp [qD]
  rw [k1];rfl
def pK(h:Int):Prop:=(32≤h∧h≤223)∧h % 32 < 24
instance (h:Int):Decidable (pK h):=by unfold pK;infer_instance
theorem g7(h:Int):hC h=some (decide (pK h)):=by
  unfold hC rP pK
  rw [bJ]
  by_cases q:32≤h∧h≤223
  · simp [q,oX (show 0≤h by omega)]
  · simp [q]
theorem nB(h:Int):fW h=some (decide (pK h)):=by
  unfold fW jW pK
  rw [d6]
  by_cases q:32≤h∧h≤223
  · simp [q,oX (show 0≤h by omega)]
  · simp [q]
theorem pK.mod{h:Int}(q:pK h):Int.tmod h 32=h % 32∧0≤h % 32∧h % 32≤23:=by
  unfold pK at q
  exact⟨oX (by omega),by omega,by omega⟩
theorem dB(h:Int):eE h=some (if pK h then h % 32 else -1):=by
  unfold eE
  rw [g7]
  by_cases q:pK h
  · simp [q,q.mod.1]
  · simp [q]
def tS(r:bM):Prop:=pK r.Handle∧0≤r.aE∧r.aE≤100000
instance (r:bM):Decidable (tS r):=by unfold tS;infer_instance
def kL(r:bM):Int:=r.Handle % 32
def l6(l:List aK):Prop:=l.length=3∧(bH l).length≤24∧(∀r∈bH l,tS r)∧((bH l).map kL).Nodup
instance (l:List aK):Decidable (l6 l):=by unfold l6;infer_instance
def rowAt(l:List bM)(k:Nat):bM:=l.getD k ⟨0,0⟩
theorem L7{l:List bM}{k:Nat}(h:k < l.length):rowAt l k=l[k]:=by
  unfold rowAt;rw [List.getD_eq_getElem?_getD,List.getElem?_eq_getElem h];rfl
theorem BJ{l:List aK}(h:(bH l).length≤1073741824)(hl:l.length≤maxLen):rQ l=some (decide (l6 l)):=by
  unfold rQ tY
  rw [DV h hl]
  simp only [Option.bind_some]
  by_cases h3:l.length=3
  · have n1:((l.length:Int) != 3)=false:=by simp;omega
    simp only [n1,Bool.false_eq_true,if_false]
    by_cases h24:(bH l).length≤24
    · rw [if_neg (by simp;omega)]
      have hst:∀k,k < (bH l).length→oJ (bH l) (((bH l).take k).map kL,(k:Int))=if tS (rowAt (bH l) k)∧kL (rowAt (bH l) k)∉((bH l).take k).map kL then some (.next (((bH l).take (k+1)).map kL,((k+1:Nat):Int))) else some (.stop (Out.ret false)):=by
        intro k hk
        simp only [oJ,oH]
        rw [if_pos (by simp;omega),aW hk,L7 hk]
        simp only [Option.bind_some,dB,bJ]
        by_cases q:pK (bH l)[k].Handle
        · have hm:=q.mod
          rw [if_pos q,if_neg (by simp;omega)]
          by_cases q2:0≤(bH l)[k].aE∧(bH l)[k].aE≤100000
          · rw [decide_eq_true q2]
            simp only [Bool.not_true,Bool.false_eq_true,if_false]
            rw [z5 (by simp [maxLen];omega)]
            simp only [Option.bind_some]
            by_cases q3:(bH l)[k].Handle % 32∈((bH l).take k).map kL
            · rw [decide_eq_true q3];simp only [if_true];rw [if_neg (show ¬(tS (bH l)[k]∧kL (bH l)[k]∉((bH l).take k).map kL) from fun x=>x.2 q3)]
            · rw [decide_eq_false q3]
              simp only [Bool.false_eq_true,if_false]
              rw [if_pos (show tS (bH l)[k]∧kL (bH l)[k]∉((bH l).take k).map kL from ⟨⟨q,q2⟩,q3⟩),aU (by simp;omega),aP (by omega) (by omega),map_take _ hk];rfl
          · rw [decide_eq_false q2]
            simp only [Bool.not_false,if_true]
            rw [if_neg (fun x:tS _∧_=>q2 x.1.2)]
        · rw [if_neg q,if_pos (by simp),if_neg (fun x:tS _∧_=>q x.1.1)];rfl
      have key:=q9 (f:=oJ (bH l)) (bH l).length (fun k=>(((bH l).take k).map kL,(k:Int))) (fun k=>tS (rowAt (bH l) k)∧kL (rowAt (bH l) k)∉((bH l).take k).map kL) (Out.brk ()) (Out.ret false) (fun k hk hx=>by rw [hst k hk,if_pos hx]) (fun k hk hx=>by rw [hst k hk,if_neg hx]) (by simp [oJ])
      rw [List.take_zero,List.map_nil,show((0:Nat):Int)=0 from rfl] at key
      rw [key]
      have hiff:l6 l↔∀k,k < (bH l).length→tS (rowAt (bH l) k)∧kL (rowAt (bH l) k)∉((bH l).take k).map kL:=by
        constructor
        · rintro⟨_,_,q1,q2⟩ k hk
          rw [L7 hk]
          refine⟨q1 _ (List.getElem_mem hk),?_⟩
          have:=(HY _).1 q2 k (by simpa using hk)
          rw [List.getElem_map,←List.map_take] at this
          exact this
        · intro q
          refine⟨h3,h24,fun x hx=>?_,(HY _).2 fun k hk=>?_⟩
          · obtain⟨k,hk,rfl⟩:=List.mem_iff_getElem.1 hx
            have:=(q k hk).1;rw [L7 hk] at this;exact this
          · have hk':k < (bH l).length:=by simpa using hk
            have:=(q k hk').2;rw [L7 hk'] at this
            rw [List.getElem_map,←List.map_take];exact this
      by_cases q:l6 l
      · rw [if_pos (hiff.1 q),decide_eq_true q];rfl
      · rw [if_neg (fun x=>q (hiff.2 x)),decide_eq_false q];rfl
    · rw [if_pos (by simp;omega),decide_eq_false (fun q:l6 l=>h24 q.2.1)]
  · have n1:((l.length:Int) != 3)=true:=by simp;omega
    simp only [n1,if_true]
    rw [decide_eq_false (fun q:l6 l=>h3 q.1)]
def Z0:List Bool→List bM→Option (List Bool)
  | met,[]=>some met
  | met,r :: t=>if tS r∧met.getD (kL r).toNat true=false then Z0 (met.set (kL r).toNat true) t else none
theorem aHL:∀{xs:List bM} {met m:List Bool},Z0 met xs=some m→m.length=met.length
  | [],met,m,h=>by simp [Z0] at h;rw [h]
  | x :: r, met, m, h => by
    simp only [Z0] at h
    split at h
    · have:=aHL h;simpa using this
    · cases h
theorem WT:∀(a b:List bM) (met:List Bool),Z0 met (a++b)=(Z0 met a).bind fun m=>Z0 m b
  | [],b,met=>rfl
  | x :: r, b, met => by
    simp only [List.cons_append,Z0]
    split
    · exact WT r b _
    · rfl
theorem aDG:∀(xs:List bM) (met:List Bool),(Z0 met xs).isSome=true↔(∀r∈xs,tS r)∧(tR met (xs.map kL)).isSome=true
  | [],met=>by simp [Z0,tR]
  | x :: r, met => by
    simp only [Z0,List.map_cons,tR]
    by_cases h:tS x
    · have hm:=h.1.mod
      have hs:0≤kL x∧kL x≤23:=hm.2
      by_cases h2:met.getD (kL x).toNat true=false
      · rw [if_pos ⟨h,h2⟩,if_pos ⟨hs,h2⟩,aDG r _]
        simp [h]
      · rw [if_neg (fun q=>h2 q.2),if_neg (fun q=>h2 q.2)];simp
    · rw [if_neg (fun q=>h q.1)]
      constructor
      · intro q;cases q
      · rintro⟨q,_⟩;exact(h (q x List.mem_cons_self)).elim
theorem aIF{s:aK}(hl:s.Rows.length≤maxLen):∀d k (met:List Bool),k+d=s.Rows.length→met.length=24→loop (i4 s) ((k:Int),met)=some (aBM (Z0 met (s.Rows.drop k))):=by
  intro d
  induction d with
  | zero =>
    intro k met hk hm
    rw [bN (r:=Out.brk met) (by simp [i4];omega),List.drop_eq_nil_of_le (by omega)];rfl
  | succ d ih =>
    intro k met hk hm
    have hk':k < s.Rows.length:=by omega
    have hd:s.Rows.drop k=s.Rows[k] :: s.Rows.drop (k+1):=List.drop_eq_getElem_cons hk'
    have hst:i4 s ((k:Int),met)=if tS s.Rows[k]∧met.getD (kL s.Rows[k]).toNat true=false then some (.next (((k+1:Nat):Int),met.set (kL s.Rows[k]).toNat true)) else some (.stop (Out.ret false)):=by
      simp only [i4]
      rw [if_pos (by simp;omega),aW hk']
      simp only [Option.bind_some,nB,d6]
      generalize s.Rows[k]=x
      by_cases q:pK x.Handle
      · by_cases q2:0≤x.aE∧x.aE≤100000
        · have hm2:=q.mod
          obtain⟨j,hj0⟩:=Int.eq_ofNat_of_zero_le hm2.2.1
          have hj:j < met.length:=by omega
          have e:met.getD j true=met[j]:=by rw [List.getD_eq_getElem?_getD,List.getElem?_eq_getElem hj];rfl
          have hr:tS x:=⟨q,q2⟩
          simp only [q,q2,and_self,decide_true,Bool.not_true,Bool.false_eq_true,if_false,gK,hm2.1,hj0,Int.toNat_natCast,hr,true_and,kL,e]
          rw [aU (by omega),aW hj]
          simp only [Option.bind_some]
          cases met[j]
          · simp only [Bool.false_eq_true,if_false,if_true]
            rw [aU (by omega),jD (sM hk' hl)]
          · simp
        · rw [decide_eq_true q,decide_eq_false q2];simp only [Bool.not_true,Bool.not_false,Bool.false_eq_true,if_false,if_true,gK];rw [if_neg (fun y:tS x∧_=>q2 y.1.2)]
      · rw [decide_eq_false q];simp only [Bool.not_false,if_true,gK];rw [if_neg (fun y:tS x∧_=>q y.1.1)]
    rw [hd,Z0]
    by_cases q:tS s.Rows[k]∧met.getD (kL s.Rows[k]).toNat true=false
    · rw [if_pos q] at hst ⊢
      rw [bT hst,ih (k+1) _ (by omega) (by simpa using hm)]
    · rw [if_neg q] at hst ⊢
      rw [bN hst];rfl
theorem aIG{l:List aK}(hn:l.length≤1000)(hs:∀s∈l,s.Rows.length≤maxLen):∀d k (met:List Bool),k+d=l.length→met.length=24 →
    loop (i5 l) ((k:Int),met)=some (if (Z0 met (bH (l.drop k))).isSome=true then Out.brk () else Out.ret false):=by
  intro d
  induction d with
  | zero =>
    intro k met hk hm
    rw [List.drop_eq_nil_of_le (by omega),if_pos (show(Z0 met (bH [])).isSome=true from rfl)]
    refine bN ?_
    simp only [i5]
    rw [if_neg (by simp;omega)]
  | succ d ih =>
    intro k met hk hm
    have hk':k < l.length:=by omega
    have hd:l.drop k=l[k] :: l.drop (k+1):=List.drop_eq_getElem_cons hk'
    have hsk:=hs _ (List.getElem_mem hk')
    have hf:bH (l.drop k)=l[k].Rows++bH (l.drop (k+1)):=by unfold bH;rw [hd,List.flatMap_cons]
    have h4:=aIF hsk _ 0 met (Nat.zero_add _) hm
    rw [show((0:Nat):Int)=0 from rfl,List.drop_zero] at h4
    have hst:i5 l ((k:Int),met)=(match Z0 met l[k].Rows with | some m=>some (.next (((k+1:Nat):Int),m)) | none=>some (.stop (Out.ret false))):=by
      simp only [i5]
      rw [if_pos (by simp;omega),aW hk']
      simp only [Option.bind_some]
      rw [h4]
      cases Z0 met l[k].Rows with
      | none=>rfl
      | some m=>simp only [Option.bind_some,aBM,IJ,uE];rw [aP (by omega) (by omega)];rfl
    rw [hf,WT]
    cases hg:Z0 met l[k].Rows with
    | none =>
      rw [hg] at hst
      rw [bN hst,if_neg (by simp)]
    | some m =>
      rw [hg] at hst
      rw [bT hst,ih (k+1) m (by omega) (by rw [aHL hg];exact hm)]
      simp only [Option.bind_some]
theorem PG{l:List aK}(hn:l.length≤1000)(h:(bH l).length≤1073741824):qS l=some ((bH l).length:Int):=by
  unfold qS
  have key:loop (f8 l) (0,0)=some ((bH l).length:Int):=by
    refine iB (f:=f8 l) l.length (fun k=>(((bH (l.take k)).length:Int),(k:Int))) _ (fun k hk=>?_) ?_
    · have h1:=PF l (k+1)
      rw [DU hk,List.length_append] at h1
      simp only [f8]
      rw [if_pos (by simp;omega),aW hk]
      simp only [Option.bind_some]
      rw [aP (by omega) (by omega),aP (by omega) (by omega),DU hk,List.length_append]
      simp
    · simp [f8]
  rw [key];rfl
theorem uQ{l:List aK}(h:(bH l).length≤1073741824):jI l=some (decide (l6 l)):=by
  unfold jI
  by_cases h3:l.length=3
  · have n1:((l.length:Int) != 3)=false:=by simp;omega
    have hb:(1073741824:Nat)≤maxLen:=by simp [maxLen]
    simp only [n1,Bool.false_eq_true,if_false]
    have key:=aIG (l:=l) (by omega) (fun s hs=>by have:=GZ hs;omega) l.length 0 [false,false,false,false,false,false,false,false,false,false,false,false,false,false,false,false,false,false,false,false,false,false,false,false] (by omega) rfl
    rw [show((0:Nat):Int)=0 from rfl,List.drop_zero] at key
    rw [key]
    have hm0:∀j:Nat,j < 24→[false,false,false,false,false,false,false,false,false,false,false,false,false,false,false,false,false,false,false,false,false,false,false,false].getD j true=false:=by decide
    have hiff:l6 l↔(bH l).length≤24∧(Z0 [false,false,false,false,false,false,false,false,false,false,false,false,false,false,false,false,false,false,false,false,false,false,false,false] (bH l)).isSome=true:=by
      rw [aDG,N3 _ _ rfl]
      have hr:(∀r∈bH l,tS r)→∀x∈(bH l).map kL,0≤x∧x≤23:=by
        intro q x hx
        obtain⟨r,hr,rfl⟩:=List.mem_map.1 hx
        exact(q r hr).1.mod.2
      constructor
      · rintro⟨_,q1,q2,q3⟩
        exact⟨q1,q2,hr q2,q3,fun x hx=>hm0 _ (by have:=hr q2 x hx;omega)⟩
      · rintro⟨q1,q2,_,q3,_⟩
        exact⟨h3,q1,q2,q3⟩
    by_cases q:(Z0 [false,false,false,false,false,false,false,false,false,false,false,false,false,false,false,false,false,false,false,false,false,false,false,false] (bH l)).isSome=true
    · rw [if_pos q]
      simp only [Option.bind_some,IK,uD]
      rw [PG (by omega) h]
      simp only [Option.bind_some]
      congr 1
      rw [Bool.eq_iff_iff];simp only [decide_eq_true_eq]
      rw [hiff]
      exact⟨fun a=>⟨by omega,q⟩,fun a=>by omega⟩
    · rw [if_neg q,decide_eq_false (fun x=>q (hiff.1 x).2)];rfl
  · have n1:((l.length:Int) != 3)=true:=by simp;omega
    simp only [n1,if_true]
    rw [decide_eq_false (fun q:l6 l=>h3 q.1)]
def kM(h:Int):Prop:=h=0∨pK h
instance (h:Int):Decidable (kM h):=by unfold kM;infer_instance
def EB(z:List Int):Prop:=z.length=3∧∀h∈z,kM h
instance (z:List Int):Decidable (EB z):=by unfold EB;infer_instance
theorem FX{z:List Int}(hl:z.length≤maxLen):yK z=some (decide (EB z)):=by
  unfold yK
  have hst:∀k (hk:k < z.length),sZ z (k:Int)=if kM z[k] then some (.next ((k+1:Nat):Int)) else some (.stop (Out.ret false)):=by
    intro k hk
    simp only [sZ,zB]
    rw [if_pos (by simp;omega),aW hk,jD (sM hk hl)]
    simp only [Option.bind_some,g7]
    generalize z[k]=x
    by_cases q:x=0
    · have n:(x != 0)=false:=by simp only [bne_eq_false_iff_eq];exact q
      rw [n,if_pos (show kM x from .inl q)];rfl
    · have n:(x != 0)=true:=by simp only [bne_iff_ne];exact q
      by_cases q2:pK x
      · rw [n,decide_eq_true q2,if_pos (show kM x from .inr q2)];rfl
      · rw [n,decide_eq_false q2,if_neg (fun a:kM x=>a.elim q q2)];rfl
  have key:=nA (f:=sZ z) z (fun k=>(k:Int)) kM (Out.brk ()) (Out.ret false) (fun k hk hx=>by rw [hst k hk,if_pos hx]) (fun k hk hx=>by rw [hst k hk,if_neg hx]) (by simp [sZ])
  rw [show((0:Nat):Int)=0 from rfl] at key
  rw [key]
  by_cases q:∀x∈z,kM x
  · rw [if_pos q]
    have:EB z↔z.length=3:=⟨fun a=>a.1,fun a=>⟨a,q⟩⟩
    simp only [Option.bind_some,MQ,MP,this]
    congr 1;rw [Bool.eq_iff_iff];simp only [beq_iff_eq,decide_eq_true_eq];omega
  · rw [if_neg q,decide_eq_false (fun a:EB z=>q a.2)];rfl
theorem FY{z:List Int}(hl:z.length≤maxLen):yN z=some (decide (EB z)):=by
  unfold yN zG
  have e:(fun y0=>B7 y0)=fun y:Int=>some (!decide (kM y)):=by
    funext y
    unfold B7 J2 wU
    rw [nB]
    by_cases q:y=0
    · have n:(y == 0)=true:=by simp only [beq_iff_eq];exact q
      rw [n,decide_eq_true (show kM y from .inl q)];rfl
    · have n:(y == 0)=false:=by simp only [beq_eq_false_iff_ne];exact q
      by_cases q2:pK y
      · rw [n,decide_eq_true q2,decide_eq_true (show kM y from .inr q2)];rfl
      · rw [n,decide_eq_false q2,decide_eq_false (fun a:kM y=>a.elim q q2)];rfl
  rw [e,CP hl,L5]
  by_cases h3:z.length=3
  · have n:((z.length:Int) == 3)=true:=by simp;omega
    have:EB z↔∀h∈z,kM h:=⟨fun a=>a.2,fun a=>⟨h3,a⟩⟩
    simp only [n,if_true,Option.bind_some,Bool.not_not,this]
  · have n:((z.length:Int) == 3)=false:=by simp;omega
    simp only [n,Bool.false_eq_true,if_false]
    rw [decide_eq_false (fun a:EB z=>h3 a.1)]
end Go.Gv
end
