import Derived.Test.YtkinioiglogchaaGreatXQE
set_option linter.unusedVariables false
set_option linter.unusedSimpArgs false
set_option linter.unusedSectionVars false
noncomputable section
set_option maxHeartbeats 4000000
set_option maxRecDepth 100000
namespace Go.Proofs.YtkinioiglogchaaGreat
open Go.Gv Tryz
variable{s1 s10 s11 s2 s3 s4 s5 s6 s7 s8 s9:AC}{a_ h i k0 w_ x y:Int}{l s:List KV}{m:Mem}{t:Table}{j:aI}{n:gX}
section
variable {U:Ctx}
theorem aNY{h:Heap}{slot gen:Int}(h1:bH U s1 h.Bytes)(h2:bH U s2 h.Class):VS prog U 268 (WR h slot gen) [.g [.h s1 h.Bytes.length,.h s2 h.Class.length],I slot,I gen] [] [] (λr (y:AC×AC)=>.t [.g [.h y.1 r.1.Bytes.length,.h y.2 r.1.Class.length],.b r.2]) (λr y=>[ow y.1 r.1.Bytes,ow y.2 r.1.Class]):=
 cR call268 func268 Q Q2<|eF 0 3 (λ(p:Int×(List Int)×(List Int))=>M5 slot gen p.1 p.2.1 p.2.2) [1,2,6] (λ(p:Int×(List Int)×(List Int)) (u:AC×AC)=>[(8,.p 2 0),(9,I p.1)]) [1] (λp u=>[ow u.1 (p.2.1:List Int),ow u.2 (p.2.2:List Int),.box 2 [.h u.1 p.2.1.length,.h u.2 p.2.2.length]]) Q (j5 aJ [0,1] Q<|λhF=>bd hF λx10 hA4 hF=>bd hF λx11 hA5 hF=>eT Q2 (MR hA4 Q (λh=>CS (h.a h1) (h.a h2)) λs6=>(by refine eT Q2 ?_ ?_<;>exact HJ hA5 Q (λh=>NH (h.a h1) (h.a h2))<|wi hF<|oP (p:=(x11,x10.Bytes,x10.Class)) (s6.1,s6.2) [2,3,4,1] Q Q)) (MR hA4 Q (λh=>CS (h.a h1) (h.a h2)) λs7=>HJ hA5 Q (λh=>NH (h.a h1) (h.a h2))<|wi hF<|oP (p:=(x11,x10.Bytes,x10.Class)) (s7.1,s7.2) [3,4,2,1] Q Q)) λ⟨x1,x2,x3⟩ ⟨s3,s4⟩=>gD 0 3 (FK slot gen x1 x2 x3) [1,2,6,8,9] 21 [3,0,1,2] Q (gN [16,17] Q2 (cD [3,0,1,2] Q2)<|c0 Q (λ_=>bI) λx9=>cD [3,0,1,2] Q2) λx4=>bY [21] Q2 (j4 (s3,s4) [1,2] Q2)<|eF 0 3 (M4 x3) [6,8] (λ(x5:(List Int)) (_:Unit)=>[]) [0,2] (λx5 _=>[ow s3 (x5:List Int),.box 2 [.h s3 x5.length,.h s4 x3.length]]) Q (j5 aJ [0] Q<|λhF=>bd hF λx6 hA1 hF=>bd hF λx7 hA2 hF=>bd hF λx8 hA3 hF=>eT Q2 (HJ hA1 Q (λ_=>uE)<|HJ hA2 Q (λ_=>dW)<|have hq3:=rb hA3;wi hq3<|LB [1] Q4 (λ_=>gI) λu3 _=>λhq3=>un 4 [24] [] [(3,0)] Q6 λhl2=>match u3,hq3 with|_,rfl=>wi hF<|cD (p:=(x8)) [4,3,0,2] Q2) (HJ hA1 Q (λ_=>uE)<|eT Q2 (HJ hA2 Q (λ_=>dW)<|have hq6:=rb hA3;wi hq6<|LB [1] Q4 (λ_=>gI) λu6 _=>λhq6=>un 4 [24] [] [(3,0)] Q6 λhl3=>match u6,hq6 with|_,rfl=>wi hF<|cD (p:=(x8)) [4,3,0,2] Q2) (HJ hA2 Q (λ_=>dW)<|have hq8:=rb hA3;wi hq8<|LB [1] Q4 (λ_=>gI) λu8 _=>λhq8=>un 4 [24] [] [(3,0)] Q6 λhl4=>match u8,hq8 with|_,rfl=>wi hF<|cD (p:=(x8)) [4,3,0,2] Q2))) λx5 _=>j4 (s3,s4) [0,3] Q2
theorem aUB{l:aE}{c slot:Int}(h1:bH U s1 l.Global)(h2:bH U s2 l.Own):VS prog U 269 (aEL l w_ c slot) [.g [.h s1 l.Global.length,.h s2 l.Own.length],I w_,I c,I slot] [] [] (λr (y:AC×AC)=>.t [.g [.h y.1 r.1.Global.length,.h y.2 r.1.Own.length],.b r.2]) (λr y=>[ow y.1 r.1.Global,ow y.2 r.1.Own]):=
 cR call269 func269 Q Q2<|c1 Q (λh=>jY (h.a h1) (h.a h2)) λx1 s3=>c0 Q (λ_=>aCT) λx2=>gD 0 3 (y7 c slot x1 x2) [2,3,8,10,11] 34 [1,2,3,4] Q (c0 Q (λh=>GF (h.a h1) (h.a h2)) λx6=>gN [20,21] Q2 (cD [1,2,3,4] Q2)<|gN [23,24,25] Q2 (cD [1,2,3,4] Q2)<|c0 Q (λ_=>BJ) λx7=>gN [28,29,30] Q2 (cD [1,2,3,4] Q2)<|c0 Q (λh=>Z5 (h.a h1) (h.a h2)) λx8=>cD [1,2,3,4] Q2) λx3=>bY [34] Q2 (j4 (s3.1,s3.2) [1,2] Q2)<|tD HZ 2 Q3 λx4 h3 s4 h4=>λhF=>oC 3 h4 h3 Q5<|wi hF<|bY [45] Q2 (tD HZ 1 Q3 λx5 h5 s5 h6=>λhF=>oC 4 h6 h5 Q5<|lt1 Q bV Q Q Q Q λs6=>ap 11 bV Q Q Q Q Q Q Q (λh=>(h.o 12 Q)) Q Q hF λhF s7=>sR Q<|nT HZ 8 [11] [47] (⟨x5.aV++([slot])⟩:bG) s7 Q8<|sL s3.1 cZ.symm [(60,0)] [(0,0),(3,0)] Q3<|lM HZ 4 [7] h3 s4 Q7<|fR Q2<|oY (s3.1,s3.2) [13,14] hF Q2 Q4)<|λhF=>lt1 Q bV Q Q Q Q λs8=>ap 7 bV Q Q Q Q Q Q Q (λh=>(h.o 8 Q)) Q Q hF λhF s9=>sR Q<|nT HZ 4 [7] [37] (⟨x4.aV++([slot])⟩:bG) s9 Q8<|sL s3.2 cZ.symm [(60,1)] [(0,1),(3,1)] Q3<|fR Q2<|oY (s3.1,s3.2) [1,9] hF Q2 Q4
theorem aCV(h1:bH U s1 m.Heap.Bytes)(h2:bH U s2 m.Heap.Class)(h3:bH U s3 m.aE.Global)(h4:bH U s4 m.aE.Own):VS prog U 231 (M6 m w_ h) [.g (gM m s1 s2 s3 s4),I w_,I h] [] [] (λr (y:A4C)=>.g (yM r y)) (λr y=>(zM r y [])):=
 cR call231 func231 Q Q2<|c1 Q (λh=>aNY (h.a h1) (h.a h2)) λx1 s5=>eF 0 4 (PX m w_ h) [1,3,6,7,8] (λ(x2:Mem) (u:AC×AC)=>[(11,.p 3 0)]) [0,1] (λx2 u=>(oM x2 s5.1 s5.2 u.1 u.2 [.box 3 (gM x2 s5.1 s5.2 u.1 u.2)])) Q (j5 aJ [0,1,4] Q<|λhF=>bd hF λx6 hA1 hF=>eT Q2 (MR hA1 Q (λh=>jY (h.a h3) (h.a h4)) λs12=>wi hF<|oP (p:=((⟨x1.1,x6⟩:Mem))) (s12.1,s12.2) [2,3,5,6,7,0,1] Q Q) (MR hA1 Q (λh=>jY (h.a h3) (h.a h4)) λs13=>wi hF<|oP (p:=((⟨x1.1,x6⟩:Mem))) (s13.1,s13.2) [2,3,6,7,5,0,1] Q Q)) λx2 ⟨s6,s7⟩=>eF 0 4 PW [6,11] (λ(x3:Mem) (u:AC×AC)=>[]) [6] (λx3 u=>(oM x3 s5.1 s5.2 u.1 u.2 [.box 3 (gM x3 s5.1 s5.2 u.1 u.2)])) Q (bY [31] Q2 (j5 aJ [5,6] Q<|c0 Q (λh=>nR (h.a h1) (h.a h2)) λx4=>c1 Q (λh=>aUB (h.a h3) (h.a h4)) λx5 s10=>oP (s10.1,s10.2) [0,1,7,8,4,6] Q Q)<|oP (s6,s7) [0,1,2,3,4,6] Q Q) λx3 ⟨s8,s9⟩=>j4 (s5.1,s5.2,s8,s9) [0,1,2,3] Q2
theorem Z7{l:List bW}(h1:bH U s1 l):V0 prog U 255 (JJ l w_ i) [.h s1 l.length,I w_,I i] .b:=
 cR call255 func255 Q Q2<|gD 0 0 FL [] 6 [] Q (c0 Q (λ_=>jG) λx2=>gN [8,9] Q2 (sO XE Q h1 Q λx3 s2 h2=>c0 Q (λ_=>bI) λx4=>cD [] Q2)<|cD [] Q2) λx1=>dQ Q2
theorem aFW{r_:fB}{e_:Int}:V0 prog U 257 (RS r_ e_) [.g [I r_.Handle,I r_.aK],I e_] .b:=
 cR call257 func257 Q Q2<|gD 0 1 LQ [] 4 [] Q (gN [6,7] Q2 (cD [] Q2)<|cD [] Q2) λx1=>dQ Q2
theorem ZE{s:Sub}{b:aA}{b0 b1:Nat×Nat}:VS prog U 256 (pN s b w_) [.p 0 0,.p 1 0,I w_] [b0,b1] ([.box 0 (gSb s),.box 1 (gB b s1 s2 s3 s4 s5 s6 s7)]++(oBs b s1 s2 s3 s4 s5 s6 s7 [])) (λr (y:Unit)=>.t []) (λr y=>([.box 0 (gSb r.1),.box 1 (gB r.2 s1 s2 s3 s4 s5 s6 s7)]++(oBs r.2 s1 s2 s3 s4 s5 s6 s7 []))):=
 cR call256 func256 Q Q2<|λhF=>bKK Q Q Q Q<|wi hF<|YT 6 [0,1,2] [0,2,3,4,5,6,7,8,1] Out.brk [0,1] [0,2,3,4,5,6,7,8,1] Q Q (λhF1 x2 hr1=>tD H0 6 Q3 λx4 h1 s8 h2=>λhG1=>oC 2 h2 h1 Q5<|wi hG1<|bY [23] Q2 (λhG1=>oC 2 h2 h1 Q5<|wi hG1<|tD aFV 12 Q3 λx5 h3 _ h4=>λhG1=>oC 3 h4 h3 Q5<|wi hG1<|j5 aJ [0,8,11,15,16] Q<|c0 Q (λ_=>aFW) λx6=>bY [42] Q2 (j5 aJ [8,11,15,16] Q<|λhG1=>sR Q<|lM aFV 13 [] h3 () Q7<|lM H0 9 [17] h1 s8 Q7<|fR Q2<|oY () [0,8,1,2,3,4,5,18,7] (re hG1 Q hr1 hF1) Q2 Q4)<|λhG1=>sF Q<|lM aFV 13 [] h3 () Q7<|lM H0 9 [17] h1 s8 Q7<|fR Q2<|nxR () [0,1,2,3,4,5,18,7,8] hG1 Q)<|λhG1=>sX Q<|lM H0 9 [12] h1 s8 Q7<|bkR () [0,1,2,3,4,5,13,7,8] hG1 hr1 Q)<|wm (F:=JK s b) Q<|fE 0 0 0 10 [] Q5 (λ_=>dC) λx3 _=>GY () [0,8,1,2,3,4,5,6,7] Q Q
theorem XQ{s:List fB}{j:Int}:VS prog U 285 (C3 s i j) [.h s1 s.length,I i,I j] [] [ow s1 (s:List fB)] (λr (y:AC)=>.h y r.length) (λr y=>[ow y r]):=
 cR call285 func285 Q Q2<|λhF=>cpc 0 Q Q λhc1=>aWT hc1 Q Q Q Q Q Q Q Q hF λhF h1=>wi hF<|bY [16] Q2 (j4 s1 [0] Q2)<|j5 aJ [] Q<|λhF=>aWR hc1 Q Q Q Q Q Q hF λhF h2=>aM7 hc1 Q Q Q Q Q Q hF λhF h3=>nd hF λhab hF=>ap2 0 i.toNat j.toNat ⟨hab,h3.1⟩ Q Q Q Q Q Q Q Q Q λh4=>a62 0 (i.toNat+(s.length-j.toNat)) h4.2 (yR h4.1 h4.2) Q Q Q Q Q Q Q Q Q hF λhF h5=>clr 0 (((((cT s i.toNat (s.drop j.toNat)).take (i.toNat+(s.length-j.toNat))).drop 0).length:Int).toNat) ((s.length:Int).toNat) ((⟨0,0⟩:fB):fB) h5 JX Q (λ_=>(bC6 (⟨0,0⟩:fB))) Q Q Q Q Q Q Q Q<|sR Q<|poR 0 0 (i.toNat+(s.length-j.toNat)) Q Q (aWS h4 (lX h5.1 h5.2)) (aQS (UP (by rw[MM,yR h4.1 h4.2];rfl)) (lX h5.1 h5.2))<|oY (AC.sub s1 2 0) [0] hF Q2 Q4
theorem aKW{l:List bW}(h1:bH U s1 l):VS prog U 258 (LR l w_ i) [.h s1 l.length,I w_,I i] [] [] (λr (y:AC)=>.t [.h y r.1.length,.b r.2]) (λr y=>[ow y r.1]):=
 cR call258 func258 Q Q2<|c1 Q (λh=>sG (h.a h1)) λx1 s2=>gD 0 0 (B7 w_ i x1) [1,2,8] 20 [0] Q (c0 Q (λh=>GH (h.a h1)) λx5=>gN [13,14] Q2 (cD [0] Q2)<|c0 Q (λh=>Z7 (h.a h1)) λx6=>cD [0] Q2) λx2=>bY [20] Q2 (j4 s2 [0] Q2)<|tD H0 0 Q3 λx3 h2 s3 h3=>λhF=>oC 0 h3 h2 Q5<|wi hF<|LB [4] Q4 (λ_=>XQ) λx4 s4=>λhF=>oC 0 h3 h2 Q5<|sR Q<|nT H0 1 [5] [6,8,22,24,35] (⟨x4⟩:bW) s4 Q8<|oY s2 [6] hF Q2 Q4
theorem T6{s:Sub}{b:aA}{b0 b1:Nat×Nat}:VS prog U 215 (pO s b w_) [.p 0 0,.p 1 0,I w_] [b0,b1] ([.box 0 (gSb s),.box 1 (gB b s1 s2 s3 s4 s5 s6 s7)]++(oBs b s1 s2 s3 s4 s5 s6 s7 [])) (λr (y:A5C)=>.t []) (λr y=>([.box 0 (gSb r.1),.box 1 (gB r.2 y.1 y.2.1 y.2.2.1 y.2.2.2.1 s5 y.2.2.2.2 s7)]++(oBs r.2 y.1 y.2.1 y.2.2.1 y.2.2.2.1 s5 y.2.2.2.2 s7 []))):=
 cR call215 func215 Q Q2<|gD 0 2 (gG s b w_) [0,1,2] 6 [0,2,3,4,5,6,7,8,1] Q (j5 aJ [0,1] Q<|c0 Q (λh=>Z7 (h.o 7 Q)) λx13=>gN [16,17] Q2 (tD H0 7 Q3 λx14 h7 s11 h8=>λhF=>oC 2 h8 h7 Q5<|wi hF<|tD aFV 12 Q3 λx15 h9 _ h10=>λhF=>oC 3 h10 h9 Q5<|sF Q<|lM aFV 13 [] h9 () Q7<|lM H0 9 [16] h7 s11 Q7<|fR Q2<|pD () [0,2,3,4,5,6,17,8,1] hF Q)<|cD [0,2,3,4,5,6,7,8,1] Q2) λx1=>bY [41,46] Q2 (GY (s1,s2,s3,s4,s6) [0,8,1,2,3,4,5,6,7] Q Q)<|bY [61,66] Q2 (aQT 0 0 0 10 8 1 0 8 [1,2,3,4,5,6,7] Q Q Q Q Q (λ_=>ZE) λx2 _=>GY (s1,s2,s3,s4,s6) [0,8,9,10,11,12,13,14,15] Q Q)<|gD 0 2 (fA s b w_ x1) [0,1,2,6] 71 [0,1,2,3,4,5,6,7,8] Q (gN [76,77] Q2 (c0 Q (λ_=>jG) λx12=>gN [82,83,84] Q2 (cD [0,1,2,3,4,5,6,7,8] Q2)<|cD [0,1,2,3,4,5,6,7,8] Q2)<|cD [0,1,2,3,4,5,6,7,8] Q2) λx3=>bY [71] Q2 (j5 aJ [0,8] Q<|tD oI 7 Q3 λx4 h1 _ h2=>λhF=>oC 2 h2 h1 Q5<|wi hF<|bY [101] Q2 (λhF=>sR Q<|lM oI 9 [] h1 () Q7<|oY (s1,s2,s3,s4,s6) [0,8,1,2,3,4,5,6,12] hF Q2 Q4)<|bY [124] Q2 (λhF=>sF Q<|lM oI 9 [] h1 () Q7<|oY (s1,s2,s3,s4,s6) [0,8,1,2,3,4,5,6,12] hF Q2 Q4)<|λhF=>sF Q<|lM oI 9 [] h1 () Q7<|oY (s1,s2,s3,s4,s6) [0,8,1,2,3,4,5,6,12] hF Q2 Q4)<|gD 0 2 (dP s b w_) [0,1,2] 128 [0,1,2,3,4,5,6,7,8] Q (j5 aJ [0,8] Q<|gN [133,134] Q2 (gN [6,135,136,137] Q2 (tD H0 6 Q3 λx9 h3 s10 h4=>λhF=>oC 2 h4 h3 Q5<|wi hF<|tD aFV 12 Q3 λx10 h5 _ h6=>λhF=>oC 3 h6 h5 Q5<|wi hF<|c0 Q (λ_=>aFW) λx11=>λhF=>sF Q<|lM aFV 13 [] h5 () Q7<|lM H0 9 [16] h3 s10 Q7<|fR Q2<|pD () [0,1,2,3,4,5,17,7,8] hF Q)<|cD [0,1,2,3,4,5,6,7,8] Q2)<|cD [0,1,2,3,4,5,6,7,8] Q2) λx5=>bY [128] Q2 (j5 aJ [0] Q<|c1 Q (λh=>aKW (h.o 6 Q)) λx6 s8=>j5 aJ [0] Q<|c1 Q (λh=>aCV (h.o 1 Q) (h.o 2 Q) (h.o 3 Q) (h.o 4 Q)) λx7 s9=>GY (t4U s9 (s8)) [0,8,10,11,12,13,5,9,7] Q Q)<|fE 0 0 0 10 [] Q5 (λ_=>dC) λx8 _=>GY (s1,s2,s3,s4,s6) [0,8,1,2,3,4,5,6,7] Q Q
theorem aCW{c:aC}{e_:Int}(h1:bH U s1 c.cE):VS prog U 259 (TE c w_ e_) [.g [I c.aK,.h s1 c.cE.length],I w_,I e_] [] [] (λr (y:AC)=>.t [.g [I r.1.aK,.h y r.1.cE.length],.b r.2]) (λr y=>[ow y r.1.cE]):=
 cR call259 func259 Q Q2<|c1 Q (λh=>sE (h.a h1)) λx1 s2=>gD 0 3 (A5 w_ e_ x1) [1,2,6,8] 25 [1,2,3] Q (c0 Q (λh=>yE (h.a h1)) λx4=>gN [13,14] Q2 (cD [1,2,3] Q2)<|c0 Q (λ_=>jG) λx5=>gN [17,18,19] Q2 (cD [1,2,3] Q2)<|c0 Q (λ_=>bI) λx6=>cD [1,2,3] Q2) λx2=>bY [25] Q2 (j4 s2 [1] Q2)<|tD aAX 1 Q3 λx3 h2 _ h3=>λhF=>oC 3 h3 h2 Q5<|sR Q<|nT aAX 3 [] [28] (⟨true,e_,false,0⟩:wQ) () Q8<|sL s2 cZ.symm [(33,1)] [(0,1),(2,1)] Q3<|fR Q2<|oY s2 [6] hF Q2 Q4
theorem aA5{s:Sub}{b:aA}{b0 b1:Nat×Nat}:VS prog U 216 (y8 s b w_) [.p 0 0,.p 1 0,I w_] [b0,b1] ([.box 0 (gSb s),.box 1 (gB b s1 s2 s3 s4 s5 s6 s7)]++(oBs b s1 s2 s3 s4 s5 s6 s7 [])) (λr (y:AC)=>.t []) (λr y=>([.box 0 (gSb r.1),.box 1 (gB r.2 s1 s2 s3 s4 y s6 s7)]++(oBs r.2 s1 s2 s3 s4 y s6 s7 []))):=
 cR call216 func216 Q Q2<|bY [14,15] Q2 (GY s5 [0,1,2,3,4,5,6,7,8] Q Q)<|bY [27,28] Q2 (eF 0 3 (λ(p:Bool×Int×(List wQ))=>AE s b p.1 p.2.1 p.2.2) [0,1] (λ(p:Bool×Int×(List wQ)) (s8:AC)=>[(6,.p 2 0),(7,.b p.1)]) [0,2,3,4,5,6,7,8,1] (λp s8=>[ow s8 (p.2.2:List wQ),.box 2 [I p.2.1,.h s8 p.2.2.length]]) Q (j5 aJ [0,1] Q<|λhF=>bd hF λx5 hA1 hF=>eT Q2 (MR hA1 Q (λh=>aCW (h.o 6 Q)) λs10=>wi hF<|oP (p:=(x5.2,x5.1.aK,x5.1.cE)) s10 [9,10,0,2,3,4,5,6,7,8,1] Q Q) (MR hA1 Q (λh=>aCW (h.o 6 Q)) λs11=>wi hF<|oP (p:=(x5.2,x5.1.aK,x5.1.cE)) s11 [10,9,0,2,3,4,5,6,7,8,1] Q Q)) λ⟨x1,x2,x3⟩ s8=>bY [43] Q2 (fE 2 0 0 10 [] Q5 (λ_=>dC) λx4 _=>j4 s5 [2,10,3,4,5,6,7,8,9] Q2)<|GY s8 [2,10,3,4,5,6,0,8,9] Q Q)<|bY [53,54] Q2 (j5 aJ [0,1] Q<|bY [64] Q2 (fE 0 0 0 10 [] Q5 (λ_=>dC) λx6 _=>GY s5 [0,1,2,3,4,5,6,7,8] Q Q)<|GY s5 [0,1,2,3,4,5,6,7,8] Q Q)<|fE 0 0 0 10 [] Q5 (λ_=>dC) λx7 _=>GY s5 [0,1,2,3,4,5,6,7,8] Q Q
theorem KN{s:Sub}{b:aA}{b0 b1:Nat×Nat}:VS prog U 147 (qJ s b w_) [.p 0 0,.p 1 0,I w_] [b0,b1] ([.box 0 (gSb s),.box 1 (gB b s1 s2 s3 s4 s5 s6 s7)]++(oBs b s1 s2 s3 s4 s5 s6 s7 [])) (λr (y:A6C)=>.t []) (λr y=>([.box 0 (gSb r.1),.box 1 (gB r.2 y.1 y.2.1 y.2.2.1 y.2.2.2.1 y.2.2.2.2.1 y.2.2.2.2.2 s7)]++(oBs r.2 y.1 y.2.1 y.2.2.1 y.2.2.2.1 y.2.2.2.2.1 y.2.2.2.2.2 s7 []))):=
 cR call147 func147 Q Q2<|bY [9] Q2 (j4 (s1,s2,s3,s4,s5,s6) [0,1,2,3,4,5,6,7,8] Q2)<|bY [16,17] Q2 (aQT 0 0 0 10 1 1 0 8 [2,3,4,5,6,7,8] Q Q Q Q Q (λ_=>XO) λx1 s8=>GY (t4U s8 (s5,s6)) [0,1,9,10,11,12,13,14,15] Q Q)<|bY [22,23] Q2 (aQT 0 0 0 10 1 1 0 8 [2,3,4,5,6,7,8] Q Q Q Q Q (λ_=>VY) λx2 s9=>GY (s1,s2,s3,s4,s5,s9) [0,1,9,10,11,12,13,14,15] Q Q)<|bY [28,29] Q2 (aQT 0 0 0 10 1 1 0 8 [2,3,4,5,6,7,8] Q Q Q Q Q (λ_=>T5) λx3 s10=>GY (s1,s2,s3,s4,s10,s6) [0,1,9,10,11,12,13,14,15] Q Q)<|bY [33,34] Q2 (aQT 0 0 0 10 1 1 0 8 [2,3,4,5,6,7,8] Q Q Q Q Q (λ_=>T6) λx4 s11=>GY (s11.1,s11.2.1,s11.2.2.1,s11.2.2.2.1,s5,s11.2.2.2.2) [0,1,9,10,11,12,13,14,15] Q Q)<|bY [39,40] Q2 (aQT 0 0 0 10 1 1 0 8 [2,3,4,5,6,7,8] Q Q Q Q Q (λ_=>aA5) λx5 s12=>GY (s1,s2,s3,s4,s12,s6) [0,1,9,10,11,12,13,14,15] Q Q)<|fE 0 0 0 10 [] Q5 (λ_=>dC) λx6 _=>GY (s1,s2,s3,s4,s5,s6) [0,1,2,3,4,5,6,7,8] Q Q
theorem XR{b0:Nat×Nat}:VS prog U 67 (tN t w_) [.p 0 0,I w_] [b0] ([.box 0 (K5 t s1 s2 s3 s4 s5 s6 s7 s8 s9 s10 s11)]++(QO t s1 s2 s3 s4 s5 s6 s7 s8 s9 s10 s11 [])) (λr (y:A6C)=>.t []) (λr y=>([.box 0 (K5 r y.1 y.2.1 y.2.2.1 y.2.2.2.1 y.2.2.2.2.1 y.2.2.2.2.2 s7 s8 s9 s10 s11)]++(QO r y.1 y.2.1 y.2.2.1 y.2.2.2.1 y.2.2.2.2.1 y.2.2.2.2.2 s7 s8 s9 s10 s11 []))):=
 cR call67 func67 Q Q2<|tD aX 9 Q3 λx1 h1 s12 h2=>λhF=>oC 1 h2 h1 Q5<|wi hF<|j5 aJ [14] Q<|aQT 13 1 16 10 0 0 0 8 [1,2,3,4,5,6,7] Q Q Q Q Q (λ_=>KN) λx2 s13=>bY [24] Q2 (λhF=>sR Q<|nT aX 12 [15,16,17,18,19,20,21] [8] ({x1 with Sub:=x2.1}:aI) s12 Q8<|fR Q2<|sL s9 cZ.symm [] [(0,9)] Q3<|fR Q2<|oY s13 [0,22,23,24,25,26,27,28,8,29,10,11] hF Q2 Q4)<|bY [32,33] Q2 (λhF=>sF Q<|nT aX 12 [15,16,17,18,19,20,21] [8] ({x1 with Pc:=1,Sub:=x2.1}:aI) s12 Q8<|fR Q2<|sL s9 cZ.symm [] [(0,9)] Q3<|fR Q2<|oY s13 [0,22,23,24,25,26,27,28,8,29,10,11] hF Q2 Q4)<|bY [37,38] Q2 (c0 Q (λ_=>qL) λx3=>λhF=>sF Q<|nT aX 12 [15,16,17,18,19,20,21] [8] ({x1 with Pc:=21,Sub:=x3}:aI) s12 Q8<|fR Q2<|sL s9 cZ.symm [] [(0,9)] Q3<|fR Q2<|oY s13 [0,22,23,24,25,26,27,28,8,29,10,11] hF Q2 Q4)<|λhF=>sF Q<|nT aX 12 [15,16,17,18,19,20,21] [8] ({x1 with Pc:=19,Sub:=x2.1}:aI) s12 Q8<|fR Q2<|sL s9 cZ.symm [] [(0,9)] Q3<|fR Q2<|oY s13 [0,22,23,24,25,26,27,28,8,29,10,11] hF Q2 Q4
theorem K7{b0:Nat×Nat}:VS prog U 148 (pP j) [.p 0 0] [b0] ([.box 0 (gTj j s1 s2 s3 s4 s5 s6 s7)]++(oTj j s1 s2 s3 s4 s5 s6 s7 [])) (λr (y:Unit)=>.t [.g [I r.1.Kind,I r.1.Key,I r.1.dI],.b r.2.1]) (λr y=>([.box 0 (gTj r.2.2 s1 s2 s3 s4 s5 s6 s7)]++(oTj r.2.2 s1 s2 s3 s4 s5 s6 s7 []))):=
 cR call148 func148 Q Q2<|j5 aJ [0,8] Q<|c0 Q (λ_=>bI) λx1=>bY [16] Q2 (j4 () [0,1,2,3,4,5,6,7] Q2)<|j5 aJ [0] Q<|tD aXA 1 Q3 λx2 h1 _ h2=>λhF=>oC 2 h2 h1 Q5<|sR Q<|lM aXA 9 [] h1 () Q7<|oY () [0,12,2,3,4,5,6,7] hF Q2 Q4
theorem eD{code:Int}{b0:Nat×Nat}:VS prog U 79 (cM j code) [.p 0 0,I code] [b0] ([.box 0 (gTj j s1 s2 s3 s4 s5 s6 s7)]++(oTj j s1 s2 s3 s4 s5 s6 s7 [])) (λr (y:Unit)=>.t []) (λr y=>([.box 0 (gTj r s1 s2 s3 s4 s5 s6 s7)]++(oTj r s1 s2 s3 s4 s5 s6 s7 []))):=
 cR call79 func79 Q Q2<|GY () [0,1,2,3,4,5,6,7] Q Q
theorem qM{s:List aU}{f:(aU->Option Bool)}{g_f:FuncId}{cap_f:List Value}(h1:bH U s1 s)(h_f:WD prog U (NG:DL aU) .b g_f cap_f f):V0 prog U 219 (cW s f) [.h s1 s.length,.k (.func (.func g_f) #[] cap_f.toArray)] I:=
 cR call219 func219 Q Q2<|YT 8 [0,1,7] [] Out.brk [] [] Q Q (λhF1 x2 hr1=>bY [9] Q2 (sO NG Q h1 Q λx3 _ _=>λhG1=>fa1 h_f x3 () Q Q Q Q Q trivial hG1 λx4 _ hG1=>wi hG1<|bY [16] Q2 (RF hr1 hF1<|dQ Q2)<|MQ [] Q)<|J6 [] Q)<|dQ Q2
theorem OA{s:List aU}{del:(aU->Option Bool)}{g_del:FuncId}{cap_del:List Value}(h_del:WD prog U (NG:DL aU) .b g_del cap_del del):VS prog U 260 (jV s del) [.h s1 s.length,.k (.func (.func g_del) #[] cap_del.toArray)] [] [ow s1 (s:List aU)] (λr (y:AC)=>.h y r.length) (λr y=>[ow y r]):=
 cR call260 func260 Q Q2<|c0 Q (λh=>qM (h.o 0 Q) (h.u1 h_del)) λx1=>bY [12] Q2 (j4 s1 [0] Q2)<|N0 () [1] (λ(p:(List aU)×Int×Int) (_:Unit)=>[(0,.h s1 p.1.length),(5,I p.2.1),(6,I p.2.2)]) [0] [] (λp _=>[ow s1 (p.1:List aU)]) id [] (λ(p:(List aU)×Int) (_:Unit)=>[(0,.h s1 p.1.length),(5,I p.2)]) [] (λp _=>[ow s1 (p.1:List aU)]) Q Q (λhF1 ⟨x5,x6,x7⟩ _ hr1=>bY [19] Q2 (eF 2 0 (λ(p:(List aU)×Int)=>iI x7 p.1 p.2) [1,6] (λ(p:(List aU)×Int) (_:Unit)=>[(0,.h s1 p.1.length),(5,I p.2)]) [] (λp _=>[ow s1 (p.1:List aU)]) Q (tD AQ 0 Q3 λx12 h3 _ h4=>λhG1=>oC 0 h4 h3 Q5<|fa1 h_del x12 () Q Q Q Q Q trivial hG1 λx13 _ hG1=>wi hG1<|bY [29] Q2 (λhG1=>cqS AQ 1 [] h3 () Q9<|wi hG1<|tD AQ 5 Q3 λx14 h5 _ h6=>λhG1=>oC 2 h6 h5 Q5<|sF Q<|nT AQ 6 [] [0,17,22,30] x12 () Q8<|pD (p:=(x5.set x6.toNat x12,bB (x6+1))) () [9] hG1 Q)<|λhG1=>sF Q<|lM AQ 1 [] h3 () Q7<|pD (p:=(x5,x6)) () [5] hG1 Q) λ⟨x10,x11⟩ _=>MQ [0] Q)<|J6 [0] Q) λ⟨x8,x9⟩ _=>λhF=>cpc 0 Q Q λhc1=>aM7 hc1 Q Q Q Q Q Q hF λhF h1=>clr 0 x9.toNat x8.length ((⟨0,false,0⟩:aU):aU) h1 yA Q (λ_=>(a7Y (⟨0,false,0⟩:aU))) Q Q Q Q Q Q Q Q<|rr s1 (eX (xs:=List.replicate (x8.length-x9.toNat) (⟨0,false,0⟩:aU)) (lX h1.1 h1.2)).symm [0,36] [] [] Q Q Q Q<|cpc 0 Q Q λhc2=>aWR hc2 Q Q Q Q Q Q hF λhF h2=>sR Q<|poR 0 0 x9.toNat Q Q h2 Q<|oY (AC.sub s1 3 0) [0] hF Q2 Q4
theorem aCX{x k0:aU}{b0:Nat×Nat}:VS prog U 261 (KB x k0) [.g [I x.Key,.b x.G3,I x.dI],.p 0 0] [b0] [.ro 0 [I k0.Key,.b k0.G3,I k0.dI]] (λr (_:Unit)=>.b r) (λ_ _=>[]):=
 cR call261 func261 Q Q2<|dQ Q2
theorem aCY{x k0:aU}{b0:Nat×Nat}:VS prog U 262 (B8 x k0) [.g [I x.Key,.b x.G3,I x.dI],.p 0 0] [b0] [.ro 0 [I k0.Key,.b k0.G3,I k0.dI]] (λr (_:Unit)=>.b r) (λ_ _=>[]):=
 cR call262 func262 Q Q2<|dQ Q2
theorem VZ{s v:List aU}:VS prog U 263 (qX s i v) [.h s1 s.length,I i,.h s2 v.length] [] [ow s1 s,.o (cLs s2 v)] (λr (y:AC)=>.h y r.length) (λr y=>[ow y r]):=
 bK3 Q ai (aZ7 (k:=3) (el:=171) (z:=.agg #[.int .i64 0,.bool false,.int .i64 0]) ai Q aT4 aW6 a2R aW7) call263
theorem aHH{l:List aU}{w_:aU}(h1:bH U s1 l):VS prog U 218 (IU l w_) [.h s1 l.length,.g [I w_.Key,.b w_.G3,I w_.dI]] [] [] (λr (y:AC)=>.h y r.length) (λr y=>[ow y r]):=
 cR call218 func218 Q Q2<|c1 Q (λh=>JY (h.a h1)) λx1 s2=>λhF=>mf [0] Q Q Q<|wi hF<|bKZ 0 [1] Q Q Q Q Q Q (λ_=>λhB=>OA (bKY call261 hB λ_=>aCX)) λx2 s3=>λhF=>mf [0] Q Q Q<|wi hF<|aJX [0] Q Q Q Q (λh=>λhB=>qM (h.o 2 Q) (aJW (cs:=[(0,[I w_.Key,.b w_.G3,I w_.dI])]) call262 hB Q λ_ _=>aCY)) λx3=>eF 0 1 (rT w_ x2) [3,5] (λ(x4:Int) (_:Unit)=>[(6,I x4)]) [2,0] (λx4 _=>[]) Q (bY [15] Q2 (cD [2,0] Q2)<|cD [2,0] Q2) λx4 _=>λhF=>ltL AQ () w_ yA Q Q Q Q Q Q Q Q (λ_=>Q) λs4=>wi hF<|LB [0,2] Q4 (λ_=>VZ) λx5 s5=>j4 s5 [3] Q2
theorem NJ{x:aU}{b0:Nat×Nat}:VS prog U 149 (rU j x) [.p 0 0,.g [I x.Key,.b x.G3,I x.dI]] [b0] ([.box 0 (gTj j s1 s2 s3 s4 s5 s6 s7)]++(oTj j s1 s2 s3 s4 s5 s6 s7 [])) (λr (y:AC)=>.b r.1) (λr y=>([.box 0 (gTj r.2 s1 s2 y s4 s5 s6 s7)]++(oTj r.2 s1 s2 y s4 s5 s6 s7 []))):=
 cR call149 func149 Q Q2<|j5 aJ [0,8] Q<|c1 Q (λh=>aHH (h.o 3 Q)) λx1 s8=>bY [14] Q2 (fE 0 0 0 32 [1,2,3,4,5,6,7] Q5 (λ_=>eD) λx2 _=>j4 s3 [0,10,11,12,13,14,15,16] Q2)<|j4 s8 [0,1,2,9,4,5,6,7] Q2
theorem aEY{x:aU}{b0:Nat×Nat}:VS prog U 220 (FM x k0) [.g [I x.Key,.b x.G3,I x.dI],.p 0 0] [b0] [.ro 0 [I k0]] (λr (_:Unit)=>.b r) (λ_ _=>[]):=
 cR call220 func220 Q Q2<|dQ Q2
theorem aKX{l:List aU}{key:Int}(h1:bH U s1 l):V0 prog U 150 (LS l key) [.h s1 l.length,I key] (λr=>.t [.g [I r.1.Key,.b r.1.G3,I r.1.dI],.b r.2]):=
 cR call150 func150 Q Q2<|λhF=>mf [0] Q Q Q<|wi hF<|aJX [0] Q Q Q Q (λh=>λhB=>qM (h.a h1) (aJW (cs:=[(0,[I key])]) call220 hB Q λ_ _=>aEY)) λx1=>bY [11] Q2 (dQ Q2)<|sO NG Q h1 Q λx2 _ _=>dQ Q2
theorem aQ9{b:Int}:V0 prog U 221 (aAR a_ b) [I a_,I b] I:=
 cR call221 func221 Q Q2<|dQ Q2
theorem NL{c:iP}{val:Int}{is:Bool}{b0:Nat×Nat}:VS prog U 151 (rV j c val is) [.p 0 0,.g [I c.Kind,I c.Key,I c.dI],I val,.b is] [b0] ([.box 0 (gTj j s1 s2 s3 s4 s5 s6 s7)]++(oTj j s1 s2 s3 s4 s5 s6 s7 [])) (λr (y:AC×AC)=>.t []) (λr y=>([.box 0 (gTj r s1 s2 y.1 y.2 s5 s6 s7)]++(oTj r s1 s2 y.1 y.2 s5 s6 s7 []))):=
 cR call151 func151 Q Q2<|eF 0 2 (mJ j c is) [0,3,5] (λ(x1:Int) (_:Unit)=>[(2,I x1)]) [1,2,3,4,5,6,7,0,8] (λx1 _=>[]) Q (bY [10] Q2 (cD [1,2,3,4,5,6,7,0,8] Q2)<|cD [1,2,3,4,5,6,7,0,8] Q2) λx1 _=>eF 0 3 (λ(p:aI×Bool×Int)=>mI p.1 p.2.1 p.2.2) [0,8] (λ(p:aI×Bool×Int) (s8:AC)=>[]) [] (λp s8=>(oTj p.1 s1 s2 s8 s4 s5 s6 s7 [.box 0 (gTj p.1 s1 s2 s8 s4 s5 s6 s7),.box 2 [.b p.2.1,I p.2.2]])) Q (bY [16] Q2 (c0 Q (λ_=>aQ9) λx6=>fE 7 0 0 32 [0,1,2,3,4,5,6] Q5 (λ_=>NJ) λx7 s16=>bY [29] Q2 (j4 (s16,s4) [7,10,11,12,13,14,15,16] Q2)<|oP (p:=(x7.2,true,x6)) s16 [10,11,12,13,14,15,16,7,9] Q Q)<|oP (p:=(j,is,x1)) s3 [0,1,2,3,4,5,6,7,9] Q Q) λ⟨x2,x3,x4⟩ s8=>eF 0 3 qY [0] (λ(x5:aI) (s9:AC)=>[]) [] (λx5 s9=>(oTj x5 s1 s2 s8 s9 s5 s6 s7 [.box 0 (gTj x5 s1 s2 s8 s9 s5 s6 s7)])) Q (j5 aJ [8] Q<|λhF=>nd hF λhA1 hF=>(by refine eT Q2 ?_ ?_<;>exact S5 a2U [] ((⟨x3,x4⟩:fY)) () uC S6 λs12=>have hq1:=rn hA1;ap 3 uC Q Q Q Q Q Q Q (λh=>(h.o 9 Q)) Q Q hq1 λhq1 s13=>wi hF<|oP (p:=(({x2 with fY:=x2.fY++([(⟨x3,x4⟩:fY)])}:aI))) s13 [0,1,2,3,4,5,6,7] Q Q)) λx5 s9=>GY (s8,s9) [7,0,1,2,3,4,5,6] Q Q
theorem T7{key:Int}:V0 prog U 152 (HQ key) [I key] I:=
 cR call152 func152 Q Q2<|c0 Q (λ_=>bI) λx1=>bY [5] Q2 (dQ Q2)<|dQ Q2
theorem aEZ{b0:Nat×Nat}:VS prog U 68 (FO j) [.p 0 0] [b0] ([.box 0 (gTj j s1 s2 s3 s4 s5 s6 s7)]++(oTj j s1 s2 s3 s4 s5 s6 s7 [])) (λr (y:AC×AC)=>.t []) (λr y=>([.box 0 (gTj r s1 s2 y.1 y.2 s5 s6 s7)]++(oTj r s1 s2 y.1 y.2 s5 s6 s7 []))):=
 cR call68 func68 Q Q2<|fE 0 0 0 32 [1,2,3,4,5,6,7] Q5 (λ_=>K7) λx1 _=>bY [39,41] Q2 (c0 Q (λ_=>qL) λx2=>GY (s3,s4) [0,8,9,10,11,12,13,14] Q Q)<|eF 0 2 (λ(p:Bool×aI)=>kD x1 p.1 p.2) [0,2] (λ(p:Bool×aI) (_:Unit)=>[(52,.b p.1)]) [15] (λp _=>(oTj p.2 s1 s2 s3 s4 s5 s6 s7 [.box 0 (gTj p.2 s1 s2 s3 s4 s5 s6 s7)])) Q (gN [55,56] Q2 (cD (p:=(true,x1.2.2)) [8,9,10,11,12,13,14,0,15] Q2)<|cD (p:=(x1.1.Kind == 3,x1.2.2)) [8,9,10,11,12,13,14,0,15] Q2) λ⟨x3,x4⟩ _=>bY [52] Q2 (fE 7 0 0 32 [0,1,2,3,4,5,6] Q5 (λ_=>NJ) λx5 s8=>bY [70] Q2 (λhF=>S5 a2U [] ((⟨false,0⟩:fY)) () uC S6 λs9=>ap 12 uC Q Q Q Q Q Q Q (λh=>(h.o 16 Q)) Q Q hF λhF s10=>wi hF<|GY (s8,s10) [7,9,10,11,12,13,14,15] Q Q)<|GY (s8,s4) [7,9,10,11,12,13,14,15] Q Q)<|eF 0 3 (λ(p:Bool×aI×Int×Bool×Int)=>FN x1 p.1 p.2.1 p.2.2.1 p.2.2.2.1 p.2.2.2.2) [0,2] (λ(p:Bool×aI×Int×Bool×Int) (_:Unit)=>[(4,.p 2 0),(5,.b p.1)]) [8] (λp _=>(oTj p.2.1 s1 s2 s3 s4 s5 s6 s7 [.box 0 (gTj p.2.1 s1 s2 s3 s4 s5 s6 s7),.box 2 [I p.2.2.1,.b p.2.2.2.1,I p.2.2.2.2]])) Q (j5 aJ [7,8] Q<|λhF=>bd hF λx13 hA1 hF=>(by refine eT Q2 ?_ ?_<;>exact HJ hA1 Q (λh=>aKX (h.o 2 Q))<|wi hF<|cD (p:=(x13.2,x4,x13.1.Key,x13.1.G3,x13.1.dI)) [0,1,2,3,4,5,6,7,9,8] Q2)) λ⟨x6,x7,x8,x9,x10⟩ _=>bY [5,21] Q2 (fE 7 0 0 32 [0,1,2,3,4,5,6] Q5 (λ_=>NL) λx11 s11=>j4 (s11.1,s11.2) [7,10,11,12,13,14,15,16] Q2)<|c0 Q (λ_=>T7) λx12=>GY (s3,s4) [7,0,1,2,3,4,5,6] Q Q
theorem aKY{slot c:Int}:V0 prog U 173 (LU slot c) [I slot,I c] I:=
 cR call173 func173 Q Q2<|c0 Q (λ_=>uE) λx1=>bY [10] Q2 (dQ Q2)<|dQ Q2
theorem yH{h:Heap}{slot:Int}(h1:bH U s1 h.Bytes)(h2:bH U s2 h.Class):V0 prog U 89 (y9 h slot) [.g [.h s1 h.Bytes.length,.h s2 h.Class.length],I slot] I:=
 cR call89 func89 Q Q2<|c0 Q (λh=>nR (h.a h1) (h.a h2)) λx1=>c0 Q (λ_=>aKY) λx2=>dQ Q2
theorem QE{h:Heap}{slot:Int}(h1:bH U s1 h.Bytes)(h2:bH U s2 h.Class):V0 prog U 41 (pQ h slot) [.g [.h s1 h.Bytes.length,.h s2 h.Class.length],I slot] (λr=>.g [I r.Key,I r.dI,I r.Next]):=
 cR call41 func41 Q Q2<|c0 Q (λh=>yH (h.a h1) (h.a h2)) λx1=>j5 aJ [0] Q<|c0 Q (λh=>yD (h.a h1)) λx2=>c0 Q (λh=>yD (h.a h1)) λx3=>c0 Q (λh=>yD (h.a h1)) λx4=>dQ Q2
theorem XS{h:Heap}{slot:Int}(h1:bH U s1 h.Bytes)(h2:bH U s2 h.Class):V0 prog U 222 (FP h slot) [.g [.h s1 h.Bytes.length,.h s2 h.Class.length],I slot] .b:=
 cR call222 func222 Q Q2<|c0 Q (λh=>nR (h.a h1) (h.a h2)) λx1=>c0 Q (λ_=>QB) λx2=>dQ Q2
theorem Z8(h1:bH U s1 m.Heap.Bytes)(h2:bH U s2 m.Heap.Class)(h3:bH U s3 m.aE.Global)(h4:bH U s4 m.aE.Own):V0 prog U 153 (JM m h) [.g (gM m s1 s2 s3 s4),I h] (λr=>.t [.g [I r.1.Key,I r.1.dI,I r.1.Next],I r.2]):=
 cR call153 func153 Q Q2<|gD 0 2 (FQ m h) [1,2,4] 6 [0,1] Q (c0 Q (λ_=>jF) λx4=>gN [9,10] Q2 (cD [0,1] Q2)<|c0 Q (λh=>nR (h.a h1) (h.a h2)) λx5=>cD [0,1] Q2) λx1=>bY [6] Q2 (dQ Q2)<|c0 Q (λh=>XS (h.a h1) (h.a h2)) λx2=>bY [19,25] Q2 (dQ Q2)<|c0 Q (λh=>QE (h.a h1) (h.a h2)) λx3=>dQ Q2
theorem XT{p:wQ}:V0 prog U 154 (C4 p) [.g [.b p.On,I p.aK,.b p.gO,I p.Seen]] .b:=
 cR call154 func154 Q Q2<|gD 0 1 nV [] 2 [] Q (gN [4,5] Q2 (cD [] Q2)<|cD [] Q2) λx1=>dQ Q2
theorem dE:V0 prog U 155 (hU n) [.g [I n.Key,I n.dI,I n.Next]] I:=
 cR call155 func155 Q Q2<|c0 Q (λ_=>jF) λx1=>bY [6] Q2 (dQ Q2)<|dQ Q2
theorem aE0{s:Seen}{b0:Nat×Nat}:VS prog U 223 (FR s k0) [.g [I s.bR,I s.eB],.p 0 0] [b0] [.ro 0 [I k0]] (λr (_:Unit)=>.b r) (λ_ _=>[]):=
 cR call223 func223 Q Q2<|dQ Q2
theorem aKZ{l:List Seen}{b v:Int}(h1:bH U s1 l):VS prog U 156 (LV l b v) [.h s1 l.length,I b,I v] [] [] (λr (y:AC)=>.t [.h y r.1.length,.b r.2]) (λr y=>[ow y r.1]):=
 cR call156 func156 Q Q2<|c1 Q (λh=>K6 (h.a h1)) λx1 s2=>λhF=>mf [0] Q Q Q<|wi hF<|aJX [0] Q Q Q Q (λh=>λhB=>DW (h.a h1) (aJW (cs:=[(0,[I b])]) call223 hB Q λ_ _=>aE0)) λx2=>bY [16] Q2 (λhF=>S5 XF [] ((⟨b,v⟩:Seen)) () O8 S6 λs3=>ap 1 O8 Q Q Q Q Q Q Q (λh=>(h.o 2 Q)) Q Q hF λhF s4=>wi hF<|j4 s4 [1] Q2)<|j5 aJ [0] Q<|sO aKJ Q h1 Q λx3 _ _=>j4 s2 [1] Q2
theorem aCZ{b0:Nat×Nat}:VS prog U 69 (B9 t w_) [.p 0 0,I w_] [b0] ([.box 0 (K5 t s1 s2 s3 s4 s5 s6 s7 s8 s9 s10 s11)]++(QO t s1 s2 s3 s4 s5 s6 s7 s8 s9 s10 s11 [])) (λr (y:Unit)=>.t []) (λr y=>([.box 0 (K5 r s1 s2 s3 s4 s5 s6 s7 s8 s9 s10 s11)]++(QO r s1 s2 s3 s4 s5 s6 s7 s8 s9 s10 s11 []))):=
 cR call69 func69 Q Q2<|tD aX 9 Q3 λx1 h1 s12 h2=>λhF=>oC 1 h2 h1 Q5<|wi hF<|eF 0 4 (λ(p:Int×Int×Int)=>C7 t w_ p.1 p.2.1 p.2.2) [0,1,4] (λ(p:Int×Int×Int) (_:Unit)=>[(5,.p 3 0)]) [1,2,3,4,5,6,7,8,10,11,0,14] (λp _=>[ow s9 (t.aS:List aI),.box 3 [I p.1,I p.2.1,I p.2.2]]) Q (λhF=>cqS aX 12 [15,16,17,18,19,20,21] h1 s12 Q9<|wi hF<|j5 aJ [0,14] Q<|λhF=>bd hF λx30 hA5 hF=>eT Q2 (have hq15:=rb h1;ro aX 22 14 1 Q Q Q Q hq15 λu15 h27 hq15 s34=>match u15,hq15 with|_,rfl=>have hq16:=rb hA5;wi hq16<|tD BH 8 Q3 λu16 h29 _ h30=>λhq16=>oC 2 h30 h29 Q5<|match u16,hq16 with|_,rfl=>(by refine eT Q2 ?_ ?_<;>exact sF Q<|lM BH 33 [] h29 () Q7<|fR Q2<|lM aX 23 [26,27,28,29,30,31,32] h27 s34 Q7<|fR Q2<|pD (p:=(x30.Head,x30.eB,x30.dU)) () [38,36,1,2,3,4,5,6,7,37,10,11,0,14] hF Q)) (have hq17:=rb h1;ro aX 22 14 1 Q Q Q Q hq17 λu17 h31 hq17 s35=>match u17,hq17 with|_,rfl=>have hq18:=rb hA5;wi hq18<|tD BH 8 Q3 λu18 h33 _ h34=>λhq18=>oC 3 h34 h33 Q5<|match u18,hq18 with|_,rfl=>sF Q<|swR 3 2 Q<|fD Q Q<|lM BH 34 [] h33 () Q7<|fR Q2<|lM aX 24 [27,28,29,30,31,32,33] h31 s35 Q7<|fR Q2<|pD (p:=(x30.Head,x30.eB,x30.dU)) () [38,23,1,2,3,4,5,6,7,37,10,11,0,14] hF Q)) λ⟨x2,x3,x4⟩ _=>λhF=>ro aX 0 13 1 Q Q Q Q hF λx5 h3 hF s13=>wi hF<|fE 15 1 0 32 [17,18,19,20,21,22,23] Q5 (λ_=>K7) λx6 _=>bY [91,92] Q2 (bY [95] Q2 (fE 15 1 0 32 [24,25,26,27,28,29,30] Q5 (λ_=>eD) λx7 _=>λhF=>sR Q<|nT aX 14 [32,33,34,35,36,37,38] [] x7 s13 Q8<|fR Q2<|sL s9 cZ.symm [] [(12,9)] Q3<|fR Q2<|oY () [12,2,3,4,5,6,7,8,9,39,10,11] hF Q2 Q4)<|j5 aJ [1,12,13,16,31] Q<|bY [122] Q2 (λhF=>sF Q<|nT aX 14 [24,25,26,27,28,29,30] [] (⟨x6.2.2.bO,x6.2.2.Batch,x6.2.2.aG,5,x6.2.2.At,x6.2.2.K,x6.2.2.bR,x3,x2,x6.2.2.gR,(⟨0,0,0⟩:gX),false,x6.2.2.Code,x6.2.2.Sub,x6.2.2.Reads,x6.2.2.aH,x6.2.2.fY,x6.2.2.gL,x6.2.2.bD,x6.2.2.cA⟩:aI) s13 Q8<|fR Q2<|sL s9 cZ.symm [] [(12,9)] Q3<|fR Q2<|oY () [12,2,3,4,5,6,7,8,9,32,10,11] hF Q2 Q4)<|λhF=>sF Q<|nT aX 14 [24,25,26,27,28,29,30] [] (⟨x6.2.2.bO,x6.2.2.Batch,x6.2.2.aG,3,x6.2.2.At,x6.2.2.K,x6.2.2.bR,x3,x2,x6.2.2.gR,(⟨0,0,0⟩:gX),false,x6.2.2.Code,x6.2.2.Sub,x6.2.2.Reads,x6.2.2.aH,x6.2.2.fY,x6.2.2.gL,x6.2.2.bD,x6.2.2.cA⟩:aI) s13 Q8<|fR Q2<|sL s9 cZ.symm [] [(12,9)] Q3<|fR Q2<|oY () [12,2,3,4,5,6,7,8,9,32,10,11] hF Q2 Q4)<|bY [126,127] Q2 (j5 aJ [1,12,13,16,31] Q<|c0 Q (λh=>Z8 (h.o 2 Q) (h.o 3 Q) (h.o 4 Q) (h.o 5 Q)) λx8=>λhF=>sF Q<|nT aX 14 [24,25,26,27,28,29,30] [] (⟨x6.2.2.bO,x6.2.2.Batch,x6.2.2.aG,4,x6.2.2.At,x6.2.2.K,x6.2.2.bR,x6.2.2.eB,x6.2.2.H,x6.2.2.gR,x8.1,x6.2.2.Found,x6.2.2.Code,x6.2.2.Sub,x6.2.2.Reads,x6.2.2.aH,x6.2.2.fY,x6.2.2.gL,x6.2.2.bD,x6.2.2.cA⟩:aI) s13 Q8<|fR Q2<|sL s9 cZ.symm [] [(12,9)] Q3<|fR Q2<|oY () [12,2,3,4,5,6,7,8,9,32,10,11] hF Q2 Q4)<|bY [147,148] Q2 (tD aAX 6 Q3 λx9 h5 _ h6=>λhF=>oC 5 h6 h5 Q5<|wi hF<|c0 Q (λ_=>XT) λx10=>bY [149,160] Q2 (fE 15 1 0 32 [24,25,26,27,28,29,30] Q5 (λ_=>eD) λx11 _=>λhF=>sR Q<|lM aAX 32 [] h5 () Q7<|fR Q2<|nT aX 14 [35,36,37,38,39,40,41] [] x11 s13 Q8<|fR Q2<|sL s9 cZ.symm [] [(12,9)] Q3<|fR Q2<|oY () [12,2,3,4,5,42,7,8,9,43,10,11] hF Q2 Q4)<|bY [163,165] Q2 (fE 15 1 0 32 [24,25,26,27,28,29,30] Q5 (λ_=>eD) λx12 _=>λhF=>sR Q<|lM aAX 32 [] h5 () Q7<|fR Q2<|nT aX 14 [35,36,37,38,39,40,41] [] x12 s13 Q8<|fR Q2<|sL s9 cZ.symm [] [(12,9)] Q3<|fR Q2<|oY () [12,2,3,4,5,42,7,8,9,43,10,11] hF Q2 Q4)<|eF 0 6 (C5 t w_) [0,4] (λ(x13:(List aI)) (_:Unit)=>[]) [2,3,4,5,7,8,9,10,11,13] (λx13 _=>[ow s5 (t.aA.aC.cE:List wQ),ow s9 (x13:List aI),.box 0 [.h s1 t.aA.Mem.Heap.Bytes.length,.h s2 t.aA.Mem.Heap.Class.length,.h s3 t.aA.Mem.aE.Global.length,.h s4 t.aA.Mem.aE.Own.length,I t.aA.aC.aK,.h s5 t.aA.aC.cE.length,.h s6 t.aA.aQ.length,.h s7 t.aA.qU.length,.h s8 t.aR.length,.h s9 x13.length,.h s10 t.eE.length,.h s11 t.Log.length,I t.aG]]) Q (j5 aJ [1,12,13,16,31,34] Q<|λhF=>bd hF λx17 hA1 hF=>(by repeat' first|refine eT Q2 ?_ ?_|refine HJ hA1 Q (λ_=>dE)<|?_|exact sF Q<|lM aAX 32 [] h5 () Q7<|fR Q2<|nT aX 14 [24,25,26,27,28,29,30] [] (⟨x6.2.2.bO,x6.2.2.Batch,x6.2.2.aG,3,x6.2.2.At,x6.2.2.K,x6.2.2.bR,x6.2.2.eB,x17,x6.2.2.gR,x6.2.2.Node,x6.2.2.Node.Key == x6.1.Key,x6.2.2.Code,x6.2.2.Sub,x6.2.2.Reads,x6.2.2.aH,x6.2.2.fY,x6.2.2.gL,x6.2.2.bD,x6.2.2.cA⟩:aI) s13 Q8<|fR Q2<|sL s9 cZ.symm [] [(12,9)] Q3<|fR Q2<|pD (p:=(t.aS.set w_.toNat (⟨x6.2.2.bO,x6.2.2.Batch,x6.2.2.aG,3,x6.2.2.At,x6.2.2.K,x6.2.2.bR,x6.2.2.eB,x17,x6.2.2.gR,x6.2.2.Node,x6.2.2.Node.Key == x6.1.Key,x6.2.2.Code,x6.2.2.Sub,x6.2.2.Reads,x6.2.2.aH,x6.2.2.fY,x6.2.2.gL,x6.2.2.bD,x6.2.2.cA⟩:aI))) () [35,36,12,2,3,4,5,7,8,9,10,11,13] hF Q)) λx13 _=>gD 0 6 (tO t w_ x13) [0,4] 200 [3,4,5,6,0,7,8,9,1,10,11,2,12] Q (λhF=>ro aX 1 12 1 Q Q Q Q hF λx16 h9 hF s15=>wi hF<|gN [193,194] Q2 (λhF=>sF Q<|lM aX 13 [16,17,18,19,20,21,22] h9 s15 Q7<|fR Q2<|pD () [3,4,5,6,0,7,8,9,23,10,11,2,12] hF Q)<|λhF=>sF Q<|lM aX 13 [16,17,18,19,20,21,22] h9 s15 Q7<|fR Q2<|pD () [3,4,5,6,0,7,8,9,23,10,11,2,12] hF Q) λx14=>bY [200] Q2 (λhF=>ro aX 8 12 1 Q Q Q Q hF λx15 h7 hF s14=>sF Q<|nT aX 13 [16,17,18,19,20,21,22] [] ({x15 with Pc:=5}:aI) s14 Q8<|fR Q2<|sL s9 cZ.symm [] [(11,9)] Q3<|fR Q2<|oY () [11,0,1,2,3,4,5,6,7,23,9,10] hF Q2 Q4)<|GY () [11,0,1,2,3,4,5,6,7,8,9,10] Q Q)<|eF 0 5 (jM t w_ x6) [0,4,6,7] (λ(x18:Bool) (_:Unit)=>[(46,.b x18)]) [2,3,4,5,6,7,8,9,10,11,13,31] (λx18 _=>[ow s9 (t.aS.set w_.toNat x6.2.2:List aI),.box 0 [.h s1 t.aA.Mem.Heap.Bytes.length,.h s2 t.aA.Mem.Heap.Class.length,.h s3 t.aA.Mem.aE.Global.length,.h s4 t.aA.Mem.aE.Own.length,I t.aA.aC.aK,.h s5 t.aA.aC.cE.length,.h s6 t.aA.aQ.length,.h s7 t.aA.qU.length,.h s8 t.aR.length,.h s9 (t.aS.set w_.toNat x6.2.2).length,.h s10 t.eE.length,.h s11 t.Log.length,I t.aG]]) Q (j5 aJ [1,12,13,16,31] Q<|gN [37,38] Q2 (λhF=>sF Q<|nT aX 14 [24,25,26,27,28,29,30] [] x6.2.2 s13 Q8<|fR Q2<|sL s9 cZ.symm [] [(12,9)] Q3<|fR Q2<|pD () [32,12,2,3,4,5,6,7,8,9,10,11,13,31] hF Q)<|λhF=>sF Q<|nT aX 14 [24,25,26,27,28,29,30] [] x6.2.2 s13 Q8<|fR Q2<|sL s9 cZ.symm [] [(12,9)] Q3<|fR Q2<|pD () [32,12,2,3,4,5,6,7,8,9,10,11,13,31] hF Q) λx18 _=>bY [46] Q2 (λhF=>ro aX 0 12 1 Q Q Q Q hF λx19 h11 hF s16=>wi hF<|fE 15 1 0 32 [17,18,19,20,21,22,23] Q5 (λ_=>eD) λx20 _=>λhF=>sR Q<|nT aX 14 [24,25,26,27,28,29,30] [] x20 s16 Q8<|fR Q2<|sL s9 cZ.symm [] [(1,9)] Q3<|fR Q2<|oY () [1,2,3,4,5,6,7,8,9,31,10,11] hF Q2 Q4)<|eF 0 5 (λ(p:(List Seen)×Bool)=>C6 t w_ x6 p.1 p.2) [0,4,6,7] (λ(p:(List Seen)×Bool) (s17:AC)=>[(8,.h s17 p.1.length),(9,.b p.2)]) [2,3,4,5,6,7,8,9,0,10,11,1,12,13] (λp s17=>[ow s17 (p.1:List Seen)]) Q (j5 aJ [1,12,13] Q<|λhF=>bd hF λx28 hA3 hF=>bd hF λx29 hA4 hF=>(by repeat' first|refine eT Q2 ?_ ?_|refine aM6 Q Q ?_ ?_ ?_|(refine have hq6:=rb hA3;ro aX 0 12 1 Q Q Q Q hq6 λu6 h17 hq6 s24=>match u6,hq6 with|_,rfl=>?_)|refine MR hA4 Q (λh=>aKZ (h.o 18 Q)) λs25=>?_|exact sF Q<|lM aX 14 [17,18,19,20,21,22,23] h17 s24 Q7<|fR Q2<|pD (p:=(x29.1,x29.2)) s25 [24,2,3,4,5,6,7,8,9,25,10,11,1,12,13] hF Q)) λ⟨x21,x22⟩ s17=>λhF=>ro aX 9 13 1 Q Q Q Q hF λx23 h13 hF s18=>wi hF<|bY [81,83] Q2 (fE 16 1 0 32 [18,0,20,21,22,23,24] Q5 (λ_=>eD (j:=({x23 with Reads:=x21}:aI))) λx24 _=>λhF=>sF Q<|nT aX 15 [25,26,27,28,29,30,31] [] x24 (s18.1,s17,s18.2.2.1,s18.2.2.2.1,s18.2.2.2.2.1,s18.2.2.2.2.2.1,s18.2.2.2.2.2.2) Q8<|fR Q2<|sL s9 cZ.symm [] [(12,9)] Q3<|fR Q2<|oY () [12,1,2,3,4,5,6,7,8,32,10,11] hF Q2 Q4)<|bY [86,88] Q2 (fE 16 1 0 32 [18,0,20,21,22,23,24] Q5 (λ_=>eD (j:=({x23 with Reads:=x21}:aI))) λx25 _=>λhF=>sF Q<|nT aX 15 [25,26,27,28,29,30,31] [] x25 (s18.1,s17,s18.2.2.1,s18.2.2.2.1,s18.2.2.2.2.1,s18.2.2.2.2.2.1,s18.2.2.2.2.2.2) Q8<|fR Q2<|sL s9 cZ.symm [] [(12,9)] Q3<|fR Q2<|oY () [12,1,2,3,4,5,6,7,8,32,10,11] hF Q2 Q4)<|eF 0 5 (M7 t) [0] (λ(x26:(List aI)) (_:Unit)=>[]) [1,2,3,4,5,6,7,8,10,11] (λx26 _=>[ow s9 (x26:List aI),.box 0 [.h s1 t.aA.Mem.Heap.Bytes.length,.h s2 t.aA.Mem.Heap.Class.length,.h s3 t.aA.Mem.aE.Global.length,.h s4 t.aA.Mem.aE.Own.length,I t.aA.aC.aK,.h s5 t.aA.aC.cE.length,.h s6 t.aA.aQ.length,.h s7 t.aA.qU.length,.h s8 t.aR.length,.h s9 x26.length,.h s10 t.eE.length,.h s11 t.Log.length,I t.aG]]) Q (j5 aJ [12,13,14,17] Q<|λhF=>bd hF λx27 hA2 hF=>(by refine eT Q2 ?_ ?_<;>exact have hq4:=rb hA2;wi hq4<|fE 16 1 0 32 [18,0,20,21,22,23,24] Q5 (λ_=>NL (j:=({x23 with Reads:=x21}:aI))) λu4 s20=>λhq4=>match u4,hq4 with|_,rfl=>sF Q<|nT aX 15 [25,26,27,28,29,30,31] [] x27 (s18.1,s17,s20.1,s20.2,s18.2.2.2.2.1,s18.2.2.2.2.2.1,s18.2.2.2.2.2.2) Q8<|fR Q2<|sL s9 cZ.symm [] [(12,9)] Q3<|fR Q2<|pD (p:=((t.aS.set w_.toNat x6.2.2).set w_.toNat x27)) () [32,12,1,2,3,4,5,6,7,8,10,11] hF Q)) λx26 _=>GY () [1,2,3,4,5,6,7,8,9,0,10,11] Q Q
theorem DX{l:List aU}{n:Int}(h1:bH U s1 l):V0 prog U 157 (RU l n) [.h s1 l.length,I n] I:=
 cR call157 func157 Q Q2<|λhF=>bKJ Q Q Q Q<|bKK Q Q Q Q<|bFV Q Q Q Q Q h1 Q Q hF λhF s2 h2=>wi hF<|N0 () [14,15] (λ(p:Int×Int) (_:Unit)=>[(5,I p.1),(16,I p.2)]) [] [] (λp _=>[]) id [] (λ(x5:Int) (_:Unit)=>[(5,I x5)]) [] (λx5 _=>[]) Q Q (λhF1 ⟨x3,x4⟩ _ hr1=>bY [17] Q2 (eF 2 0 (FT x4) [14,15,16] (λ(x6:Int) (_:Unit)=>[(5,I x6)]) [] (λx6 _=>[]) Q (sO NG Q h2 Q λx7 _ _=>bY [22] Q2 (cD [] Q2)<|cD [] Q2) λx6 _=>MQ [] Q)<|J6 [] Q) λx5 _=>dQ Q2
theorem aA6{b0:Nat×Nat}:VS prog U 70 (zA t w_) [.p 0 0,I w_] [b0] ([.box 0 (K5 t s1 s2 s3 s4 s5 s6 s7 s8 s9 s10 s11)]++(QO t s1 s2 s3 s4 s5 s6 s7 s8 s9 s10 s11 [])) (λr (y:A6C)=>.t []) (λr y=>([.box 0 (K5 r y.1 y.2.1 y.2.2.1 y.2.2.2.1 y.2.2.2.2.1 y.2.2.2.2.2 s7 s8 s9 s10 s11)]++(QO r y.1 y.2.1 y.2.2.1 y.2.2.2.1 y.2.2.2.2.1 y.2.2.2.2.2 s7 s8 s9 s10 s11 []))):=
 cR call70 func70 Q Q2<|tD aX 9 Q3 λx1 h1 s12 h2=>λhF=>oC 1 h2 h1 Q5<|wi hF<|eF 0 2 (AI t w_) [0,1,4] (λ(x2:Bool) (_:Unit)=>[(25,.b x2)]) [1,2,3,4,5,6,7,8,10,11,0,14] (λx2 _=>[ow s9 (t.aS:List aI)]) Q (j5 aJ [0,14] Q<|λhF=>bd hF λx16 hA5 hF=>aM6 Q Q ((by refine eT Q2 ?_ ?_<;>exact HJ hA5 Q (λh=>DX (h.o 17 Q))<|sF Q<|lM aX 12 [15,16,17,18,19,20,21] h1 s12 Q7<|fR Q2<|pD (p:=(decide (x16<=x1.K))) () [22,1,2,3,4,5,6,7,8,10,11,0,14] hF Q)) (eT Q2 (HJ hA5 Q (λh=>DX (h.o 17 Q))<|sF Q<|lM aX 12 [15,16,17,18,19,20,21] h1 s12 Q7<|fR Q2<|pD (p:=(decide (x16<=x1.K))) () [22,1,2,3,4,5,6,7,8,10,11,0,14] hF Q) ((by refine eT Q2 ?_ ?_<;>exact HJ hA5 Q (λh=>DX (h.o 17 Q))<|sF Q<|lM aX 12 [15,16,17,18,19,20,21] h1 s12 Q7<|fR Q2<|pD (p:=(decide (x16<=x1.K))) () [22,1,2,3,4,5,6,7,8,10,11,0,14] hF Q))) (eT Q2 (HJ hA5 Q (λh=>DX (h.o 17 Q))<|sF Q<|lM aX 12 [15,16,17,18,19,20,21] h1 s12 Q7<|fR Q2<|pD (p:=(decide (x16<=x1.K))) () [22,1,2,3,4,5,6,7,8,10,11,0,14] hF Q) ((by refine eT Q2 ?_ ?_<;>exact HJ hA5 Q (λh=>DX (h.o 17 Q))<|sF Q<|lM aX 12 [15,16,17,18,19,20,21] h1 s12 Q7<|fR Q2<|pD (p:=(decide (x16<=x1.K))) () [22,1,2,3,4,5,6,7,8,10,11,0,14] hF Q)))) λx2 _=>bY [25] Q2 (λhF=>ro aX 0 12 1 Q Q Q Q hF λx3 h3 hF s13=>sR Q<|nT aX 13 [16,17,18,19,20,21,22] [] ({x3 with Pc:=7,K:=0}:aI) s13 Q8<|fR Q2<|sL s9 cZ.symm [] [(11,9)] Q3<|fR Q2<|oY (s1,s2,s3,s4,s5,s6) [11,1,2,3,4,5,6,7,8,23,9,10] hF Q2 Q4)<|j5 aJ [12] Q<|λhF=>ro aX 0 12 1 Q Q Q Q hF λx4 h5 hF s14=>wi hF<|aQT 14 1 16 10 11 0 0 8 [1,2,3,4,5,6,7] Q Q Q Q Q (λ_=>KN) λx5 s15=>bY [66,72] Q2 (λhF=>sF Q<|nT aX 13 [16,17,18,19,20,21,22] [] ({x4 with Sub:=x5.1}:aI) s14 Q8<|fR Q2<|sL s9 cZ.symm [] [(11,9)] Q3<|fR Q2<|oY s15 [11,23,24,25,26,27,28,29,8,30,9,10] hF Q2 Q4)<|eF 0 2 (λ(p:Bool×Table)=>iA w_ p.1 p.2) [0,4] (λ(p:Bool×Table) (_:Unit)=>[(73,.b p.1)]) [12] (λp _=>(QO p.2 s15.1 s15.2.1 s15.2.2.1 s15.2.2.2.1 s15.2.2.2.2.1 s15.2.2.2.2.2 s7 s8 s9 s10 s11 [.box 0 (K5 p.2 s15.1 s15.2.1 s15.2.2.1 s15.2.2.2.1 s15.2.2.2.2.1 s15.2.2.2.2.2 s7 s8 s9 s10 s11)])) Q (gN [79,80] Q2 (λhF=>sF Q<|nT aX 13 [16,17,18,19,20,21,22] [] ({x4 with Sub:=x5.1}:aI) s14 Q8<|fR Q2<|sL s9 cZ.symm [] [(11,9)] Q3<|fR Q2<|pD (p:=(true,({t with aA:=x5.2,aS:=t.aS.set w_.toNat ({x4 with Sub:=x5.1}:aI)}:Table))) () [23,24,25,26,27,28,29,8,30,9,10,11,12] hF Q)<|c0 Q (λ_=>jF) λx15=>gN [87,88,89] Q2 (λhF=>sF Q<|nT aX 13 [16,17,18,19,20,21,22] [] ({x4 with Sub:=x5.1}:aI) s14 Q8<|fR Q2<|sL s9 cZ.symm [] [(11,9)] Q3<|fR Q2<|pD (p:=(true,({t with aA:=x5.2,aS:=t.aS.set w_.toNat ({x4 with Sub:=x5.1}:aI)}:Table))) () [23,24,25,26,27,28,29,8,30,9,10,11,12] hF Q)<|λhF=>sF Q<|nT aX 13 [16,17,18,19,20,21,22] [] ({x4 with Sub:=x5.1}:aI) s14 Q8<|fR Q2<|sL s9 cZ.symm [] [(11,9)] Q3<|fR Q2<|pD (p:=(decide (6<=(x4.gL.length:Int)),({t with aA:=x5.2,aS:=t.aS.set w_.toNat ({x4 with Sub:=x5.1}:aI)}:Table))) () [23,24,25,26,27,28,29,8,30,9,10,11,12] hF Q) λ⟨x6,x7⟩ _=>bY [73] Q2 (λhF=>ro aX 8 12 1 Q Q Q Q hF λx8 h7 hF s16=>wi hF<|fE 14 1 0 32 [16,17,18,19,20,21,22] Q5 (λ_=>eD) λx9 _=>λhF=>sF Q<|nT aX 13 [23,24,25,26,27,28,29] [] x9 s16 Q8<|fR Q2<|sL s9 cZ.symm [] [(11,9)] Q3<|fR Q2<|oY s15 [11,0,1,2,3,4,5,6,7,30,9,10] hF Q2 Q4)<|eF 0 2 (AG w_) [0,4] (λ(x10:Table) (_:Unit)=>[]) [12] (λx10 _=>(QO x10 s15.1 s15.2.1 s15.2.2.1 s15.2.2.2.1 s15.2.2.2.2.1 s15.2.2.2.2.2 s7 s8 s9 s10 s11 [.box 0 (K5 x10 s15.1 s15.2.1 s15.2.2.1 s15.2.2.2.1 s15.2.2.2.2.1 s15.2.2.2.2.2 s7 s8 s9 s10 s11)])) Q (j5 aJ [11,12] Q<|λhF=>bd hF λx14 hA3 hF=>nd hF λhA4 hF=>eT Q2 (have hq5:=rb hA3;ro aX 8 12 1 Q Q Q Q hq5 λu5 h17 hq5 s23=>match u5,hq5 with|_,rfl=>lt1 Q bV Q Q Q Q λs24=>have hq6:=rn hA4;ap 20 bV Q Q Q Q Q Q Q (λh=>(h.o 23 Q)) Q Q hq6 λhq6 s25=>sF Q<|nT aX 13 [16,17,18,19,20,21,22] [] ({x14 with gL:=x14.gL++([x14.Sub.Out])}:aI) (s23.1,s23.2.1,s23.2.2.1,s23.2.2.2.1,s25,s23.2.2.2.2.2.1,s23.2.2.2.2.2.2) Q8<|fR Q2<|sL s9 cZ.symm [] [(11,9)] Q3<|fR Q2<|pD (p:=(({x7 with aS:=x7.aS.set w_.toNat ({x14 with gL:=x14.gL++([x14.Sub.Out])}:aI)}:Table))) () [0,1,2,3,4,5,6,7,24,9,10,11,12] hF Q) (have hq7:=rb hA3;ro aX 8 12 1 Q Q Q Q hq7 λu6 h19 hq7 s26=>match u6,hq7 with|_,rfl=>(by refine eT Q2 ?_ ?_<;>exact lt1 Q bV Q Q Q Q λs27=>have hq8:=rn hA4;ap 20 bV Q Q Q Q Q Q Q (λh=>(h.o 23 Q)) Q Q hq8 λhq8 s28=>sF Q<|nT aX 13 [16,17,18,19,20,21,22] [] ({x14 with gL:=x14.gL++([x14.Sub.Out])}:aI) (s26.1,s26.2.1,s26.2.2.1,s26.2.2.2.1,s28,s26.2.2.2.2.2.1,s26.2.2.2.2.2.2) Q8<|fR Q2<|sL s9 cZ.symm [] [(11,9)] Q3<|fR Q2<|pD (p:=(({x7 with aS:=x7.aS.set w_.toNat ({x14 with gL:=x14.gL++([x14.Sub.Out])}:aI)}:Table))) () [0,1,2,3,4,5,6,7,24,9,10,11,12] hF Q))) λx10 _=>eF 0 2 AF [0] (λ(x11:Table) (_:Unit)=>[]) [] (λx11 _=>(QO x11 s15.1 s15.2.1 s15.2.2.1 s15.2.2.2.1 s15.2.2.2.2.1 s15.2.2.2.2.2 s7 s8 s9 s10 s11 [.box 0 (K5 x11 s15.1 s15.2.1 s15.2.2.1 s15.2.2.2.1 s15.2.2.2.2.1 s15.2.2.2.2.2 s7 s8 s9 s10 s11)])) Q (j5 aJ [11,12] Q<|λhF=>bd hF λx12 hA1 hF=>bd hF λx13 hA2 hF=>eT Q2 (have hq1:=rb hA1;ro aX 8 12 1 Q Q Q Q hq1 λu1 h11 hq1 s18=>match u1,hq1 with|_,rfl=>HJ hA2 Q (λ_=>qL)<|sF Q<|nT aX 13 [16,17,18,19,20,21,22] [] ({x12 with K:=bB (x12.K+1),Sub:=x13}:aI) s18 Q8<|fR Q2<|sL s9 cZ.symm [] [(11,9)] Q3<|fR Q2<|pD (p:=(({x10 with aS:=x10.aS.set w_.toNat ({x12 with K:=bB (x12.K+1),Sub:=x13}:aI)}:Table))) () [0,1,2,3,4,5,6,7,23,9,10,11] hF Q) (HJ hA2 Q (λ_=>qL)<|have hq4:=rb hA1;ro aX 8 12 1 Q Q Q Q hq4 λu4 h13 hq4 s19=>match u4,hq4 with|_,rfl=>sF Q<|nT aX 13 [16,17,18,19,20,21,22] [] ({x12 with K:=bB (x12.K+1),Sub:=x13}:aI) s19 Q8<|fR Q2<|sL s9 cZ.symm [] [(11,9)] Q3<|fR Q2<|pD (p:=(({x10 with aS:=x10.aS.set w_.toNat ({x12 with K:=bB (x12.K+1),Sub:=x13}:aI)}:Table))) () [0,1,2,3,4,5,6,7,23,9,10,11] hF Q)) λx11 _=>GY s15 [11,0,1,2,3,4,5,6,7,8,9,10] Q Q
theorem VG:V0 prog U 312 (cmp_isNaN_int x) [I x] .b:=
 cR call312 func312 Q Q2<|dQ Q2
theorem XU:V0 prog U 294 (cmp_Less_int x y) [I x,I y] .b:=
 cR call294 func294 Q Q2<|gD 0 0 uU [] 4 [] Q (c0 Q (λ_=>VG) λx2=>gN [6,7] Q2 (c0 Q (λ_=>VG) λx3=>gN [10,11,12] Q2 (cD [] Q2)<|cD [] Q2)<|cD [] Q2) λx1=>dQ Q2
theorem D3{data:List Int}{b:Int}:VS prog U 288 (iF data a_ b) [.h s1 data.length,I a_,I b] [] [ow s1 (data:List Int)] (λr (y:Unit)=>.t []) (λr y=>[.o (eM [AC.v s1 data.length] r)]):=
 cR call288 func288 Q Q2<|N0 () [1,2] (λ(p:(List Int)×Int) (_:Unit)=>[(0,.h s1 p.1.length),(6,I p.2)]) [0] [] (λp _=>[ow s1 (p.1:List Int)]) id [] (λ(x5:(List Int)) (_:Unit)=>[(0,.h s1 x5.length)]) [] (λx5 _=>[ow s1 (x5:List Int)]) Q Q (λhF1 ⟨x3,x4⟩ _ hr1=>λhG1=>nd hG1 λhl3 hG1=>wi hG1<|bY [12] Q2 (N0 () [1,2,6] (λ(p:(List Int)×Int) (_:Unit)=>[(0,.h s1 p.1.length),(7,I p.2)]) [0] [] (λp _=>[ow s1 (p.1:List Int)]) id [1,2,6] (λ(x10:(List Int)) (_:Unit)=>[(0,.h s1 x10.length)]) [] (λx10 _=>[ow s1 (x10:List Int)]) Q Q (λhF2 ⟨x8,x9⟩ _ hr2=>λhG2=>nd hG2 λhl6 hG2=>wi hG2<|gD 0 0 (dR data x8 x9) [0,1,2,6,7] 30 [0] Q (j5 aJ [] Q<|gN [18,19] Q2 (tD oI 0 Q3 λx16 h27 _ h28=>λhG2=>oC 0 h28 h27 Q5<|cqS oI 1 [] h27 () Q9<|wi hG2<|tD oI 4 Q3 λx17 h29 _ h30=>λhG2=>oC 1 h30 h29 Q5<|bd hG2 λx18 hA2 hG2=>eT Q2 (cqS oI 5 [] h29 () Q9<|have hq8:=rb h27;ro oI 8 3 0 Q Q Q Q hq8 λu8 h35 hq8 _=>match u8,hq8 with|_,rfl=>cqS oI 9 [] h35 () Q9<|have hq9:=rb h29;ro oI 12 7 1 Q Q Q Q hq9 λu9 h37 hq9 _=>match u9,hq9 with|_,rfl=>HJ hA2 Q (λ_=>XU)<|sF Q<|lM oI 13 [] h37 () Q7<|pD (p:=(x18)) () [16] hG2 Q) (cqS oI 5 [] h29 () Q9<|have hq11:=rb h27;ro oI 8 3 0 Q Q Q Q hq11 λu11 h39 hq11 _=>match u11,hq11 with|_,rfl=>HJ hA2 Q (λ_=>XU)<|sF Q<|lM oI 9 [] h39 () Q7<|pD (p:=(x18)) () [12] hG2 Q))<|cD (p:=(false)) [0] Q2) λx11=>λhG2=>nd hG2 λhl7 hG2=>wi hG2<|bY [30] Q2 (eF 0 0 (jO data x9) [1,2,6,7] (λ(x12:(List Int)) (_:Unit)=>[(0,.h s1 x12.length)]) [] (λx12 _=>[ow s1 (x12:List Int)]) Q (j5 aJ [] Q<|tD oI 0 Q3 λx13 h1 _ h2=>λhG2=>oC 0 h2 h1 Q5<|cqS oI 1 [] h1 () Q9<|wi hG2<|tD oI 4 Q3 λx14 h3 _ h4=>λhG2=>oC 1 h4 h3 Q5<|bd hG2 λx15 hA1 hG2=>eT Q2 (cqS oI 5 [] h3 () Q9<|have hq1:=rb h1;ro oI 8 3 0 Q Q Q Q hq1 λu1 h13 hq1 _=>match u1,hq1 with|_,rfl=>cqS oI 9 [] h13 () Q9<|have hq2:=rb h3;ro oI 12 7 1 Q Q Q Q hq2 λu2 h15 hq2 _=>match u2,hq2 with|_,rfl=>cqS oI 13 [] h15 () Q9<|have hq3:=rb h3;wi hq3<|tD oI 16 Q3 λu3 h17 _ h18=>λhq3=>oC 2 h18 h17 Q5<|match u3,hq3 with|_,rfl=>ceS oI 17 [] [0,33,35,38,43] x13 () Q Q Q Q Q Q Q Q Q Q<|have hq4:=rb hA1;wi hq4<|tD oI 20 Q3 λu4 h19 _ h20=>λhq4=>oC 3 h20 h19 Q5<|match u4,hq4 with|_,rfl=>sF Q<|nT oI 21 [] [0,33,35,38,43] x14 () Q8<|pD (p:=((x8.set x9.toNat x13).set ((bB (x9-1)).toNat) x14)) () [24] hG2 Q) (cqS oI 5 [] h3 () Q9<|have hq5:=rb h1;ro oI 8 3 0 Q Q Q Q hq5 λu5 h21 hq5 _=>match u5,hq5 with|_,rfl=>cqS oI 9 [] h21 () Q9<|have hq6:=rb h3;wi hq6<|tD oI 12 Q3 λu6 h23 _ h24=>λhq6=>oC 2 h24 h23 Q5<|match u6,hq6 with|_,rfl=>ceS oI 13 [] [0,33,35,38,43] x13 () Q Q Q Q Q Q Q Q Q Q<|have hq7:=rb hA1;wi hq7<|tD oI 16 Q3 λu7 h25 _ h26=>λhq7=>oC 3 h26 h25 Q5<|match u7,hq7 with|_,rfl=>sF Q<|nT oI 17 [] [0,33,35,38,43] x14 () Q8<|pD (p:=((x8.set x9.toNat x13).set ((bB (x9-1)).toNat) x14)) () [20] hG2 Q)) λx12 _=>λhG2=>nd hG2 λhl8 hG2=>wi hG2<|MQ [0] Q)<|J6 [0] Q) λx10 _=>λhG1=>nd hG1 λhl5 hG1=>wi hG1<|MQ [0] Q)<|J6 [0] Q) λx5 _=>λhF=>nd hF λhl2 hF=>sF Q<|pnR 0 hl2 Q<|oY () [0] hF Q2 Q4
theorem L9{data:List Int}{b limit:Int}:VS prog U 265 (oJ data a_ b limit) [.h s1 data.length,I a_,I b,I limit] [] [ow s1 (data:List Int)] (λr (y:Unit)=>.t []) (λr y=>[.o (eM [AC.v s1 data.length] r)]):=
 cR call265 func265 Q Q2<|lrW () [0,1,2,3,8,9] (λ(_:Unit) (_:Unit)=>[]) [0] [0] (λ_ _=>[]) Q Q (λhF1 _ _ hr1=>bY [23] Q2 (LB [0] Q4 (λ_=>D3) λx1 _=>λhG1=>un 1 [0,24] [] [] Q6 λhl2=>sR Q<|pnR 1 hl2 Q<|oY () [1] (re hG1 Q hr1 hF1) Q2 Q4)<|bY [29] Q2 (λhG1=>nomatch hG1)<|λhG1=>nomatch hG1)
theorem aC0:V0 prog U 298 (U6 x) [.i .u64 x] I:=
 cR call298 func298 Q Q2<|eF 0 0 (λ(p:Int×Int)=>DA p.1 p.2) [] (λ(p:Int×Int) (_:Unit)=>[(0,.i .u64 p.1),(2,I p.2)]) [] (λp _=>[]) Q (bY [4] Q2 (cD (p:=(pA .u64 x 32,32)) [] Q2)<|cD (p:=(x,0)) [] Q2) λ⟨x1,x2⟩ _=>eF 0 0 (λ(p:Int×Int)=>C9 p.1 p.2) [] (λ(p:Int×Int) (_:Unit)=>[(0,.i .u64 p.1),(2,I p.2)]) [] (λp _=>[]) Q (bY [8] Q2 (cD (p:=(pA .u64 x1 16,bB (x2+16))) [] Q2)<|cD (p:=(x1,x2)) [] Q2) λ⟨x3,x4⟩ _=>eF 0 0 (λ(p:Int×Int)=>C8 p.1 p.2) [] (λ(p:Int×Int) (_:Unit)=>[(0,.i .u64 p.1),(2,I p.2)]) [] (λp _=>[]) Q (bY [14] Q2 (cD (p:=(pA .u64 x3 8,bB (x4+8))) [] Q2)<|cD (p:=(x3,x4)) [] Q2) λ⟨x5,x6⟩ _=>λhF=>qsi Q Q Q Q Q hF λx7 _ hF=>wi hF<|dQ Q2
theorem aHI:V0 prog U 266 (A6 x) [.i .u64 x] I:=
 cR call266 func266 Q Q2<|c0 Q (λ_=>aC0) λx1=>dQ Q2
theorem aC1{x:List Int}:VS prog U 224 (CA x) [.h s1 x.length] [] [ow s1 (x:List Int)] (λr (y:Unit)=>.t []) (λr y=>[.o (eM [AC.v s1 x.length] r)]):=
 cR call224 func224 Q Q2<|c0 Q (λ_=>aHI) λx1=>LB [0] Q4 (λ_=>L9) λx2 _=>λhF=>un 1 [0,3,5] [] [] Q6 λhl1=>sF Q<|pnR 1 hl1 Q<|oY () [1] hF Q2 Q4
theorem XV{s:List Int}:VS prog U 225 (slices_Compact_int s) [.h s1 s.length] [] [ow s1 s] (λr (y:AC)=>.h y r.length) (λr y=>[ow y r]):=
 bNL bLH call225
theorem aK0{l:List aU}(h1:bH U s1 l):VS prog U 159 (LW l) [.h s1 l.length] [] [] (λr (y:AC)=>.h y r.length) (λr y=>[ow y r]):=
 cR call159 func159 Q Q2<|λhF=>lt0 (O:=Int) bV Q4 λs2=>wi hF<|N0 s2 [8,9] (λ(p:(List Int)×Int) (s4:AC)=>[(3,.h s4 p.1.length),(10,I p.2)]) [0] [] (λp s4=>[ow s4 (p.1:List Int)]) id [] (λ(x5:(List Int)) (s5:AC)=>[(3,.h s5 x5.length)]) [] (λx5 s5=>[ow s5 (x5:List Int)]) Q Q (λhF1 ⟨x3,x4⟩ s4 hr1=>bY [11] Q2 (eF 2 0 (CB x4) [8,9,10] (λ(x8:(List Int)) (s7:AC)=>[(3,.h s7 x8.length)]) [] (λx8 s7=>[ow s7 (x8:List Int)]) Q (sO NG Q h1 Q λx9 _ _=>c0 Q (λ_=>T7) λx10=>bY [18] Q2 (λhG1=>lt1 Q bV Q Q Q Q λs8=>ap 0 bV Q Q Q Q Q Q Q (λh=>(h.o 3 Q)) Q Q hG1 λhG1 s9=>wi hG1<|oP s9 [0] Q Q)<|oP s4 [0] Q Q) λx8 s7=>nxW s7 [0] Q)<|bkW s4 [0] Q) λx5 s5=>wm (F:=KD x5) Q<|LB [0] Q4 (λ_=>aC1) λx6 _=>λhF=>un 1 [3,24] [] [] Q6 λhl2=>wi hF<|LB [1] Q4 (λ_=>XV) λx7 s6=>j4 s6 [2] Q2
theorem ZF{s:Seen}{k1:bR}{b0 b1 b2:Nat×Nat}:VS prog U 160 (wG s k0 k1) [.g [I s.bR,I s.eB],.p 0 0,.p 1 0] [b0,b1,b2] [.ro 0 [I k0],.ro 1 [.p 2 0],.ro 2 [I k1.Head,I k1.eB,I k1.dU]] (λr (_:Unit)=>.b r) (λ_ _=>[]):=
 cR call160 func160 Q Q2<|gD 0 4 pR [] 4 [] Q (j5 aJ [0,1,2,3] Q<|gN [8,9] Q2 (cD [] Q2)<|cD [] Q2) λx1=>dQ Q2
theorem aC2{b0:Nat×Nat}:VS prog U 71 (CC t w_) [.p 0 0,I w_] [b0] ([.box 0 (K5 t s1 s2 s3 s4 s5 s6 s7 s8 s9 s10 s11)]++(QO t s1 s2 s3 s4 s5 s6 s7 s8 s9 s10 s11 [])) (λr (y:AC)=>.t []) (λr y=>([.box 0 (K5 r s1 s2 s3 s4 s5 s6 s7 s8 s9 s10 y)]++(QO r s1 s2 s3 s4 s5 s6 s7 s8 s9 s10 y []))):=
 cR call71 func71 Q Q2<|tD aX 9 Q3 λx1 h1 s12 h2=>λhF=>oC 1 h2 h1 Q5<|wi hF<|c1 Q (λh=>aK0 (h.o 17 Q)) λx2 s13=>eF 0 2 (λ(p:(List bR)×(List aI))=>nK t w_ x2 p.1 p.2) [0,1,4,5] (λ(p:(List bR)×(List aI)) (_:Unit)=>[]) [22,1,2,3,4,5,6,7,10,11,14] (λp _=>[ow s8 (p.1:List bR),ow s9 (p.2:List aI),.box 0 [.h s1 t.aA.Mem.Heap.Bytes.length,.h s2 t.aA.Mem.Heap.Class.length,.h s3 t.aA.Mem.aE.Global.length,.h s4 t.aA.Mem.aE.Own.length,I t.aA.aC.aK,.h s5 t.aA.aC.cE.length,.h s6 t.aA.aQ.length,.h s7 t.aA.qU.length,.h s8 p.1.length,.h s9 p.2.length,.h s10 t.eE.length,.h s11 t.Log.length,I t.aG]]) Q (bY [25] Q2 (tD oI 22 Q3 λx7 h7 _ h8=>λhF=>oC 2 h8 h7 Q5<|cqS oI 23 [] h7 () Q9<|wi hF<|j5 aJ [0,14,25,26] Q<|tD BH 8 Q3 λx8 h9 _ h10=>λhF=>oC 4 h10 h9 Q5<|wi hF<|eF 0 6 (iJ t w_ x2 x7) [0,1,4,5,6,7] (λ(x9:Bool) (_:Unit)=>[(39,.b x9)]) [27,1,2,3,4,5,6,7,10,11,0,14,30] (λx9 _=>[ow s8 (t.aR:List bR),ow s9 (t.aS:List aI),.ro 3 [I x7],.ro 5 [.p 4 0]]) Q (λhF=>shS [3,5] Q Q<|wi hF<|gN [44,45] Q2 (λhF=>sF Q<|lM BH 28 [] h9 () Q7<|fR Q2<|lM aX 12 [15,16,17,18,19,20,21] h1 s12 Q7<|fR Q2<|pD () [32,33,26,31,27,1,2,3,4,5,6,7,10,11,0,14,30] hF Q)<|λhF=>mf [3,5] Q Q Q<|wi hF<|clP (n3:=4) [26,31,29] Q Q Q Q (λh=>λhB=>yG (h.o 16 Q) (fkP (xs:=[.p 0 0,.p 1 0]) call160 hB Q λ_ _=>ZF)) λx19=>λhF=>sF Q<|lM BH 28 [] h9 () Q7<|fR Q2<|lM aX 12 [15,16,17,18,19,20,21] h1 s12 Q7<|fR Q2<|pD () [32,33,26,31,27,1,2,3,4,5,6,7,10,11,0,14,30] hF Q) λx9 _=>bY [39] Q2 (λhF=>ro aX 1 15 1 Q Q Q Q hF λx10 h11 hF s25=>wi hF<|fE 18 1 0 32 [20,21,22,23,24,25,26] Q5 (λ_=>eD) λx11 _=>λhF=>sR Q<|nT aX 17 [27,28,29,30,31,32,33] [] x11 s25 Q8<|fR Q2<|sL s9 cZ.symm [] [(14,9)] Q3<|fR Q2<|oY s11 [14,5,6,7,8,9,10,11,0,34,12,13] hF Q2 Q4)<|λhF=>ro BH 0 16 4 Q Q Q Q hF λx12 h13 hF _=>wi hF<|bY [55,60] Q2 (λhF=>ro aX 1 15 1 Q Q Q Q hF λx13 h15 hF s26=>wi hF<|fE 21 1 0 32 [23,24,25,26,27,28,29] Q5 (λ_=>eD) λx14 _=>λhF=>sR Q<|nT aX 20 [30,31,32,33,34,35,36] [] x14 s26 Q8<|fR Q2<|sL s9 cZ.symm [] [(14,9)] Q3<|fR Q2<|lM BH 17 [] h13 () Q7<|fR Q2<|oY s11 [14,5,6,7,8,9,10,11,38,37,12,13] hF Q2 Q4)<|eF 1 6 (nL t w_ x2 x7 x12) [0,1,4,5] (λ(x15:(List aI)) (_:Unit)=>[]) [4,5,6,7,8,9,10,11,12,13,15] (λx15 _=>[ow s8 (t.aR.set x7.toNat ({x12 with dU:=bB (w_+1)}:bR):List bR),ow s9 (x15:List aI),.box 0 [.h s1 t.aA.Mem.Heap.Bytes.length,.h s2 t.aA.Mem.Heap.Class.length,.h s3 t.aA.Mem.aE.Global.length,.h s4 t.aA.Mem.aE.Own.length,I t.aA.aC.aK,.h s5 t.aA.aC.cE.length,.h s6 t.aA.aQ.length,.h s7 t.aA.qU.length,.h s8 (t.aR.set x7.toNat ({x12 with dU:=bB (w_+1)}:bR)).length,.h s9 x15.length,.h s10 t.eE.length,.h s11 t.Log.length,I t.aG]]) Q (j5 aJ [2,3,14,15,16,19] Q<|λhF=>ro aX 1 15 1 Q Q Q Q hF λx17 h19 hF s28=>wi hF<|c0 Q (λh=>nX (h.o 28 Q)) λx18=>bY [74] Q2 (eF 0 6 (λ(_:Unit)=>DB t w_ x2 x7 x12 x17) [0,1,4,5] (λ(_:Unit) (_:Unit)=>[]) [4,5,6,7,8,9,10,11,12,13,15] (λ_ _=>[ow s8 (t.aR.set x7.toNat ({x12 with dU:=bB (w_+1)}:bR):List bR),ow s9 (t.aS.set w_.toNat ({x17 with bD:=x17.bD++([x7])}:aI):List aI),.box 0 [.h s1 t.aA.Mem.Heap.Bytes.length,.h s2 t.aA.Mem.Heap.Class.length,.h s3 t.aA.Mem.aE.Global.length,.h s4 t.aA.Mem.aE.Own.length,I t.aA.aC.aK,.h s5 t.aA.aC.cE.length,.h s6 t.aA.aQ.length,.h s7 t.aA.qU.length,.h s8 (t.aR.set x7.toNat ({x12 with dU:=bB (w_+1)}:bR)).length,.h s9 (t.aS.set w_.toNat ({x17 with bD:=x17.bD++([x7])}:aI)).length,.h s10 t.eE.length,.h s11 t.Log.length,I t.aG]]) Q (j5 aJ [2,3,14,15,16,19,22] Q<|λhF=>nd hF λhA2 hF=>(by refine eT Q2 ?_ ?_<;>exact lt1 Q bV Q Q Q Q λs31=>have hq4:=rn hA2;ap 28 bV Q Q Q Q Q Q Q (λh=>(h.o 30 Q)) Q Q hq4 λhq4 s32=>sF Q<|nT aX 20 [23,24,25,26,27,28,29] [] ({x17 with bD:=x17.bD++([x7])}:aI) (s28.1,s28.2.1,s28.2.2.1,s28.2.2.2.1,s28.2.2.2.2.1,s32,s28.2.2.2.2.2.2) Q8<|fR Q2<|sL s9 cZ.symm [] [(14,9)] Q3<|fR Q2<|nT BH 17 [] [] ({x12 with dU:=bB (w_+1)}:bR) () Q8<|fR Q2<|sL s8 cZ.symm [] [(14,8)] Q3<|fR Q2<|pD (p:=()) () [32,31,14,4,5,6,7,8,9,10,11,12,13,15] hF Q)) λ_ _=>cD (p:=(t.aS.set w_.toNat ({x17 with bD:=x17.bD++([x7])}:aI))) [0,1,2,3,4,5,6,7,8,9,10,11,12,13] Q2)<|λhF=>sF Q<|lM aX 20 [23,24,25,26,27,28,29] h19 s28 Q7<|fR Q2<|nT BH 17 [] [] ({x12 with dU:=bB (w_+1)}:bR) () Q8<|fR Q2<|sL s8 cZ.symm [] [(14,8)] Q3<|fR Q2<|pD () [31,30,14,4,5,6,7,8,9,10,11,12,13,15] hF Q) λx15 _=>λhF=>ro aX 1 13 1 Q Q Q Q hF λx16 h17 hF s27=>sF Q<|nT aX 14 [17,18,19,20,21,22,23] [] ({x16 with K:=bB (x16.K+1)}:aI) s27 Q8<|fR Q2<|sL s9 cZ.symm [] [(2,9)] Q3<|fR Q2<|pD (p:=(t.aR.set x7.toNat ({x12 with dU:=bB (w_+1)}:bR),x15.set w_.toNat ({x16 with K:=bB (x16.K+1)}:aI))) () [0,24,2,3,4,5,6,7,8,9,10,11,12,13] hF Q)<|λhF=>sF Q<|lM aX 12 [15,16,17,18,19,20,21] h1 s12 Q7<|fR Q2<|pD (p:=(t.aR,t.aS)) () [8,23,0,22,1,2,3,4,5,6,7,10,11,14] hF Q) λ⟨x3,x4⟩ _=>λhF=>ro aX 1 13 1 Q Q Q Q hF λx5 h3 hF s14=>wi hF<|bY [98] Q2 (eF 0 2 (λ(_:Unit)=>tP t w_ x3 x4 x5) [0,4] (λ(_:Unit) (s15:AC)=>[]) [4,5,6,7,8,9,10,0,11,13] (λ_ s15=>[ow s9 (x4:List aI),ow s15 (t.Log++([(⟨2,w_,x5.aG,0,[],[]⟩:mT)]):List mT),.box 0 [.h s1 t.aA.Mem.Heap.Bytes.length,.h s2 t.aA.Mem.Heap.Class.length,.h s3 t.aA.Mem.aE.Global.length,.h s4 t.aA.Mem.aE.Own.length,I t.aA.aC.aK,.h s5 t.aA.aC.cE.length,.h s6 t.aA.aQ.length,.h s7 t.aA.qU.length,.h s8 x3.length,.h s9 x4.length,.h s10 t.eE.length,.h s15 (t.Log++([(⟨2,w_,x5.aG,0,[],[]⟩:mT)])).length,I t.aG]]) Q (j5 aJ [13,16] Q<|λhF=>nd hF λhA1 hF=>(by repeat' first|refine eT Q2 ?_ ?_|refine nw iP Q<|nw fY Q<|S5 a2V [24,25] ((⟨2,w_,x5.aG,0,[],[]⟩:mT)) (⟨none,0⟩,⟨none,0⟩) lB S6 λs19=>?_|refine have hq1:=rn hA1;apN 12 26 lB Q Q Q9 hq1 λhq1 s20=>sF Q<|lM aX 14 [17,18,19,20,21,22,23] h3 s14 Q7<|fR Q2<|?_|exact pD (p:=()) s20 [28,27,2,4,5,6,7,8,9,10,0,11,13] hF Q)) λ_ s15=>λhF=>ro aX 0 12 1 Q Q Q Q hF λx6 h5 hF s16=>sF Q<|nT aX 13 [16,17,18,19,20,21,22] [] ({x6 with Pc:=8,K:=0}:aI) s16 Q8<|fR Q2<|sL s9 cZ.symm [] [(2,9)] Q3<|fR Q2<|oY s15 [2,3,4,5,6,7,8,9,10,23,11,1] hF Q2 Q4)<|λhF=>sF Q<|lM aX 14 [17,18,19,20,21,22,23] h3 s14 Q7<|oY s11 [2,4,5,6,7,8,9,10,0,24,11,12] hF Q2 Q4
theorem V1{b0:Nat×Nat}:VS prog U 72 (qZ t w_) [.p 0 0,I w_] [b0] ([.box 0 (K5 t s1 s2 s3 s4 s5 s6 s7 s8 s9 s10 s11)]++(QO t s1 s2 s3 s4 s5 s6 s7 s8 s9 s10 s11 [])) (λr (y:Unit)=>.t []) (λr y=>([.box 0 (K5 r s1 s2 s3 s4 s5 s6 s7 s8 s9 s10 s11)]++(QO r s1 s2 s3 s4 s5 s6 s7 s8 s9 s10 s11 []))):=
 cR call72 func72 Q Q2<|tD aX 9 Q3 λx1 h1 s12 h2=>λhF=>oC 1 h2 h1 Q5<|wi hF<|eF 0 2 (λ(_:Unit)=>tS t w_ x1) [0,1,4] (λ(_:Unit) (_:Unit)=>[(22,.b (decide ((x1.Reads.length:Int)<=x1.K)))]) [1,2,3,4,5,6,7,8,10,11,0,14] (λ_ _=>[ow s9 (t.aS:List aI)]) Q (j5 aJ [0,14] Q<|λhF=>(by refine eT Q2 ?_ ?_<;>exact sF Q<|lM aX 12 [15,16,17,18,19,20,21] h1 s12 Q7<|fR Q2<|pD (p:=()) () [22,1,2,3,4,5,6,7,8,10,11,0,14] hF Q)) λ_ _=>bY [22] Q2 (λhF=>ro aX 0 12 1 Q Q Q Q hF λx2 h3 hF s13=>sR Q<|nT aX 13 [16,17,18,19,20,21,22] [] ({x2 with Pc:=9,K:=0}:aI) s13 Q8<|fR Q2<|sL s9 cZ.symm [] [(11,9)] Q3<|fR Q2<|oY () [11,1,2,3,4,5,6,7,8,23,9,10] hF Q2 Q4)<|eF 0 4 (λ(p:Int×Int)=>tR t w_ p.1 p.2) [0,1,4] (λ(p:Int×Int) (_:Unit)=>[(5,.p 3 0)]) [1,2,3,4,5,6,7,8,0,9,10,11,12] (λp _=>[.box 3 [I p.1,I p.2]]) Q (j5 aJ [11,12] Q<|λhF=>bd hF λx13 hA1 hF=>bd hF λx14 hA2 hF=>aM6 Q Q (have hq1:=rb hA1;ro aX 0 12 1 Q Q Q Q hq1 λu1 h15 hq1 s17=>match u1,hq1 with|_,rfl=>eT Q2 (have hq2:=rb hA2;wi hq2<|tD XF 17 Q3 λu2 h17 _ h18=>λhq2=>oC 2 h18 h17 Q5<|match u2,hq2 with|_,rfl=>(by refine eT Q2 ?_ ?_<;>exact sF Q<|lM XF 23 [] h17 () Q7<|fR Q2<|lM aX 13 [16,27,18,19,20,21,22] h15 s17 Q7<|fR Q2<|pD (p:=(x14.bR,x14.eB)) () [26,1,2,3,4,5,6,7,8,28,9,10,11,12] hF Q)) (have hq3:=rb hA2;wi hq3<|tD XF 17 Q3 λu3 h19 _ h20=>λhq3=>oC 3 h20 h19 Q5<|match u3,hq3 with|_,rfl=>sF Q<|swR 3 2 Q<|fD Q Q<|lM XF 24 [] h19 () Q7<|fR Q2<|lM aX 13 [16,27,18,19,20,21,22] h15 s17 Q7<|fR Q2<|pD (p:=(x14.bR,x14.eB)) () [23,1,2,3,4,5,6,7,8,28,9,10,11,12] hF Q)) (have hq4:=rb hA1;ro aX 0 12 1 Q Q Q Q hq4 λu4 h21 hq4 s18=>match u4,hq4 with|_,rfl=>eT Q2 (have hq5:=rb hA2;wi hq5<|tD XF 17 Q3 λu5 h23 _ h24=>λhq5=>oC 2 h24 h23 Q5<|match u5,hq5 with|_,rfl=>(by refine eT Q2 ?_ ?_<;>exact sF Q<|lM XF 23 [] h23 () Q7<|fR Q2<|lM aX 13 [16,27,18,19,20,21,22] h21 s18 Q7<|fR Q2<|pD (p:=(x14.bR,x14.eB)) () [26,1,2,3,4,5,6,7,8,28,9,10,11,12] hF Q)) (have hq6:=rb hA2;wi hq6<|tD XF 17 Q3 λu6 h25 _ h26=>λhq6=>oC 3 h26 h25 Q5<|match u6,hq6 with|_,rfl=>sF Q<|swR 3 2 Q<|fD Q Q<|lM XF 24 [] h25 () Q7<|fR Q2<|lM aX 13 [16,27,18,19,20,21,22] h21 s18 Q7<|fR Q2<|pD (p:=(x14.bR,x14.eB)) () [23,1,2,3,4,5,6,7,8,28,9,10,11,12] hF Q)) ((by refine eT Q2 ?_ ?_<;>exact have hq7:=rb hA1;ro aX 0 12 1 Q Q Q Q hq7 λu7 h27 hq7 s19=>match u7,hq7 with|_,rfl=>have hq8:=rb hA2;wi hq8<|tD XF 18 Q3 λu8 h29 _ h30=>λhq8=>oC 3 h30 h29 Q5<|match u8,hq8 with|_,rfl=>sF Q<|swR 3 2 Q<|fD Q Q<|lM XF 24 [] h29 () Q7<|fR Q2<|lM aX 14 [17,27,19,20,21,22,23] h27 s19 Q7<|fR Q2<|pD (p:=(x14.bR,x14.eB)) () [13,1,2,3,4,5,6,7,8,28,9,10,11,12] hF Q))) λ⟨x3,x4⟩ _=>eF 0 6 (λ(p:Int×Int×Int)=>tQ t w_ x4 p.1 p.2.1 p.2.2) [0,1,4,5] (λ(p:Int×Int×Int) (_:Unit)=>[(6,.p 5 0)]) [1,2,3,4,5,6,7,8,9,10,11,12,13,0] (λp _=>[.box 5 [I p.1,I p.2.1,I p.2.2]]) Q (j5 aJ [0,12,13] Q<|tD BH 8 Q3 λx12 h9 _ h10=>λhF=>oC 4 h10 h9 Q5<|(by refine eT Q2 ?_ ?_<;>exact sF Q<|lM BH 14 [] h9 () Q7<|fR Q2<|pD (p:=(x12.Head,x12.eB,x12.dU)) () [17,1,2,3,4,5,6,7,18,9,10,11,12,13,0] hF Q)) λ⟨x5,x6,x7⟩ _=>gD 0 6 (fP t w_) [0,4] 63 [1,2,3,4,5,6,7,8,9,10,11,12,13] Q (gN [49,50] Q2 (gN [55,56,57] Q2 (cD [1,2,3,4,5,6,7,8,9,10,11,12,13] Q2)<|cD [1,2,3,4,5,6,7,8,9,10,11,12,13] Q2)<|cD [1,2,3,4,5,6,7,8,9,10,11,12,13] Q2) λx8=>bY [63] Q2 (λhF=>ro aX 8 12 1 Q Q Q Q hF λx9 h5 hF s14=>wi hF<|fE 14 1 0 32 [16,17,18,19,20,21,22] Q5 (λ_=>eD) λx10 _=>λhF=>sR Q<|nT aX 13 [23,24,25,26,27,28,29] [] x10 s14 Q8<|fR Q2<|sL s9 cZ.symm [] [(11,9)] Q3<|fR Q2<|oY () [11,0,1,2,3,4,5,6,7,30,9,10] hF Q2 Q4)<|λhF=>ro aX 8 12 1 Q Q Q Q hF λx11 h7 hF s15=>sF Q<|nT aX 13 [16,17,18,19,20,21,22] [] ({x11 with K:=bB (x11.K+1)}:aI) s15 Q8<|fR Q2<|sL s9 cZ.symm [] [(11,9)] Q3<|fR Q2<|oY () [11,0,1,2,3,4,5,6,7,23,9,10] hF Q2 Q4
theorem GI{x:aU}{b0:Nat×Nat}:VS prog U 161 (oV j x) [.p 0 0,.g [I x.Key,.b x.G3,I x.dI]] [b0] ([.box 0 (gTj j s1 s2 s3 s4 s5 s6 s7)]++(oTj j s1 s2 s3 s4 s5 s6 s7 [])) (λr (y:Unit)=>.t []) (λr y=>([.box 0 (gTj r s1 s2 s3 s4 s5 s6 s7)]++(oTj r s1 s2 s3 s4 s5 s6 s7 []))):=
 cR call161 func161 Q Q2<|bY [8] Q2 (GY () [0,1,2,3,4,5,6,7] Q Q)<|GY () [0,1,2,3,4,5,6,7] Q Q
theorem KO(h1:bH U s1 m.Heap.Bytes)(h2:bH U s2 m.Heap.Class)(h3:bH U s3 m.aE.Global)(h4:bH U s4 m.aE.Own):V0 prog U 171 (vQ m h) [.g (gM m s1 s2 s3 s4),I h] I:=
 cR call171 func171 Q Q2<|c0 Q (λh=>IY (h.a h1) (h.a h2) (h.a h3) (h.a h4)) λx1=>bY [5,9] Q2 (dQ Q2)<|c0 Q (λh=>XS (h.a h1) (h.a h2)) λx2=>bY [10,16] Q2 (dQ Q2)<|dQ Q2
theorem qN{next_:Int}(h1:bH U s1 m.Heap.Bytes)(h2:bH U s2 m.Heap.Class)(h3:bH U s3 m.aE.Global)(h4:bH U s4 m.aE.Own):VS prog U 162 (OZ m h next_) [.g (gM m s1 s2 s3 s4),I h,I next_] [] [] (λr (y:A4C)=>.t [.g (yM r.1 y),I r.2]) (λr y=>(zM r.1 y [])):=
 cR call162 func162 Q Q2<|c1 Q (λh=>yC (h.a h1) (h.a h2) (h.a h3) (h.a h4)) λx1 s5=>eF 0 3 (λ(p:Bool×Mem)=>FU m h next_ p.1 p.2) [1,2,3,6,8] (λ(p:Bool×Mem) (_:Unit)=>[(19,.b p.1)]) [0,1] (λp _=>(zM p.2 s5 [.box 2 (yM p.2 s5)])) Q (c0 Q (λh=>GG (h.a h1) (h.a h2) (h.a h3) (h.a h4)) λx10=>gN [14,15] Q2 (cD (p:=(true,x1)) [2,3,4,5,6,0,1] Q2)<|c0 Q (λ_=>vU) λx11=>cD (p:=(!x11,x1)) [2,3,4,5,6,0,1] Q2) λ⟨x2,x3⟩ _=>bY [19] Q2 (j4 s5 [0,1,2,3] Q2)<|c0 Q (λh=>KO (h.a h1) (h.a h2) (h.a h3) (h.a h4)) λx4=>eF 0 3 (M8 x4) [6,8,9] (λ(x5:Mem) (_:Unit)=>[]) [6] (λx5 _=>(zM x5 s5 [.box 2 (yM x5 s5)])) Q (bY [25] Q2 (eF 0 3 (WT x4) [6,8,9] (λ(x6:Mem) (_:Unit)=>[]) [6] (λx6 _=>(zM x6 s5 [.box 2 (yM x6 s5)])) Q (j5 aJ [5,6] Q<|λhF=>bd hF λx7 hA1 hF=>bd hF λx8 hA2 hF=>bd hF λx9 hA3 hF=>eT Q2 (HJ hA1 Q (λh=>yH (h.a h1) (h.a h2))<|HJ hA2 Q (λ_=>dW)<|have hq3:=rb hA3;wi hq3<|LB [0] Q4 (λ_=>gI) λu3 _=>λhq3=>un 7 [28] [] [(4,0)] Q6 λhl2=>match u3,hq3 with|_,rfl=>wi hF<|cD (p:=((⟨(⟨x9,x3.Heap.Class⟩:Heap),x3.aE⟩:Mem))) [7,1,2,3,4,6] Q2) (HJ hA1 Q (λh=>yH (h.a h1) (h.a h2))<|eT Q2 (HJ hA2 Q (λ_=>dW)<|have hq6:=rb hA3;wi hq6<|LB [0] Q4 (λ_=>gI) λu6 _=>λhq6=>un 7 [28] [] [(4,0)] Q6 λhl3=>match u6,hq6 with|_,rfl=>wi hF<|cD (p:=((⟨(⟨x9,x3.Heap.Class⟩:Heap),x3.aE⟩:Mem))) [7,1,2,3,4,6] Q2) (HJ hA2 Q (λ_=>dW)<|have hq8:=rb hA3;wi hq8<|LB [0] Q4 (λ_=>gI) λu8 _=>λhq8=>un 7 [28] [] [(4,0)] Q6 λhl4=>match u8,hq8 with|_,rfl=>wi hF<|cD (p:=((⟨(⟨x9,x3.Heap.Class⟩:Heap),x3.aE⟩:Mem))) [7,1,2,3,4,6] Q2))) λx6 _=>cD (p:=(x6)) [0,1,2,3,4,5] Q2)<|cD [0,1,2,3,4,6] Q2) λx5 _=>j4 s5 [0,1,2,3] Q2
theorem Z9:V0 prog U 172 (JN n) [.g [I n.Key,I n.dI,I n.Next]] .b:=
 cR call172 func172 Q Q2<|gD 0 1 xQ [] 2 [] Q (c0 Q (λ_=>bI) λx2=>gN [5,6] Q2 (c0 Q (λ_=>bI) λx3=>gN [9,10,11] Q2 (c0 Q (λ_=>vU) λx4=>cD [] Q2)<|cD [] Q2)<|cD [] Q2) λx1=>dQ Q2
theorem aK1(h1:bH U s1 m.Heap.Bytes)(h2:bH U s2 m.Heap.Class)(h3:bH U s3 m.aE.Global)(h4:bH U s4 m.aE.Own):VS prog U 228 (LX m h n) [.g (gM m s1 s2 s3 s4),I h,.g [I n.Key,I n.dI,I n.Next]] [] [] (λr (y:A4C)=>.t [.g (yM r.1 y),I r.2]) (λr y=>(zM r.1 y [])):=
 cR call228 func228 Q Q2<|c1 Q (λh=>yC (h.a h1) (h.a h2) (h.a h3) (h.a h4)) λx1 s5=>eF 0 4 (λ(p:Bool×Mem)=>CD m h n p.1 p.2) [1,3,5,6,8] (λ(p:Bool×Mem) (_:Unit)=>[(19,.b p.1)]) [0,1,2] (λp _=>(zM p.2 s5 [.box 3 (yM p.2 s5)])) Q (c0 Q (λh=>GG (h.a h1) (h.a h2) (h.a h3) (h.a h4)) λx12=>gN [14,15] Q2 (cD (p:=(true,x1)) [3,4,5,6,7,0,1,2] Q2)<|c0 Q (λ_=>Z9) λx13=>cD (p:=(!x13,x1)) [3,4,5,6,7,0,1,2] Q2) λ⟨x2,x3⟩ _=>bY [19] Q2 (j4 s5 [0,1,2,3] Q2)<|c0 Q (λh=>KO (h.a h1) (h.a h2) (h.a h3) (h.a h4)) λx4=>eF 0 4 (KF x4) [6,8,9] (λ(x5:Mem) (_:Unit)=>[]) [7] (λx5 _=>(zM x5 s5 [.box 3 (yM x5 s5)])) Q (bY [25] Q2 (eF 0 4 (U8 x4) [6,8,9] (λ(x6:Mem) (_:Unit)=>[]) [7] (λx6 _=>(zM x6 s5 [.box 3 (yM x6 s5)])) Q (j5 aJ [5,6,7] Q<|λhF=>bd hF λx7 hA1 hF=>bd hF λx8 hA2 hF=>bd hF λx9 hA3 hF=>nd hF λhA4 hF=>bd hF λx10 hA5 hF=>nd hF λhA6 hF=>bd hF λx11 hA7 hF=>eT Q2 (HJ hA1 Q (λh=>yH (h.a h1) (h.a h2))<|HJ hA2 Q (λ_=>dW)<|HJ hA3 Q (λ_=>dW)<|have hq4:=rn hA4;cat Q Q Q Q hq4 λhq4=>HJ hA5 Q (λ_=>dW)<|have hq6:=rn hA6;cat Q Q Q Q hq6 λhq6=>have hq7:=rb hA7;wi hq7<|LB [0] Q4 (λ_=>gI) λu5 _=>λhq7=>un 8 [28] [] [(4,0)] Q6 λhl2=>match u5,hq7 with|_,rfl=>wi hF<|cD (p:=((⟨(⟨x11,x3.Heap.Class⟩:Heap),x3.aE⟩:Mem))) [8,1,2,3,4,7] Q2) (HJ hA1 Q (λh=>yH (h.a h1) (h.a h2))<|eT Q2 (HJ hA2 Q (λ_=>dW)<|HJ hA3 Q (λ_=>dW)<|have hq11:=rn hA4;cat Q Q Q Q hq11 λhq11=>HJ hA5 Q (λ_=>dW)<|have hq13:=rn hA6;cat Q Q Q Q hq13 λhq13=>have hq14:=rb hA7;wi hq14<|LB [0] Q4 (λ_=>gI) λu10 _=>λhq14=>un 8 [28] [] [(4,0)] Q6 λhl3=>match u10,hq14 with|_,rfl=>wi hF<|cD (p:=((⟨(⟨x11,x3.Heap.Class⟩:Heap),x3.aE⟩:Mem))) [8,1,2,3,4,7] Q2) (HJ hA2 Q (λ_=>dW)<|eT Q2 (HJ hA3 Q (λ_=>dW)<|have hq17:=rn hA4;cat Q Q Q Q hq17 λhq17=>HJ hA5 Q (λ_=>dW)<|have hq19:=rn hA6;cat Q Q Q Q hq19 λhq19=>have hq20:=rb hA7;wi hq20<|LB [0] Q4 (λ_=>gI) λu14 _=>λhq20=>un 8 [28] [] [(4,0)] Q6 λhl4=>match u14,hq20 with|_,rfl=>wi hF<|cD (p:=((⟨(⟨x11,x3.Heap.Class⟩:Heap),x3.aE⟩:Mem))) [8,1,2,3,4,7] Q2) (HJ hA3 Q (λ_=>dW)<|have hq22:=rn hA4;cat Q Q Q Q hq22 λhq22=>eT Q2 (HJ hA5 Q (λ_=>dW)<|have hq24:=rn hA6;cat Q Q Q Q hq24 λhq24=>have hq25:=rb hA7;wi hq25<|LB [0] Q4 (λ_=>gI) λu17 _=>λhq25=>un 8 [28] [] [(4,0)] Q6 λhl5=>match u17,hq25 with|_,rfl=>wi hF<|cD (p:=((⟨(⟨x11,x3.Heap.Class⟩:Heap),x3.aE⟩:Mem))) [8,1,2,3,4,7] Q2) (HJ hA5 Q (λ_=>dW)<|have hq27:=rn hA6;cat Q Q Q Q hq27 λhq27=>have hq28:=rb hA7;wi hq28<|LB [0] Q4 (λ_=>gI) λu19 _=>λhq28=>un 8 [28] [] [(4,0)] Q6 λhl6=>match u19,hq28 with|_,rfl=>wi hF<|cD (p:=((⟨(⟨x11,x3.Heap.Class⟩:Heap),x3.aE⟩:Mem))) [8,1,2,3,4,7] Q2))))) λx6 _=>cD (p:=(x6)) [0,1,2,3,4,5] Q2)<|cD [0,1,2,3,4,7] Q2) λx5 _=>j4 s5 [0,1,2,3] Q2
theorem aC3{x:aU}{b:bR}{s12 s13 s14 s15 s16 s17 s18:AC}{b0 b1 b2:Nat×Nat}:VS prog U 163 (KG t j x b) [.p 0 0,.p 1 0,.g [I x.Key,.b x.G3,I x.dI],.p 2 0] [b0,b1,b2] (([.box 0 (K5 t s1 s2 s3 s4 s5 s6 s7 s8 s9 s10 s11),.box 1 (gTj j s12 s13 s14 s15 s16 s17 s18),.box 2 [I b.Head,I b.eB,I b.dU]]++(oBs t.aA s1 s2 s3 s4 s5 s6 s7 [ow s10 (t.eE:List aN),ow s11 (t.Log:List mT)]))++(oTj j s12 s13 s14 s15 s16 s17 s18 [])) (λr (y:A4C)=>.t []) (λr y=>(([.box 0 [.h y.1 r.1.aA.Mem.Heap.Bytes.length,.h y.2.1 r.1.aA.Mem.Heap.Class.length,.h y.2.2.1 r.1.aA.Mem.aE.Global.length,.h y.2.2.2 r.1.aA.Mem.aE.Own.length,I r.1.aA.aC.aK,.h s5 r.1.aA.aC.cE.length,.h s6 r.1.aA.aQ.length,.h s7 r.1.aA.qU.length,.h s8 t.aR.length,.h s9 t.aS.length,.h s10 r.1.eE.length,.h s11 r.1.Log.length,I r.1.aG],.box 1 (gTj r.2.1 s12 s13 s14 s15 s16 s17 s18),.box 2 [I r.2.2.Head,I r.2.2.eB,I r.2.2.dU]]++(oBs r.1.aA y.1 y.2.1 y.2.2.1 y.2.2.2 s5 s6 s7 [ow s10 r.1.eE,ow s11 r.1.Log]))++(oTj r.2.1 s12 s13 s14 s15 s16 s17 s18 []))):=
 cR call163 func163 Q Q2<|j5 aJ [0,1,2,19] Q<|c0 Q (λh=>DX (h.o 14 Q)) λx1=>bY [39,46] Q2 (fE 1 1 0 32 [12,13,14,15,16,17,18] Q5 (λ_=>eD) λx2 _=>GY (s1,s2,s3,s4) [0,1,2,3,4,5,6,7,8,9,10,11,20,21,22,23,24,25,26] Q Q)<|bY [49,54] Q2 (eF 0 4 (DC t j b) [0,1,3] (λ(x3:Table) (u:A4C)=>[]) [12,13,14,15,16,17,18,1,2] (λx3 u=>(oBs x3.aA u.1 u.2.1 u.2.2.1 u.2.2.2 s5 s6 s7 [ow s10 (x3.eE:List aN),ow s11 (x3.Log:List mT),.box 0 [.h u.1 x3.aA.Mem.Heap.Bytes.length,.h u.2.1 x3.aA.Mem.Heap.Class.length,.h u.2.2.1 x3.aA.Mem.aE.Global.length,.h u.2.2.2 x3.aA.Mem.aE.Own.length,I x3.aA.aC.aK,.h s5 x3.aA.aC.cE.length,.h s6 x3.aA.aQ.length,.h s7 x3.aA.qU.length,.h s8 t.aR.length,.h s9 t.aS.length,.h s10 x3.eE.length,.h s11 x3.Log.length,I x3.aG]])) Q (j5 aJ [1,2,19] Q<|tD oI 16 Q3 λx4 h1 _ h2=>λhF=>oC 4 h2 h1 Q5<|bd hF λx5 hA1 hF=>(by refine eT Q2 ?_ ?_<;>exact MR hA1 Q (λh=>aK1 (h.o 3 Q) (h.o 4 Q) (h.o 5 Q) (h.o 6 Q)) λs24=>sF Q<|lM oI 20 [] h1 () Q7<|fR Q2<|pD (p:=(({t with aA:=(⟨x5.1,t.aA.aC,t.aA.aQ,t.aA.qU⟩:aA)}:Table))) s24 [23,24,25,26,7,8,9,10,11,0,12,13,14,15,27,17,18,1,2] hF Q)) λx3 ⟨s19,s20,s21,s22⟩=>GY (s19,s20,s21,s22) [9,17,18,0,1,2,3,4,5,6,7,8,10,11,12,13,14,15,16] Q Q)<|tD oI 16 Q3 λx6 h3 _ h4=>λhF=>oC 4 h4 h3 Q5<|sF Q<|lM oI 20 [] h3 () Q7<|oY (s1,s2,s3,s4) [0,1,2,3,4,5,6,7,8,9,10,11,12,13,14,15,23,17,18] hF Q2 Q4
theorem aA7{b0:Nat×Nat}:VS prog U 73 (zC t w_) [.p 0 0,I w_] [b0] ([.box 0 (K5 t s1 s2 s3 s4 s5 s6 s7 s8 s9 s10 s11)]++(QO t s1 s2 s3 s4 s5 s6 s7 s8 s9 s10 s11 [])) (λr (y:A4C)=>.t []) (λr y=>([.box 0 (K5 r y.1 y.2.1 y.2.2.1 y.2.2.2 s5 s6 s7 s8 s9 s10 s11)]++(QO r y.1 y.2.1 y.2.2.1 y.2.2.2 s5 s6 s7 s8 s9 s10 s11 []))):=
 cR call73 func73 Q Q2<|tD aX 9 Q3 λx1 h1 s12 h2=>λhF=>oC 1 h2 h1 Q5<|wi hF<|eF 0 2 (λ(_:Unit)=>AO t w_ x1) [0,4] (λ(_:Unit) (_:Unit)=>[(22,.b (decide ((x1.aH.length:Int)<=x1.K)))]) [1,2,3,4,5,6,7,8,10,11,0,14] (λ_ _=>[ow s9 (t.aS:List aI)]) Q (j5 aJ [0,14] Q<|λhF=>(by refine eT Q2 ?_ ?_<;>exact sF Q<|lM aX 12 [15,16,17,18,19,20,21] h1 s12 Q7<|fR Q2<|pD (p:=()) () [22,1,2,3,4,5,6,7,8,10,11,0,14] hF Q)) λ_ _=>bY [22] Q2 (λhF=>ro aX 0 12 1 Q Q Q Q hF λx2 h3 hF s13=>sR Q<|nT aX 13 [16,17,18,19,20,21,22] [] ({x2 with Pc:=14}:aI) s13 Q8<|fR Q2<|sL s9 cZ.symm [] [(11,9)] Q3<|fR Q2<|oY (s1,s2,s3,s4) [11,1,2,3,4,5,6,7,8,23,9,10] hF Q2 Q4)<|eF 0 4 (λ(p:Int×Bool×Int)=>AN t w_ p.1 p.2.1 p.2.2) [0,4] (λ(p:Int×Bool×Int) (_:Unit)=>[(5,.p 3 0)]) [1,2,3,4,5,6,7,8,0,9,10,11,12] (λp _=>[.box 3 [I p.1,.b p.2.1,I p.2.2]]) Q (j5 aJ [11,12] Q<|λhF=>bd hF λx30 hA6 hF=>bd hF λx31 hA7 hF=>aM6 Q Q (have hq32:=rb hA6;ro aX 0 12 1 Q Q Q Q hq32 λu29 h23 hq32 s51=>match u29,hq32 with|_,rfl=>eT Q2 (have hq33:=rb hA7;wi hq33<|tD AQ 18 Q3 λu30 h25 _ h26=>λhq33=>oC 2 h26 h25 Q5<|match u30,hq33 with|_,rfl=>(by refine eT Q2 ?_ ?_<;>exact sF Q<|lM AQ 23 [] h25 () Q7<|fR Q2<|lM aX 13 [16,17,27,19,20,21,22] h23 s51 Q7<|fR Q2<|pD (p:=(x31.Key,x31.G3,x31.dI)) () [26,1,2,3,4,5,6,7,8,28,9,10,11,12] hF Q)) (have hq34:=rb hA7;wi hq34<|tD AQ 18 Q3 λu31 h27 _ h28=>λhq34=>oC 3 h28 h27 Q5<|match u31,hq34 with|_,rfl=>sF Q<|swR 3 2 Q<|fD Q Q<|lM AQ 24 [] h27 () Q7<|fR Q2<|lM aX 13 [16,17,27,19,20,21,22] h23 s51 Q7<|fR Q2<|pD (p:=(x31.Key,x31.G3,x31.dI)) () [23,1,2,3,4,5,6,7,8,28,9,10,11,12] hF Q)) (have hq35:=rb hA6;ro aX 0 12 1 Q Q Q Q hq35 λu32 h29 hq35 s52=>match u32,hq35 with|_,rfl=>eT Q2 (have hq36:=rb hA7;wi hq36<|tD AQ 18 Q3 λu33 h31 _ h32=>λhq36=>oC 2 h32 h31 Q5<|match u33,hq36 with|_,rfl=>(by refine eT Q2 ?_ ?_<;>exact sF Q<|lM AQ 23 [] h31 () Q7<|fR Q2<|lM aX 13 [16,17,27,19,20,21,22] h29 s52 Q7<|fR Q2<|pD (p:=(x31.Key,x31.G3,x31.dI)) () [26,1,2,3,4,5,6,7,8,28,9,10,11,12] hF Q)) (have hq37:=rb hA7;wi hq37<|tD AQ 18 Q3 λu34 h33 _ h34=>λhq37=>oC 3 h34 h33 Q5<|match u34,hq37 with|_,rfl=>sF Q<|swR 3 2 Q<|fD Q Q<|lM AQ 24 [] h33 () Q7<|fR Q2<|lM aX 13 [16,17,27,19,20,21,22] h29 s52 Q7<|fR Q2<|pD (p:=(x31.Key,x31.G3,x31.dI)) () [23,1,2,3,4,5,6,7,8,28,9,10,11,12] hF Q)) ((by refine eT Q2 ?_ ?_<;>exact have hq38:=rb hA6;ro aX 0 12 1 Q Q Q Q hq38 λu35 h35 hq38 s53=>match u35,hq38 with|_,rfl=>have hq39:=rb hA7;wi hq39<|tD AQ 19 Q3 λu36 h37 _ h38=>λhq39=>oC 3 h38 h37 Q5<|match u36,hq39 with|_,rfl=>sF Q<|swR 3 2 Q<|fD Q Q<|lM AQ 24 [] h37 () Q7<|fR Q2<|lM aX 14 [17,18,27,20,21,22,23] h35 s53 Q7<|fR Q2<|pD (p:=(x31.Key,x31.G3,x31.dI)) () [13,1,2,3,4,5,6,7,8,28,9,10,11,12] hF Q))) λ⟨x3,x4,x5⟩ _=>j5 aJ [0,12,13] Q<|c0 Q (λ_=>T7) λx6=>tD BH 8 Q3 λx7 h5 _ h6=>λhF=>oC 4 h6 h5 Q5<|ro aX 9 13 1 Q Q Q Q hF λx8 h7 hF s14=>wi hF<|bY [53,54] Q2 (bY [72] Q2 (fE 18 1 0 32 [20,21,22,23,24,25,26] Q5 (λ_=>GI (j:=({x8 with Pc:=10,H:=x7.Head,gR:=0}:aI))) λx9 _=>λhF=>sF Q<|nT aX 17 [27,28,29,30,31,32,33] [] x9 s14 Q8<|fR Q2<|sL s9 cZ.symm [] [(12,9)] Q3<|fR Q2<|lM BH 14 [] h5 () Q7<|fR Q2<|oY (s1,s2,s3,s4) [12,1,2,3,4,5,6,7,35,34,10,11] hF Q2 Q4)<|λhF=>sF Q<|nT aX 17 [20,21,22,23,24,25,26] [] ({x8 with Pc:=10,H:=x7.Head,gR:=0}:aI) s14 Q8<|fR Q2<|sL s9 cZ.symm [] [(12,9)] Q3<|fR Q2<|lM BH 14 [] h5 () Q7<|fR Q2<|oY (s1,s2,s3,s4) [12,1,2,3,4,5,6,7,28,27,10,11] hF Q2 Q4)<|bY [76,77] Q2 (j5 aJ [0,12,13,16,19] Q<|c0 Q (λh=>Z8 (h.o 1 Q) (h.o 2 Q) (h.o 3 Q) (h.o 4 Q)) λx10=>j5 aJ [0,12,13,16,19] Q<|bY [109,117] Q2 (λhF=>sF Q<|nT aX 17 [20,21,22,23,24,25,26] [] ({x8 with Pc:=11,Node:=x10.1}:aI) s14 Q8<|fR Q2<|sL s9 cZ.symm [] [(12,9)] Q3<|fR Q2<|lM BH 14 [] h5 () Q7<|fR Q2<|oY (s1,s2,s3,s4) [12,1,2,3,4,5,6,7,28,27,10,11] hF Q2 Q4)<|c0 Q (λ_=>dE) λx11=>bY [121,127] Q2 (fE 18 1 0 32 [20,21,22,23,24,25,26] Q5 (λ_=>GI (j:=({x8 with Node:=x10.1}:aI))) λx12 _=>λhF=>sF Q<|nT aX 17 [27,28,29,30,31,32,33] [] x12 s14 Q8<|fR Q2<|sL s9 cZ.symm [] [(12,9)] Q3<|fR Q2<|lM BH 14 [] h5 () Q7<|fR Q2<|oY (s1,s2,s3,s4) [12,1,2,3,4,5,6,7,35,34,10,11] hF Q2 Q4)<|eF 0 5 (AK t) [0] (λ(x13:(List aI)) (_:Unit)=>[]) [1,2,3,4,5,6,7,10,11] (λx13 _=>[ow s8 (t.aR:List bR),ow s9 (x13:List aI),.box 0 [.h s1 t.aA.Mem.Heap.Bytes.length,.h s2 t.aA.Mem.Heap.Class.length,.h s3 t.aA.Mem.aE.Global.length,.h s4 t.aA.Mem.aE.Own.length,I t.aA.aC.aK,.h s5 t.aA.aC.cE.length,.h s6 t.aA.aQ.length,.h s7 t.aA.qU.length,.h s8 t.aR.length,.h s9 x13.length,.h s10 t.eE.length,.h s11 t.Log.length,I t.aG]]) Q (j5 aJ [0,12,13,16,19] Q<|λhF=>bd hF λx14 hA1 hF=>eT Q2 (HJ hA1 Q (λ_=>dE)<|sF Q<|nT aX 17 [20,21,22,23,24,25,26] [] ({x8 with H:=x14,gR:=x8.H,Node:=x10.1}:aI) s14 Q8<|fR Q2<|sL s9 cZ.symm [] [(12,9)] Q3<|fR Q2<|lM BH 14 [] h5 () Q7<|fR Q2<|pD (p:=(t.aS.set w_.toNat ({x8 with H:=x14,gR:=x8.H,Node:=x10.1}:aI))) () [28,27,12,1,2,3,4,5,6,7,10,11] hF Q) ((by refine eT Q2 ?_ ?_<;>exact HJ hA1 Q (λ_=>dE)<|sF Q<|nT aX 17 [20,21,22,23,24,25,26] [] ({x8 with H:=x14,gR:=x8.H,Node:=x10.1}:aI) s14 Q8<|fR Q2<|sL s9 cZ.symm [] [(12,9)] Q3<|fR Q2<|lM BH 14 [] h5 () Q7<|fR Q2<|pD (p:=(t.aS.set w_.toNat ({x8 with H:=x14,gR:=x8.H,Node:=x10.1}:aI))) () [28,27,12,1,2,3,4,5,6,7,10,11] hF Q))) λx13 _=>GY (s1,s2,s3,s4) [2,3,4,5,6,7,8,9,0,1,10,11] Q Q)<|bY [131,132] Q2 (eF 0 5 (mL w_ x3 x4 x5) [0,4,5] (λ(x15:Table) (u:A4C)=>[]) [13,0] (λx15 u=>(QO x15 u.1 u.2.1 u.2.2.1 u.2.2.2 s5 s6 s7 s8 s9 s10 s11 [.box 0 (K5 x15 u.1 u.2.1 u.2.2.1 u.2.2.2 s5 s6 s7 s8 s9 s10 s11)])) Q (bY [137] Q2 (c0 Q (λ_=>dE) λx25=>λhF=>sF Q<|lM aX 17 [20,21,22,23,24,25,26] h7 s14 Q7<|fR Q2<|nT BH 14 [] [39] ({x7 with Head:=x25}:bR) () Q8<|fR Q2<|sL s8 cZ.symm [] [(12,8)] Q3<|fR Q2<|pD (s1,s2,s3,s4) [1,2,3,4,5,6,7,28,27,10,11,12,13,0] hF Q)<|eF 0 5 (AM w_ x3 x4 x5) [0,4,5] (λ(x26:Table) (u:A4C)=>[]) [13,0] (λx26 u=>(QO x26 u.1 u.2.1 u.2.2.1 u.2.2.2 s5 s6 s7 s8 s9 s10 s11 [.box 0 (K5 x26 u.1 u.2.1 u.2.2.1 u.2.2.2 s5 s6 s7 s8 s9 s10 s11)])) Q (j5 aJ [0,13,16,19] Q<|λhF=>bd hF λx27 hA4 hF=>bd hF λx28 hA5 hF=>aM6 Q Q (eT Q2 (HJ hA4 Q (λ_=>dE)<|MR hA5 Q (λh=>qN (h.o 1 Q) (h.o 2 Q) (h.o 3 Q) (h.o 4 Q)) λs37=>sF Q<|lM aX 17 [20,21,22,23,24,25,26] h7 s14 Q7<|fR Q2<|lM BH 14 [] h5 () Q7<|fR Q2<|pD (p:=(({t with aA:=(⟨x28.1,t.aA.aC,t.aA.aQ,t.aA.qU⟩:aA)}:Table))) s37 [27,28,29,30,5,6,7,32,31,10,11,12,13,0] hF Q) ((by refine eT Q2 ?_ ?_<;>exact HJ hA4 Q (λ_=>dE)<|MR hA5 Q (λh=>qN (h.o 1 Q) (h.o 2 Q) (h.o 3 Q) (h.o 4 Q)) λs38=>sF Q<|lM aX 17 [20,21,22,23,24,25,26] h7 s14 Q7<|fR Q2<|lM BH 14 [] h5 () Q7<|fR Q2<|pD (p:=(({t with aA:=(⟨x28.1,t.aA.aC,t.aA.aQ,t.aA.qU⟩:aA)}:Table))) s38 [27,28,29,30,5,6,7,32,31,10,11,12,13,0] hF Q))) (eT Q2 (HJ hA4 Q (λ_=>dE)<|MR hA5 Q (λh=>qN (h.o 1 Q) (h.o 2 Q) (h.o 3 Q) (h.o 4 Q)) λs40=>sF Q<|lM aX 17 [20,21,22,23,24,25,26] h7 s14 Q7<|fR Q2<|lM BH 14 [] h5 () Q7<|fR Q2<|pD (p:=(({t with aA:=(⟨x28.1,t.aA.aC,t.aA.aQ,t.aA.qU⟩:aA)}:Table))) s40 [27,28,29,30,5,6,7,32,31,10,11,12,13,0] hF Q) ((by refine eT Q2 ?_ ?_<;>exact HJ hA4 Q (λ_=>dE)<|MR hA5 Q (λh=>qN (h.o 1 Q) (h.o 2 Q) (h.o 3 Q) (h.o 4 Q)) λs41=>sF Q<|lM aX 17 [20,21,22,23,24,25,26] h7 s14 Q7<|fR Q2<|lM BH 14 [] h5 () Q7<|fR Q2<|pD (p:=(({t with aA:=(⟨x28.1,t.aA.aC,t.aA.aQ,t.aA.qU⟩:aA)}:Table))) s41 [27,28,29,30,5,6,7,32,31,10,11,12,13,0] hF Q))) (aM6 Q Q ((by refine eT Q2 ?_ ?_<;>exact HJ hA4 Q (λ_=>dE)<|MR hA5 Q (λh=>qN (h.o 1 Q) (h.o 2 Q) (h.o 3 Q) (h.o 4 Q)) λs43=>sF Q<|lM aX 17 [20,21,22,23,24,25,26] h7 s14 Q7<|fR Q2<|lM BH 14 [] h5 () Q7<|fR Q2<|pD (p:=(({t with aA:=(⟨x28.1,t.aA.aC,t.aA.aQ,t.aA.qU⟩:aA)}:Table))) s43 [27,28,29,30,5,6,7,32,31,10,11,12,13,0] hF Q)) ((by refine eT Q2 ?_ ?_<;>exact HJ hA4 Q (λ_=>dE)<|MR hA5 Q (λh=>qN (h.o 1 Q) (h.o 2 Q) (h.o 3 Q) (h.o 4 Q)) λs45=>sF Q<|lM aX 17 [20,21,22,23,24,25,26] h7 s14 Q7<|fR Q2<|lM BH 14 [] h5 () Q7<|fR Q2<|pD (p:=(({t with aA:=(⟨x28.1,t.aA.aC,t.aA.aQ,t.aA.qU⟩:aA)}:Table))) s45 [27,28,29,30,5,6,7,32,31,10,11,12,13,0] hF Q)) (HJ hA4 Q (λ_=>dE)<|(by refine eT Q2 ?_ ?_<;>exact MR hA5 Q (λh=>qN (h.o 1 Q) (h.o 2 Q) (h.o 3 Q) (h.o 4 Q)) λs47=>sF Q<|lM aX 17 [20,21,22,23,24,25,26] h7 s14 Q7<|fR Q2<|lM BH 14 [] h5 () Q7<|fR Q2<|pD (p:=(({t with aA:=(⟨x28.1,t.aA.aC,t.aA.aQ,t.aA.qU⟩:aA)}:Table))) s47 [27,28,29,30,5,6,7,32,31,10,11,12,13,0] hF Q)))) λx26 ⟨s32,s33,s34,s35⟩=>oP (p:=(x26)) (s32,s33,s34,s35) [0,1,2,3,4,5,6,7,8,9,10,11,12,13] Q Q) λx15 ⟨s15,s16,s17,s18⟩=>eF 1 5 (mK w_ x3 x4 x5) [0,4,5] (λ(x16:Table) (_:Unit)=>[]) [12,13] (λx16 _=>(QO x16 s15 s16 s17 s18 s5 s6 s7 s8 s9 s10 s11 [.box 0 (K5 x16 s15 s16 s17 s18 s5 s6 s7 s8 s9 s10 s11)])) Q (eF 0 5 (λ(p:Bool×Table)=>rA w_ x3 x4 x5 p.1 p.2) [0,4,5] (λ(p:Bool×Table) (_:Unit)=>[(180,.b p.1)]) [12,13] (λp _=>(QO p.2 s15 s16 s17 s18 s5 s6 s7 s8 s9 s10 s11 [.box 0 (K5 p.2 s15 s16 s17 s18 s5 s6 s7 s8 s9 s10 s11)])) Q (λhF=>ro aX 8 12 1 Q Q Q Q hF λx23 h17 hF s31=>wi hF<|c0 Q (λ_=>jF) λx24=>gN [172,173] Q2 (λhF=>sF Q<|lM aX 14 [17,18,19,20,21,22,23] h17 s31 Q7<|fR Q2<|pD (p:=(decide ((x23.cA.length:Int)<6),x15)) () [0,1,2,3,4,5,6,7,24,9,10,11,12,13] hF Q)<|λhF=>sF Q<|lM aX 14 [17,18,19,20,21,22,23] h17 s31 Q7<|fR Q2<|pD (p:=(false,x15)) () [0,1,2,3,4,5,6,7,24,9,10,11,12,13] hF Q) λ⟨x19,x20⟩ _=>bY [180] Q2 (eF 0 5 (AL w_ x3 x4 x5) [0,4,5] (λ(x21:Table) (_:Unit)=>[]) [12,13] (λx21 _=>(QO x21 s15 s16 s17 s18 s5 s6 s7 s8 s9 s10 s11 [.box 0 (K5 x21 s15 s16 s17 s18 s5 s6 s7 s8 s9 s10 s11)])) Q (j5 aJ [11,12,13] Q<|λhF=>bd hF λx22 hA2 hF=>nd hF λhA3 hF=>eT Q2 (have hq4:=rb hA2;ro aX 8 12 1 Q Q Q Q hq4 λu4 h13 hq4 s23=>match u4,hq4 with|_,rfl=>lt1 Q bV Q Q Q Q λs24=>have hq5:=rn hA3;ap 23 bV Q Q Q Q Q Q Q (λh=>(h.o 24 Q)) Q Q hq5 λhq5 s25=>sF Q<|nT aX 14 [17,18,19,20,21,22,23] [] ({x22 with cA:=x22.cA++([x22.H])}:aI) (s23.1,s23.2.1,s23.2.2.1,s23.2.2.2.1,s23.2.2.2.2.1,s23.2.2.2.2.2.1,s25) Q8<|fR Q2<|sL s9 cZ.symm [] [(11,9)] Q3<|fR Q2<|pD (p:=(({x20 with aS:=x20.aS.set w_.toNat ({x22 with cA:=x22.cA++([x22.H])}:aI)}:Table))) () [0,1,2,3,4,5,6,7,25,9,10,11,12,13] hF Q) (have hq6:=rb hA2;ro aX 8 12 1 Q Q Q Q hq6 λu5 h15 hq6 s26=>match u5,hq6 with|_,rfl=>(by refine eT Q2 ?_ ?_<;>exact lt1 Q bV Q Q Q Q λs27=>have hq7:=rn hA3;ap 23 bV Q Q Q Q Q Q Q (λh=>(h.o 24 Q)) Q Q hq7 λhq7 s28=>sF Q<|nT aX 14 [17,18,19,20,21,22,23] [] ({x22 with cA:=x22.cA++([x22.H])}:aI) (s26.1,s26.2.1,s26.2.2.1,s26.2.2.2.1,s26.2.2.2.2.1,s26.2.2.2.2.2.1,s28) Q8<|fR Q2<|sL s9 cZ.symm [] [(11,9)] Q3<|fR Q2<|pD (p:=(({x20 with aS:=x20.aS.set w_.toNat ({x22 with cA:=x22.cA++([x22.H])}:aI)}:Table))) () [0,1,2,3,4,5,6,7,25,9,10,11,12,13] hF Q))) λx21 _=>cD (p:=(x21)) [0,1,2,3,4,5,6,7,8,9,10,11,12,13] Q2)<|cD [0,1,2,3,4,5,6,7,8,9,10,11,12,13] Q2) λx16 _=>λhF=>ro aX 8 12 1 Q Q Q Q hF λx17 h9 hF s19=>wi hF<|fE 15 1 0 32 [17,18,19,20,21,22,23] Q5 (λ_=>GI) λx18 _=>λhF=>sF Q<|nT aX 14 [24,25,26,27,28,29,30] [] x18 s19 Q8<|fR Q2<|sL s9 cZ.symm [] [(11,9)] Q3<|fR Q2<|oY (s15,s16,s17,s18) [11,0,1,2,3,4,5,6,7,31,9,10] hF Q2 Q4)<|bK4 12 0 0 13 18 1 0 32 15 4 0 3 [1,2,3,4,5,6,7,10,11,20,21,22,23,24,25,26] Q Q Q Q Q (λ_=>aC3) λx29 s49=>λhF=>fG Q Q<|sF Q<|nT aX 17 [36,37,38,39,40,41,42] [] x29.2.1 s14 Q8<|fR Q2<|sL s9 cZ.symm [] [(12,9)] Q3<|fR Q2<|nT BH 14 [] [39] x29.2.2 () Q8<|fR Q2<|sL s8 cZ.symm [] [(12,8)] Q3<|fR Q2<|oY s49 [12,27,28,29,30,31,32,33,44,43,34,35] hF Q2 Q4
theorem K8{s:List Int}{j:Int}:VS prog U 164 (pS s i j) [.h s1 s.length,I i,I j] [] [ow s1 (s:List Int)] (λr (y:AC)=>.h y r.length) (λr y=>[ow y r]):=
 cR call164 func164 Q Q2<|λhF=>cpc 0 Q Q λhc1=>aWT hc1 Q Q Q Q Q Q Q Q hF λhF h1=>wi hF<|bY [16] Q2 (j4 s1 [0] Q2)<|j5 aJ [] Q<|λhF=>aWR hc1 Q Q Q Q Q Q hF λhF h2=>aM7 hc1 Q Q Q Q Q Q hF λhF h3=>nd hF λhab hF=>ap2 0 i.toNat j.toNat ⟨hab,h3.1⟩ Q Q Q Q Q Q Q Q Q λh4=>a62 0 (i.toNat+(s.length-j.toNat)) h4.2 (yR h4.1 h4.2) Q Q Q Q Q Q Q Q Q hF λhF h5=>clr 0 (((((cT s i.toNat (s.drop j.toNat)).take (i.toNat+(s.length-j.toNat))).drop 0).length:Int).toNat) ((s.length:Int).toNat) (0:Int) h5 bV Q (λ_=>Q) Q Q Q Q Q Q Q Q<|sR Q<|poR 0 0 (i.toNat+(s.length-j.toNat)) Q Q (aWS h4 (lX h5.1 h5.2)) (aQS (UP (by rw[MM,yR h4.1 h4.2];rfl)) (lX h5.1 h5.2))<|oY (AC.sub s1 1 0) [0] hF Q2 Q4
theorem GJ{b0:Nat×Nat}:VS prog U 165 (lT j) [.p 0 0] [b0] ([.box 0 (gTj j s1 s2 s3 s4 s5 s6 s7)]++(oTj j s1 s2 s3 s4 s5 s6 s7 [])) (λr (y:Unit)=>.t []) (λr y=>([.box 0 (gTj r s1 s2 s3 s4 s5 s6 s7)]++(oTj r s1 s2 s3 s4 s5 s6 s7 []))):=
 cR call165 func165 Q Q2<|j5 aJ [0] Q<|bY [11] Q2 (eF 0 1 rW [0] (λ(x1:aI) (_:Unit)=>[]) [] (λx1 _=>(oTj x1 s1 s2 s3 s4 s5 s6 s7 [.box 0 (gTj x1 s1 s2 s3 s4 s5 s6 s7)])) Q (j5 aJ [] Q<|λhF=>bd hF λx2 hA1 hF=>bd hF λx3 hA2 hF=>(by refine eT Q2 ?_ ?_<;>exact have hq1:=rb hA1;wi hq1<|tD oI 7 Q3 λu1 h3 _ h4=>λhq1=>oC 1 h4 h3 Q5<|match u1,hq1 with|_,rfl=>HJ hA2 Q (λ_=>qL)<|sF Q<|lM oI 8 [] h3 () Q7<|pD (p:=(({j with Sub:=x3}:aI))) () [1,2,3,4,5,6,11,0] hF Q)) λx1 _=>GY () [7,0,1,2,3,4,5,6] Q Q)<|GY () [0,1,2,3,4,5,6,7] Q Q
theorem ZG{b0:Nat×Nat}:VS prog U 74 (wH t w_) [.p 0 0,I w_] [b0] ([.box 0 (K5 t s1 s2 s3 s4 s5 s6 s7 s8 s9 s10 s11)]++(QO t s1 s2 s3 s4 s5 s6 s7 s8 s9 s10 s11 [])) (λr (y:Unit)=>.t []) (λr y=>([.box 0 (K5 r s1 s2 s3 s4 s5 s6 s7 s8 s9 s10 s11)]++(QO r s1 s2 s3 s4 s5 s6 s7 s8 s9 s10 s11 []))):=
 cR call74 func74 Q Q2<|tD aX 9 Q3 λx1 h1 s12 h2=>λhF=>oC 1 h2 h1 Q5<|wi hF<|bY [20,26] Q2 (j5 aJ [0,14] Q<|tD oI 20 Q3 λx2 h3 _ h4=>λhF=>oC 2 h4 h3 Q5<|wi hF<|tD BH 8 Q3 λx3 h5 _ h6=>λhF=>oC 3 h6 h5 Q5<|wi hF<|eF 0 4 (lU t w_) [0,4] (λ(x4:(List bR)) (_:Unit)=>[]) [1,2,3,4,5,6,7,10,11,14] (λx4 _=>[ow s8 (x4:List bR),ow s9 (t.aS:List aI),.box 0 [.h s1 t.aA.Mem.Heap.Bytes.length,.h s2 t.aA.Mem.Heap.Class.length,.h s3 t.aA.Mem.aE.Global.length,.h s4 t.aA.Mem.aE.Own.length,I t.aA.aC.aK,.h s5 t.aA.aC.cE.length,.h s6 t.aA.aQ.length,.h s7 t.aA.qU.length,.h s8 x4.length,.h s9 t.aS.length,.h s10 t.eE.length,.h s11 t.Log.length,I t.aG]]) Q (bY [45] Q2 (λhF=>bKJ Q Q Q Q<|sF Q<|nT BH 25 [] [30] (⟨x3.Head,if 1000000<(bB (x3.eB+1)) then 1000000 else(bB (x3.eB+1)),0⟩:bR) () Q8<|sL s8 cZ.symm [] [(0,8)] Q3<|fR Q2<|lM oI 22 [] h3 () Q7<|fR Q2<|lM aX 12 [15,16,17,18,19,29,21] h1 s12 Q7<|fR Q2<|pD () [28,30,0,1,2,3,4,5,6,7,10,11,14] hF Q)<|λhF=>sF Q<|nT BH 25 [] [30] ({x3 with dU:=0}:bR) () Q8<|fR Q2<|sL s8 cZ.symm [] [(0,8)] Q3<|fR Q2<|lM oI 22 [] h3 () Q7<|fR Q2<|lM aX 12 [15,16,17,18,19,29,21] h1 s12 Q7<|fR Q2<|pD () [28,30,0,1,2,3,4,5,6,7,10,11,14] hF Q) λx4 _=>λhF=>ro aX 1 12 1 Q Q Q Q hF λx5 h7 hF s13=>wi hF<|LB [21] Q4 (λ_=>K8) λx6 s14=>λhF=>sF Q<|nT aX 13 [16,17,18,19,20,23,22] [] ({x5 with bD:=x6}:aI) (s13.1,s13.2.1,s13.2.2.1,s13.2.2.2.1,s13.2.2.2.2.1,s14,s13.2.2.2.2.2.2) Q8<|fR Q2<|sL s9 cZ.symm [] [(2,9)] Q3<|fR Q2<|oY () [2,3,4,5,6,7,8,9,0,24,10,11] hF Q2 Q4)<|bY [63,68] Q2 (λhF=>sF Q<|nT aX 12 [15,16,17,18,19,20,21] [9] ({x1 with Pc:=17}:aI) s12 Q8<|fR Q2<|sL s9 cZ.symm [] [(0,9)] Q3<|fR Q2<|oY () [0,1,2,3,4,5,6,7,8,22,10,11] hF Q2 Q4)<|fE 13 1 0 32 [15,16,17,18,19,20,21] Q5 (λ_=>GJ (j:=({x1 with Pc:=15,K:=0}:aI))) λx7 _=>λhF=>sF Q<|nT aX 12 [22,23,24,25,26,27,28] [9] x7 s12 Q8<|fR Q2<|sL s9 cZ.symm [] [(0,9)] Q3<|fR Q2<|oY () [0,1,2,3,4,5,6,7,8,29,10,11] hF Q2 Q4
theorem ZH{b0:Nat×Nat}:VS prog U 75 (wI t w_) [.p 0 0,I w_] [b0] ([.box 0 (K5 t s1 s2 s3 s4 s5 s6 s7 s8 s9 s10 s11)]++(QO t s1 s2 s3 s4 s5 s6 s7 s8 s9 s10 s11 [])) (λr (y:A6C)=>.t []) (λr y=>([.box 0 (K5 r y.1 y.2.1 y.2.2.1 y.2.2.2.1 y.2.2.2.2.1 y.2.2.2.2.2 s7 s8 s9 s10 s11)]++(QO r y.1 y.2.1 y.2.2.1 y.2.2.2.1 y.2.2.2.2.1 y.2.2.2.2.2 s7 s8 s9 s10 s11 []))):=
 cR call75 func75 Q Q2<|tD aX 9 Q3 λx1 h1 s12 h2=>λhF=>oC 1 h2 h1 Q5<|wi hF<|eF 0 2 (λ(_:Unit)=>xR t w_ x1) [0,1,4] (λ(_:Unit) (_:Unit)=>[(20,.b (decide ((x1.cA.length:Int)<=x1.K)))]) [1,2,3,4,5,6,7,8,10,11,0,14] (λ_ _=>[ow s9 (t.aS:List aI)]) Q (j5 aJ [0,14] Q<|λhF=>(by refine eT Q2 ?_ ?_<;>exact sF Q<|lM aX 12 [15,16,17,18,19,20,21] h1 s12 Q7<|fR Q2<|pD (p:=()) () [22,1,2,3,4,5,6,7,8,10,11,0,14] hF Q)) λ_ _=>bY [20] Q2 (λhF=>ro aX 0 12 1 Q Q Q Q hF λx2 h3 hF s13=>sR Q<|nT aX 13 [16,17,18,19,20,21,22] [] ({x2 with Pc:=18}:aI) s13 Q8<|fR Q2<|sL s9 cZ.symm [] [(11,9)] Q3<|fR Q2<|oY (s1,s2,s3,s4,s5,s6) [11,1,2,3,4,5,6,7,8,23,9,10] hF Q2 Q4)<|j5 aJ [12] Q<|λhF=>ro aX 0 12 1 Q Q Q Q hF λx3 h5 hF s14=>wi hF<|aQT 14 1 16 10 11 0 0 8 [1,2,3,4,5,6,7] Q Q Q Q Q (λ_=>KN) λx4 s15=>bY [36] Q2 (fE 14 1 0 32 [16,17,18,19,20,21,22] Q5 (λ_=>GJ (j:=({x3 with K:=bB (x3.K+1),Sub:=x4.1}:aI))) λx5 _=>λhF=>sF Q<|nT aX 13 [30,31,32,33,34,35,36] [] x5 s14 Q8<|fR Q2<|sL s9 cZ.symm [] [(11,9)] Q3<|fR Q2<|oY s15 [11,23,24,25,26,27,28,29,8,37,9,10] hF Q2 Q4)<|λhF=>sF Q<|nT aX 13 [16,17,18,19,20,21,22] [] ({x3 with Sub:=x4.1}:aI) s14 Q8<|fR Q2<|sL s9 cZ.symm [] [(11,9)] Q3<|fR Q2<|oY s15 [11,23,24,25,26,27,28,29,8,30,9,10] hF Q2 Q4
theorem aK2(h1:bH U s1 m.Heap.Bytes)(h2:bH U s2 m.Heap.Class)(h3:bH U s3 m.aE.Global)(h4:bH U s4 m.aE.Own):VS prog U 167 (LY m w_ h) [.g (gM m s1 s2 s3 s4),I w_,I h] [] [] (λr (y:A4C)=>.t [.g (yM r.1 y),I r.2]) (λr y=>(zM r.1 y [])):=
 cR call167 func167 Q Q2<|gD 0 2 (CE m w_ h) [1,2,3,6] 8 [0,1] Q (c0 Q (λh=>GG (h.a h1) (h.a h2) (h.a h3) (h.a h4)) λx6=>gN [11,12] Q2 (cD [0,1] Q2)<|c0 Q (λ_=>jG) λx7=>cD [0,1] Q2) λx1=>bY [8] Q2 (c1 Q (λh=>yC (h.a h1) (h.a h2) (h.a h3) (h.a h4)) λx2 s5=>j4 s5 [2,3,4,5] Q2)<|c0 Q (λh=>IY (h.a h1) (h.a h2) (h.a h3) (h.a h4)) λx3=>bY [19,23] Q2 (c1 Q (λh=>yC (h.a h1) (h.a h2) (h.a h3) (h.a h4)) λx4 s6=>j4 s6 [2,3,4,5] Q2)<|c1 Q (λh=>aCV (h.a h1) (h.a h2) (h.a h3) (h.a h4)) λx5 s7=>j4 s7 [2,3,4,5] Q2
theorem aC4{b0:Nat×Nat}:VS prog U 76 (CF t w_) [.p 0 0,I w_] [b0] ([.box 0 (K5 t s1 s2 s3 s4 s5 s6 s7 s8 s9 s10 s11)]++(QO t s1 s2 s3 s4 s5 s6 s7 s8 s9 s10 s11 [])) (λr (y:A4C)=>.t []) (λr y=>([.box 0 (K5 r y.1 y.2.1 y.2.2.1 y.2.2.2 s5 s6 s7 s8 s9 s10 s11)]++(QO r y.1 y.2.1 y.2.2.1 y.2.2.2 s5 s6 s7 s8 s9 s10 s11 []))):=
 cR call76 func76 Q Q2<|tD aX 9 Q3 λx1 h1 s12 h2=>λhF=>oC 1 h2 h1 Q5<|wi hF<|bY [17] Q2 (λhF=>sR Q<|nT aX 12 [15,16,17,18,19,20,21] [9] ({x1 with Pc:=18}:aI) s12 Q8<|fR Q2<|sL s9 cZ.symm [] [(0,9)] Q3<|fR Q2<|oY (s1,s2,s3,s4) [0,1,2,3,4,5,6,7,8,22,10,11] hF Q2 Q4)<|tD oI 19 Q3 λx2 h3 _ h4=>λhF=>oC 2 h4 h3 Q5<|cqS oI 22 [] h3 () Q9<|wi hF<|LB [25] Q4 (λ_=>K8) λx3 s13=>c0 Q (λh=>XP (h.o 6 Q)) λx4=>bY [43] Q2 (c1 Q (λh=>aK2 (h.o 1 Q) (h.o 2 Q) (h.o 3 Q) (h.o 4 Q)) λx5 s14=>λhF=>sF Q<|nT aX 12 [15,16,17,18,26,20,21] [9] ({x1 with gL:=x3}:aI) (s12.1,s12.2.1,s12.2.2.1,s12.2.2.2.1,s13,s12.2.2.2.2.2.1,s12.2.2.2.2.2.2) Q8<|fR Q2<|sL s9 cZ.symm [] [(0,9)] Q3<|fR Q2<|oY s14 [0,27,28,29,30,5,6,7,8,31,10,11] hF Q2 Q4)<|λhF=>sF Q<|nT aX 12 [15,16,17,18,26,20,21] [9] ({x1 with gL:=x3}:aI) (s12.1,s12.2.1,s12.2.2.1,s12.2.2.2.1,s13,s12.2.2.2.2.2.1,s12.2.2.2.2.2.2) Q8<|fR Q2<|sL s9 cZ.symm [] [(0,9)] Q3<|fR Q2<|oY (s1,s2,s3,s4) [0,1,2,3,4,5,6,7,8,27,10,11] hF Q2 Q4
theorem aRA{c:aC}(h1:bH U s1 c.cE):VS prog U 168 (TG c w_) [.g [I c.aK,.h s1 c.cE.length],I w_] [] [] (λr (y:AC)=>.t [.g [I r.1.aK,.h y r.1.cE.length],.b r.2]) (λr y=>[ow y r.1.cE]):=
 cR call168 func168 Q Q2<|c1 Q (λh=>sE (h.a h1)) λx1 s2=>gD 0 3 (A7 w_ x1) [1,4,6] 25 [1,2,3] Q (c0 Q (λh=>yE (h.a h1)) λx4=>gN [11,12] Q2 (cD [1,2,3] Q2)<|c0 Q (λ_=>jG) λx5=>gN [15,16,17] Q2 (cD [1,2,3] Q2)<|sO a73 Q h1 Q λx6 _ _=>cD [1,2,3] Q2) λx2=>bY [25] Q2 (j4 s2 [1] Q2)<|tD aAX 1 Q3 λx3 h2 _ h3=>λhF=>oC 3 h3 h2 Q5<|sR Q<|nT aAX 3 [] [28] zL3 () Q8<|sL s2 cZ.symm [(32,1)] [(0,1),(2,1)] Q3<|fR Q2<|oY s2 [6] hF Q2 Q4
theorem aC5{b:aA}{b0:Nat×Nat}:VS prog U 77 (CG b w_) [.p 0 0,I w_] [b0] ([.box 0 (gB b s1 s2 s3 s4 s5 s6 s7)]++(oBs b s1 s2 s3 s4 s5 s6 s7 [])) (λr (y:AC)=>.b r.1) (λr y=>([.box 0 (gB r.2 s1 s2 s3 s4 y s6 s7)]++(oBs r.2 s1 s2 s3 s4 y s6 s7 []))):=
 cR call77 func77 Q Q2<|c1 Q (λh=>aRA (h.o 5 Q)) λx1 s8=>j4 s8 [0,1,2,3,4,8,6,7] Q2
theorem XW{b0:Nat×Nat}:VS prog U 78 (tT t w_) [.p 0 0,I w_] [b0] ([.box 0 (K5 t s1 s2 s3 s4 s5 s6 s7 s8 s9 s10 s11)]++(QO t s1 s2 s3 s4 s5 s6 s7 s8 s9 s10 s11 [])) (λr (y:AC)=>.t []) (λr y=>([.box 0 (K5 r s1 s2 s3 s4 s5 s6 s7 s8 s9 s10 y)]++(QO r s1 s2 s3 s4 s5 s6 s7 s8 s9 s10 y []))):=
 cR call78 func78 Q Q2<|tD aX 9 Q3 λx1 h1 s12 h2=>λhF=>oC 1 h2 h1 Q5<|wi hF<|bY [21] Q2 (eF 0 4 (λ(_:Unit)=>HA t w_ x1) [0,1] (λ(_:Unit) (s13:AC)=>[]) [1,2,3,4,5,6,7,8,10,15,16,17,19,20,21,12,13,14] (λ_ s13=>[ow s13 (t.Log++([({x1 with Kind:=3,Who:=w_,bK:=[]}:mT)]):List mT),.box 0 [.h s1 t.aA.Mem.Heap.Bytes.length,.h s2 t.aA.Mem.Heap.Class.length,.h s3 t.aA.Mem.aE.Global.length,.h s4 t.aA.Mem.aE.Own.length,I t.aA.aC.aK,.h s5 t.aA.aC.cE.length,.h s6 t.aA.aQ.length,.h s7 t.aA.qU.length,.h s8 t.aR.length,.h s9 t.aS.length,.h s10 t.eE.length,.h s13 (t.Log++([({x1 with Kind:=3,Who:=w_,bK:=[]}:mT)])).length,I t.aG]]) Q (j5 aJ [14,22,23] Q<|λhF=>nd hF λhA1 hF=>(by refine eT Q2 ?_ ?_<;>exact nw iP Q<|S5 a2V [24,18] (({x1 with Kind:=3,Who:=w_,bK:=[]}:mT)) (⟨none,0⟩,s12.2.2.2.1) lB S6 λs16=>have hq1:=rn hA1;apN 11 25 lB Q Q Q9 hq1 λhq1 s17=>wi hF<|oP (p:=()) s17 [26,0,1,2,3,4,5,6,7,8,10,15,16,17,19,20,21,12,13,14] Q Q)) λ_ s13=>λhF=>oC 1 h2 h1 Q5<|sF Q<|GX iP<|GX Seen<|GX aU<|GX fY<|GX Int<|GX Int<|GX Int<|fR Q2<|nT aX 17 [20,21,22,23,24,25,26] [38] zL0 (⟨none,0⟩,⟨none,0⟩,⟨none,0⟩,⟨none,0⟩,⟨none,0⟩,⟨none,0⟩,⟨none,0⟩) Q8<|fR Q2<|sL s9 cZ.symm [] [(1,9)] Q3<|fR Q2<|oY s13 [1,2,3,4,5,6,7,8,9,27,10,0] hF Q2 Q4)<|eF 0 4 (λ(_:Unit)=>HB t w_ x1) [0,1] (λ(_:Unit) (s20:AC)=>[]) [1,2,3,4,5,6,7,8,10,15,16,17,18,19,20,21,12,13,14] (λ_ s20=>[ow s20 (t.Log++([(⟨3,w_,x1.aG,x1.Code,[],[]⟩:mT)]):List mT),.box 0 [.h s1 t.aA.Mem.Heap.Bytes.length,.h s2 t.aA.Mem.Heap.Class.length,.h s3 t.aA.Mem.aE.Global.length,.h s4 t.aA.Mem.aE.Own.length,I t.aA.aC.aK,.h s5 t.aA.aC.cE.length,.h s6 t.aA.aQ.length,.h s7 t.aA.qU.length,.h s8 t.aR.length,.h s9 t.aS.length,.h s10 t.eE.length,.h s20 (t.Log++([(⟨3,w_,x1.aG,x1.Code,[],[]⟩:mT)])).length,I t.aG]]) Q (j5 aJ [14,22,23] Q<|λhF=>nd hF λhA2 hF=>(by refine eT Q2 ?_ ?_<;>exact nw iP Q<|nw fY Q<|S5 a2V [24,25] ((⟨3,w_,x1.aG,x1.Code,[],[]⟩:mT)) (⟨none,0⟩,⟨none,0⟩) lB S6 λs23=>have hq3:=rn hA2;apN 11 26 lB Q Q Q9 hq3 λhq3 s24=>wi hF<|oP (p:=()) s24 [27,0,1,2,3,4,5,6,7,8,10,15,16,17,18,19,20,21,12,13,14] Q Q)) λ_ s20=>λhF=>oC 1 h2 h1 Q5<|sF Q<|GX iP<|GX Seen<|GX aU<|GX fY<|GX Int<|GX Int<|GX Int<|fR Q2<|nT aX 18 [21,22,23,24,25,26,27] [38] zL0 (⟨none,0⟩,⟨none,0⟩,⟨none,0⟩,⟨none,0⟩,⟨none,0⟩,⟨none,0⟩,⟨none,0⟩) Q8<|fR Q2<|sL s9 cZ.symm [] [(1,9)] Q3<|fR Q2<|oY s20 [1,2,3,4,5,6,7,8,9,28,10,0] hF Q2 Q4
theorem aC6{b0:Nat×Nat}:VS prog U 34 (CH t w_) [.p 0 0,I w_] [b0] ([.box 0 (K5 t s1 s2 s3 s4 s5 s6 s7 s8 s9 s10 s11)]++(QO t s1 s2 s3 s4 s5 s6 s7 s8 s9 s10 s11 [])) (λr (y:A7C)=>.t []) (λr y=>([.box 0 (K5 r y.1 y.2.1 y.2.2.1 y.2.2.2.1 y.2.2.2.2.1 y.2.2.2.2.2.1 s7 s8 s9 s10 y.2.2.2.2.2.2)]++(QO r y.1 y.2.1 y.2.2.1 y.2.2.2.1 y.2.2.2.2.1 y.2.2.2.2.2.1 s7 s8 s9 s10 y.2.2.2.2.2.2 []))):=
 cR call34 func34 Q Q2<|tD aX 9 Q3 λx1 h1 s12 h2=>λhF=>oC 1 h2 h1 Q5<|wi hF<|bY [18,23] Q2 (λhF=>cqS aX 12 [15,16,17,18,19,20,21] h1 s12 Q9<|wi hF<|fE 0 0 0 13 [1,2,3,4,5,6,7,8,22,10,11] Q5 (λ_=>aA3) λx2 s13=>GY (s1,s2,s3,s4,s5,s6,s13) [0,23,24,25,26,27,28,29,30,31,32,33] Q Q)<|eF 0 2 (jQ t w_ x1) [0,1,4,5] (λ(x3:Bool) (_:Unit)=>[(27,.b x3)]) [1,2,3,4,5,6,7,8,10,11,0,14] (λx3 _=>[ow s9 (t.aS:List aI)]) Q (gN [29,30] Q2 (λhF=>sF Q<|lM aX 12 [15,16,17,18,19,20,21] h1 s12 Q7<|fR Q2<|pD () [22,1,2,3,4,5,6,7,8,10,11,0,14] hF Q)<|gN [32,33,34] Q2 (λhF=>sF Q<|lM aX 12 [15,16,17,18,19,20,21] h1 s12 Q7<|fR Q2<|pD () [22,1,2,3,4,5,6,7,8,10,11,0,14] hF Q)<|λhF=>sF Q<|lM aX 12 [15,16,17,18,19,20,21] h1 s12 Q7<|fR Q2<|pD () [22,1,2,3,4,5,6,7,8,10,11,0,14] hF Q) λx3 _=>bY [27] Q2 (fE 11 0 0 13 [1,2,3,4,5,6,7,8,0,9,10] Q5 (λ_=>XR) λx4 s14=>GY (t6U s14 (s11)) [11,13,14,15,16,17,18,19,20,21,22,23] Q Q)<|bY [41,43] Q2 (λhF=>ro aX 0 12 1 Q Q Q Q hF λx5 h3 hF s15=>wi hF<|fE 14 1 0 32 [16,17,18,19,20,21,22] Q5 (λ_=>aEZ) λx6 s16=>λhF=>sF Q<|nT aX 13 [23,24,25,26,27,28,29] [] x6 (s15.1,s15.2.1,s16.1,s16.2,s15.2.2.2.2.1,s15.2.2.2.2.2.1,s15.2.2.2.2.2.2) Q8<|fR Q2<|sL s9 cZ.symm [] [(11,9)] Q3<|fR Q2<|oY (s1,s2,s3,s4,s5,s6,s11) [11,1,2,3,4,5,6,7,8,30,9,10] hF Q2 Q4)<|c0 Q (λ_=>bI) λx7=>bY [46,48] Q2 (fE 11 0 0 13 [1,2,3,4,5,6,7,8,0,9,10] Q5 (λ_=>aCZ) λx8 _=>GY (s1,s2,s3,s4,s5,s6,s11) [11,13,14,15,16,17,18,19,20,21,22,23] Q Q)<|bY [52,54] Q2 (fE 11 0 0 13 [1,2,3,4,5,6,7,8,0,9,10] Q5 (λ_=>aA6) λx9 s17=>GY (t6U s17 (s11)) [11,13,14,15,16,17,18,19,20,21,22,23] Q Q)<|bY [58,60] Q2 (fE 11 0 0 13 [1,2,3,4,5,6,7,8,0,9,10] Q5 (λ_=>aC2) λx10 s18=>GY (s1,s2,s3,s4,s5,s6,s18) [11,13,14,15,16,17,18,19,20,21,22,23] Q Q)<|bY [64,66] Q2 (fE 11 0 0 13 [1,2,3,4,5,6,7,8,0,9,10] Q5 (λ_=>V1) λx11 _=>GY (s1,s2,s3,s4,s5,s6,s11) [11,13,14,15,16,17,18,19,20,21,22,23] Q Q)<|c0 Q (λ_=>bI) λx12=>bY [70,72] Q2 (fE 11 0 0 13 [1,2,3,4,5,6,7,8,0,9,10] Q5 (λ_=>aA7) λx13 s19=>GY (t4U s19 (s5,s6,s11)) [11,13,14,15,16,17,18,19,20,21,22,23] Q Q)<|gD 0 2 (lA t w_ x1) [0,1,4,5] 76 [1,2,3,4,5,6,7,8,0,9,10,11,12] Q (gN [78,79] Q2 (cD [1,2,3,4,5,6,7,8,0,9,10,11,12] Q2)<|cD [1,2,3,4,5,6,7,8,0,9,10,11,12] Q2) λx14=>bY [76] Q2 (fE 11 0 0 13 [0,1,2,3,4,5,6,7,8,9,10] Q5 (λ_=>ZG) λx15 _=>GY (s1,s2,s3,s4,s5,s6,s11) [11,13,14,15,16,17,18,19,20,21,22,23] Q Q)<|bY [86,88] Q2 (fE 11 0 0 13 [0,1,2,3,4,5,6,7,8,9,10] Q5 (λ_=>ZH) λx16 s20=>GY (t6U s20 (s11)) [11,13,14,15,16,17,18,19,20,21,22,23] Q Q)<|bY [92,94] Q2 (fE 11 0 0 13 [0,1,2,3,4,5,6,7,8,9,10] Q5 (λ_=>aC4) λx17 s21=>GY (t4U s21 (s5,s6,s11)) [11,13,14,15,16,17,18,19,20,21,22,23] Q Q)<|bY [98,100] Q2 (fE 11 0 0 8 [0,1,2,3,4,5,6] Q5 (λ_=>aC5) λx18 s22=>λhF=>ro aX 8 12 1 Q Q Q Q hF λx19 h5 hF s23=>sF Q<|nT aX 20 [23,24,25,26,27,28,29] [] ({x19 with Pc:=19}:aI) s23 Q8<|fR Q2<|sL s9 cZ.symm [] [(11,9)] Q3<|fR Q2<|oY (s1,s2,s3,s4,s22,s6,s11) [11,13,14,15,16,17,18,19,7,30,9,10] hF Q2 Q4)<|bY [109,111] Q2 (fE 11 0 0 13 [0,1,2,3,4,5,6,7,8,9,10] Q5 (λ_=>XW) λx20 s24=>GY (s1,s2,s3,s4,s5,s6,s24) [11,13,14,15,16,17,18,19,20,21,22,23] Q Q)<|λhF=>ro aX 8 12 1 Q Q Q Q hF λx21 h7 hF s25=>wi hF<|fE 14 1 0 32 [16,17,18,19,20,21,22] Q5 (λ_=>eD) λx22 _=>λhF=>sF Q<|nT aX 13 [23,24,25,26,27,28,29] [] x22 s25 Q8<|fR Q2<|sL s9 cZ.symm [] [(11,9)] Q3<|fR Q2<|oY (s1,s2,s3,s4,s5,s6,s11) [11,0,1,2,3,4,5,6,7,30,9,10] hF Q2 Q4
theorem aA8(h1:bH U s1 j.Batch.bK)(h2:bH U s2 j.Reads)(h3:bH U s3 j.aH)(h4:bH U s4 j.fY)(h5:bH U s5 j.gL)(h6:bH U s6 j.bD)(h7:bH U s7 j.cA):V0 prog U 143 (HR j) [.g (gTj j s1 s2 s3 s4 s5 s6 s7)] .b:=
 cR call143 func143 Q Q2<|dQ Q2
theorem aA9{q:aN}(h1:bH U s1 q.List):V0 prog U 144 (HT q) [.g [.h s1 q.List.length]] .b:=
 cR call144 func144 Q Q2<|dQ Q2
theorem aE1(h1:bH U s1 t.aA.Mem.Heap.Bytes)(h2:bH U s2 t.aA.Mem.Heap.Class)(h3:bH U s3 t.aA.Mem.aE.Global)(h4:bH U s4 t.aA.Mem.aE.Own)(h5:bH U s5 t.aA.aC.cE)(h6:bH U s6 t.aA.aQ)(h7:bH U s7 t.aA.qU)(h8:bH U s8 t.aR)(h9:bH U s9 t.aS)(h10:bH U s10 t.eE)(h11:bH U s11 t.Log):V0 prog U 64 (FW t) [.g (K5 t s1 s2 s3 s4 s5 s6 s7 s8 s9 s10 s11)] .b:=
 cR call64 func64 Q Q2<|gD 0 1 FV [] 2 [] Q (c0 Q (λh=>kG (h.a h9) (aAO call143 λhy=>aA8 hy.1 hy.2.1 hy.2.2.1 hy.2.2.2.1 hy.2.2.2.2.1 hy.2.2.2.2.2.1 hy.2.2.2.2.2.2)) λx2=>gN [6,7] Q2 (c0 Q (λh=>vB (h.a h10) (aAO call144 λhy=>aA9 hy)) λx3=>cD [] Q2)<|cD [] Q2) λx1=>dQ Q2
theorem JZ(h1:bH U s1 j.Batch.bK)(h2:bH U s2 j.Reads)(h3:bH U s3 j.aH)(h4:bH U s4 j.fY)(h5:bH U s5 j.gL)(h6:bH U s6 j.bD)(h7:bH U s7 j.cA):V0 prog U 65 (tU j) [.g (gTj j s1 s2 s3 s4 s5 s6 s7)] .b:=
 cR call65 func65 Q Q2<|c0 Q (λh=>Z6 (h.a h1) (h.a h2) (h.a h3) (h.a h4) (h.a h5) (h.a h6) (h.a h7)) λx1=>dQ Q2
theorem aBA{n:Int}{finish:Bool}{b0:Nat×Nat}:VS prog U 32 (HU t n finish) [.p 0 0,I n,.b finish] [b0] ([.box 0 (K5 t s1 s2 s3 s4 s5 s6 s7 s8 s9 s10 s11)]++(QO t s1 s2 s3 s4 s5 s6 s7 s8 s9 s10 s11 [])) (λr (y:A7C)=>.t []) (λr y=>([.box 0 (K5 r y.1 y.2.1 y.2.2.1 y.2.2.2.1 y.2.2.2.2.1 y.2.2.2.2.2.1 s7 s8 s9 s10 y.2.2.2.2.2.2)]++(QO r y.1 y.2.1 y.2.2.1 y.2.2.2.1 y.2.2.2.2.1 y.2.2.2.2.2.1 s7 s8 s9 s10 y.2.2.2.2.2.2 []))):=
 cR call32 func32 Q Q2<|N0 (s1,s2,s3,s4,s5,s6,s11) [0,2,7] (λ(p:Int×Table) (u:A7C)=>[(8,I p.1)]) [1,2,3,4,5,6,7,8,9,10,11,0] [] (λp u=>(QO p.2 u.1 u.2.1 u.2.2.1 u.2.2.2.1 u.2.2.2.2.1 u.2.2.2.2.2.1 s7 s8 s9 s10 u.2.2.2.2.2.2 [.box 0 (K5 p.2 u.1 u.2.1 u.2.2.1 u.2.2.2.1 u.2.2.2.2.1 u.2.2.2.2.2.1 s7 s8 s9 s10 u.2.2.2.2.2.2)])) Out.brk [0] (λ(x5:Table) (u:A7C)=>[]) [] (λx5 u=>(QO x5 u.1 u.2.1 u.2.2.1 u.2.2.2.1 u.2.2.2.2.1 u.2.2.2.2.2.1 s7 s8 s9 s10 u.2.2.2.2.2.2 [.box 0 (K5 x5 u.1 u.2.1 u.2.2.1 u.2.2.2.1 u.2.2.2.2.1 u.2.2.2.2.2.1 s7 s8 s9 s10 u.2.2.2.2.2.2)])) Q Q (λhF1 ⟨x3,x4⟩ ⟨s19,s20,s21,s22,s23,s24,s25⟩ hr1=>bY [9] Q2 (eF 0 1 (λ(p:Bool×Table)=>mM x3 p.1 p.2) [0,2,6,7,8] (λ(p:Bool×Table) (_:Unit)=>[(24,.b p.1)]) [] (λp _=>(QO p.2 s19 s20 s21 s22 s23 s24 s7 s8 s9 s10 s25 [.box 0 (K5 p.2 s19 s20 s21 s22 s23 s24 s7 s8 s9 s10 s25)])) Q (gN [11,12] Q2 (c0 Q (λh=>aE1 (h.o 0 Q) (h.o 1 Q) (h.o 2 Q) (h.o 3 Q) (h.o 4 Q) (h.o 5 Q) (h.o 6 Q) (h.o 7 Q) (h.o 8 Q) (h.o 9 Q) (h.o 10 Q)) λx9=>gN [16,17,18] Q2 (cD (p:=(true,x4)) [0,1,2,3,4,5,6,7,8,9,10,11] Q2)<|c0 Q (λh=>kG (h.o 8 Q) (aAO call65 λhy=>JZ hy.1 hy.2.1 hy.2.2.1 hy.2.2.2.1 hy.2.2.2.2.1 hy.2.2.2.2.2.1 hy.2.2.2.2.2.2)) λx10=>cD (p:=(x10,x4)) [0,1,2,3,4,5,6,7,8,9,10,11] Q2)<|c0 Q (λh=>kG (h.o 8 Q) (aAO call65 λhy=>JZ hy.1 hy.2.1 hy.2.2.1 hy.2.2.2.1 hy.2.2.2.2.1 hy.2.2.2.2.2.1 hy.2.2.2.2.2.2)) λx11=>cD (p:=(x11,x4)) [0,1,2,3,4,5,6,7,8,9,10,11] Q2) λ⟨x6,x7⟩ _=>bY [24] Q2 (RF hr1 hF1<|j4 (s19,s20,s21,s22,s23,s24,s25) [11,0,1,2,3,4,5,6,7,8,9,10] Q2)<|fE 11 0 0 13 [0,1,2,3,4,5,6,7,8,9,10] Q5 (λ_=>aC6) λx8 s33=>nxW s33 [12,13,14,15,16,17,18,19,20,21,22,11] Q)<|bkW (s19,s20,s21,s22,s23,s24,s25) [0,1,2,3,4,5,6,7,8,9,10,11] Q) λx5 ⟨s26,s27,s28,s29,s30,s31,s32⟩=>GY (s26,s27,s28,s29,s30,s31,s32) [11,0,1,2,3,4,5,6,7,8,9,10] Q Q
theorem aBB(h1:bH U s1 t.aA.Mem.Heap.Bytes)(h2:bH U s2 t.aA.Mem.Heap.Class)(h3:bH U s3 t.aA.Mem.aE.Global)(h4:bH U s4 t.aA.Mem.aE.Own)(h5:bH U s5 t.aA.aC.cE)(h6:bH U s6 t.aA.aQ)(h7:bH U s7 t.aA.qU)(h8:bH U s8 t.aR)(h9:bH U s9 t.aS)(h10:bH U s10 t.eE)(h11:bH U s11 t.Log):VS prog U 10 (nB t) [.g (K5 t s1 s2 s3 s4 s5 s6 s7 s8 s9 s10 s11)] [] [] (λr (y:bDD)=>.g (yTb r y)) (λr y=>(zTb r y [])):=
 cR call10 func10 Q Q2<|c1 Q (λh=>aEO (h.a h1) (h.a h2) (h.a h3) (h.a h4) (h.a h5) (h.a h6) (h.a h7) (h.a h8) (h.a h9) (h.a h10) (h.a h11)) λx1 s12=>eF 1 3 AP [2,3] (λ(x2:Table) (u:A7C)=>[]) [1] (λx2 u=>(QO x2 u.1 u.2.1 u.2.2.1 u.2.2.2.1 u.2.2.2.2.1 u.2.2.2.2.2.1 s12.2.2.2.2.2.2.1 s12.2.2.2.2.2.2.2.1 s12.2.2.2.2.2.2.2.2.1 s12.2.2.2.2.2.2.2.2.2.1 u.2.2.2.2.2.2 [.box 2 (K5 x2 u.1 u.2.1 u.2.2.1 u.2.2.2.1 u.2.2.2.2.1 u.2.2.2.2.2.1 s12.2.2.2.2.2.2.1 s12.2.2.2.2.2.2.2.1 s12.2.2.2.2.2.2.2.2.1 s12.2.2.2.2.2.2.2.2.2.1 u.2.2.2.2.2.2)])) Q (c0 Q (λh=>XN (h.a h1) (h.a h2) (h.a h3) (h.a h4) (h.a h5) (h.a h6) (h.a h7) (h.a h8) (h.a h9) (h.a h10) (h.a h11)) λx3=>bY [7] Q2 (fE 13 2 0 13 [2,3,4,5,6,7,8,9,10,11,12] Q5 (λ_=>aBA) λx4 s20=>oP s20 [14,15,16,17,18,19,20,21,22,23,24,13,1] Q Q)<|oP (s12.1,s12.2.1,s12.2.2.1,s12.2.2.2.1,s12.2.2.2.2.1,s12.2.2.2.2.2.1,s12.2.2.2.2.2.2.2.2.2.2) [2,3,4,5,6,7,8,9,10,11,12,13,1] Q Q) λx2 ⟨s13,s14,s15,s16,s17,s18,s19⟩=>j4 (s13,s14,s15,s16,s17,s18,s12.2.2.2.2.2.2.1,s12.2.2.2.2.2.2.2.1,s12.2.2.2.2.2.2.2.2.1,s12.2.2.2.2.2.2.2.2.2.1,s19) [0,1,2,3,4,5,6,7,8,9,10] Q2
theorem aC7(h1:bH U s1 t.aA.Mem.Heap.Bytes)(h2:bH U s2 t.aA.Mem.Heap.Class)(h3:bH U s3 t.aA.Mem.aE.Global)(h4:bH U s4 t.aA.Mem.aE.Own)(h5:bH U s5 t.aA.aC.cE)(h6:bH U s6 t.aA.aQ)(h7:bH U s7 t.aA.qU)(h8:bH U s8 t.aR)(h9:bH U s9 t.aS)(h10:bH U s10 t.eE)(h11:bH U s11 t.Log):VS prog U 13 (CI t) [.g (K5 t s1 s2 s3 s4 s5 s6 s7 s8 s9 s10 s11)] [] [] (λr (y:AC)=>.h y r.length) (λr y=>[ow y r]):=
 cR call13 func13 Q Q2<|λhF=>lt0 (O:=mT) lB Q4 λs12=>wi hF<|N0 s12 [8,9] (λ(p:(List mT)×Int) (s14:AC)=>[(3,.h s14 p.1.length),(10,I p.2)]) [1] [] (λp s14=>[ow s14 (p.1:List mT)]) id [] (λ(x5:(List mT)) (s15:AC)=>[(3,.h s15 x5.length)]) [] (λx5 s15=>[ow s15 (x5:List mT)]) Q Q (λhF1 ⟨x3,x4⟩ s14 hr1=>bY [11] Q2 (eF 2 1 (tV x4) [8,9,10] (λ(x6:(List mT)) (s16:AC)=>[(3,.h s16 x6.length)]) [] (λx6 s16=>[ow s16 (x6:List mT)]) Q (sO aW9 Q h11 Q λx7 s17 h12=>bY [16] Q2 (c1 Q (λh=>XI (h.a h12.1) (h.a h12.2)) λx8 s18=>λhG1=>S5 a2V [3,4] (x8) (s18.1,s18.2) lB S6 λs19=>apN 0 5 lB Q Q Q9 hG1 λhG1 s20=>wi hG1<|oP s20 [6] Q Q)<|oP s14 [0] Q Q) λx6 s16=>nxW s16 [0] Q)<|bkW s14 [0] Q) λx5 s15=>j4 s15 [0] Q2
theorem aK3{a_ b:List KV}(h1:bH U s1 a_)(h2:bH U s2 b):V0 prog U 16 (LZ a_ b) [.h s1 a_.length,.h s2 b.length] .b:=
 cR call16 func16 Q Q2<|bY [10] Q2 (dQ Q2)<|YT 5 [0,1] [] Out.brk [] [] Q Q (λhF1 x2 hr1=>bY [14] Q2 (j5 aJ [] Q<|sO cKV Q h1 Q λx3 _ _=>sO cKV Q h2 Q λx4 _ _=>λhG1=>neS eqGuardType90 stoodInHeld90 underlying90 (aW5 9997 x3 x4) Q Q Q Q Q Q<|wi hG1<|bY [25] Q2 (RF hr1 hF1<|dQ Q2)<|MQ [] Q)<|J6 [] Q)<|dQ Q2
theorem aK4{head:Int}(h1:bH U s1 m.Heap.Bytes)(h2:bH U s2 m.Heap.Class)(h3:bH U s3 m.aE.Global)(h4:bH U s4 m.aE.Own):VS prog U 87 (FX m head) [.g (gM m s1 s2 s3 s4),I head] [] [] (λr (y:AC)=>.t [.h y r.1.length,.b r.2]) (λr y=>[ow y r.1]):=
 cR call87 func87 Q Q2<|λhF=>lt0 (O:=Int) bV Q4 λs5=>wi hF<|c0 Q (λh=>GG (h.a h1) (h.a h2) (h.a h3) (h.a h4)) λx1=>bY [12] Q2 (j4 s5 [1] Q2)<|N0 s5 [2] (λ(p:(List Int)×Int) (s7:AC)=>[(6,.h s7 p.1.length),(7,I p.2)]) [1,0] [0] (λp s7=>[ow s7 (p.1:List Int)]) Out.brk [] (λ(x6:(List Int)) (s8:AC)=>[(6,.h s8 x6.length)]) [] (λx6 s8=>[ow s8 (x6:List Int)]) Q Q (λhF1 ⟨x4,x5⟩ s7 hr1=>bY [16] Q2 (gD 0 1 (CJ m x4 x5) [2,6,7] 25 [0,1] Q (c0 Q (λh=>KO (h.a h1) (h.a h2) (h.a h3) (h.a h4)) λx10=>gN [20,21] Q2 (cD [0,1] Q2)<|c0 Q (λh=>nX (h.o 0 Q)) λx11=>cD [0,1] Q2) λx7=>bY [25] Q2 (λhG1=>sR Q<|GX Int<|oY ⟨none,0⟩ [2] (re hG1 Q hr1 hF1) Q2 Q4)<|c0 Q (λh=>QE (h.a h1) (h.a h2)) λx8=>c0 Q (λ_=>Z9) λx9=>bY [33] Q2 (λhG1=>sR Q<|GX Int<|oY ⟨none,0⟩ [3] (re hG1 Q hr1 hF1) Q2 Q4)<|λhG1=>lt1 Q bV Q Q Q Q λs9=>ap 0 bV Q Q Q Q Q Q Q (λh=>(h.o 3 Q)) Q Q hG1 λhG1 s10=>wi hG1<|nxW s10 [0,1] Q)<|bkW s7 [0] Q) λx6 s8=>j4 s8 [0] Q2
theorem aNZ(h1:bH U s1 t.aA.Mem.Heap.Bytes)(h2:bH U s2 t.aA.Mem.Heap.Class)(h3:bH U s3 t.aA.Mem.aE.Global)(h4:bH U s4 t.aA.Mem.aE.Own)(h5:bH U s5 t.aA.aC.cE)(h6:bH U s6 t.aA.aQ)(h7:bH U s7 t.aA.qU)(h8:bH U s8 t.aR)(h9:bH U s9 t.aS)(h10:bH U s10 t.eE)(h11:bH U s11 t.Log):VS prog U 39 (JO t) [.g (K5 t s1 s2 s3 s4 s5 s6 s7 s8 s9 s10 s11)] [] [] (λr (y:AC)=>.t [.h y r.1.length,.b r.2]) (λr y=>[ow y r.1]):=
 cR call39 func39 Q Q2<|λhF=>lt0 (O:=List Int) aAW Q4 λs12=>wi hF<|c0 Q (λh=>XN (h.a h1) (h.a h2) (h.a h3) (h.a h4) (h.a h5) (h.a h6) (h.a h7) (h.a h8) (h.a h9) (h.a h10) (h.a h11)) λx1=>bY [12] Q2 (j4 s12 [1] Q2)<|N0 s12 [1,15,16] (λ(p:(List (List Int))×Int) (s14:AC)=>[(4,.h s14 p.1.length),(17,I p.2)]) [1,0] [0] (λp s14=>[ow s14 (p.1:List (List Int))]) Out.brk [] (λ(x6:(List (List Int))) (s15:AC)=>[(4,.h s15 x6.length)]) [] (λx6 s15=>[ow s15 (x6:List (List Int))]) Q Q (λhF1 ⟨x4,x5⟩ s14 hr1=>bY [18] Q2 (sO a74 Q h8 Q λx7 _ _=>c1 Q (λh=>aK4 (h.a h1) (h.a h2) (h.a h3) (h.a h4)) λx8 s16=>bY [31] Q2 (λhG1=>sR Q<|GX (List Int)<|oY ⟨none,0⟩ [5] (re hG1 Q hr1 hF1) Q2 Q4)<|λhG1=>S5 oL [4] (x8.1) s16 aAW S6 λs17=>apN 0 5 aAW Q Q Q9 hG1 λhG1 s18=>wi hG1<|nxW s18 [6,1] Q)<|bkW s14 [0] Q) λx6 s15=>j4 s15 [0] Q2
theorem aC8(h1:bH U s1 s):VS prog U 169 (KH s) [.h s1 s.length] [] [] (λr (y:AC)=>.h y r.length) (λr y=>[ow y r]):=
 cR call169 func169 Q Q2<|λhF=>eqn Q Q Q Q (λh2=>have hF:=cln h1 h2 hF;sR Q<|GX KV<|oY ⟨none,0⟩ [0] hF Q2 Q4)<|lt0 (O:=KV) fJ Q4 λs2=>ap 0 fJ Q Q Q Q Q Q Q (λh=>(h.a h1)) Q Q hF λhF s3=>wi hF<|j4 s3 [0] Q2
theorem HC{f:(KV->Option Bool)}{g_f:FuncId}{cap_f:List Value}(h1:bH U s1 s)(h_f:WD prog U (cKV:DL KV) .b g_f cap_f f):V0 prog U 92 (iZ s f) [.h s1 s.length,.k (.func (.func g_f) #[] cap_f.toArray)] I:=
 cR call92 func92 Q Q2<|YT 8 [0,1,7] [] Out.brk [] [] Q Q (λhF1 x2 hr1=>bY [9] Q2 (sO cKV Q h1 Q λx3 _ _=>λhG1=>fa1 h_f x3 () Q Q Q Q Q trivial hG1 λx4 _ hG1=>wi hG1<|bY [16] Q2 (RF hr1 hF1<|dQ Q2)<|MQ [] Q)<|J6 [] Q)<|dQ Q2
theorem T8{del:(KV->Option Bool)}{g_del:FuncId}{cap_del:List Value}(h_del:WD prog U (cKV:DL KV) .b g_del cap_del del):VS prog U 175 (pT s del) [.h s1 s.length,.k (.func (.func g_del) #[] cap_del.toArray)] [] [ow s1 (s:List KV)] (λr (y:AC)=>.h y r.length) (λr y=>[ow y r]):=
 cR call175 func175 Q Q2<|c0 Q (λh=>HC (h.o 0 Q) (h.u1 h_del)) λx1=>bY [12] Q2 (j4 s1 [0] Q2)<|N0 () [1] (λ(p:(List KV)×Int×Int) (_:Unit)=>[(0,.h s1 p.1.length),(5,I p.2.1),(6,I p.2.2)]) [0] [] (λp _=>[ow s1 (p.1:List KV)]) id [] (λ(p:(List KV)×Int) (_:Unit)=>[(0,.h s1 p.1.length),(5,I p.2)]) [] (λp _=>[ow s1 (p.1:List KV)]) Q Q (λhF1 ⟨x5,x6,x7⟩ _ hr1=>bY [19] Q2 (eF 2 0 (λ(p:(List KV)×Int)=>jW x7 p.1 p.2) [1,6] (λ(p:(List KV)×Int) (_:Unit)=>[(0,.h s1 p.1.length),(5,I p.2)]) [] (λp _=>[ow s1 (p.1:List KV)]) Q (tD oKV 0 Q3 λx12 h3 _ h4=>λhG1=>oC 0 h4 h3 Q5<|fa1 h_del x12 () Q Q Q Q Q trivial hG1 λx13 _ hG1=>wi hG1<|bY [29] Q2 (λhG1=>cqS oKV 1 [] h3 () Q9<|wi hG1<|tD oKV 5 Q3 λx14 h5 _ h6=>λhG1=>oC 2 h6 h5 Q5<|sF Q<|nT oKV 6 [] [0,17,22,30] x12 () Q8<|pD (p:=(x5.set x6.toNat x12,bB (x6+1))) () [9] hG1 Q)<|λhG1=>sF Q<|lM oKV 1 [] h3 () Q7<|pD (p:=(x5,x6)) () [5] hG1 Q) λ⟨x10,x11⟩ _=>MQ [0] Q)<|J6 [0] Q) λ⟨x8,x9⟩ _=>λhF=>cpc 0 Q Q λhc1=>aM7 hc1 Q Q Q Q Q Q hF λhF h1=>clr 0 x9.toNat x8.length ((⟨0,0⟩:KV):KV) h1 fJ Q (λ_=>(bLB (⟨0,0⟩:KV))) Q Q Q Q Q Q Q Q<|rr s1 (eX (xs:=List.replicate (x8.length-x9.toNat) (⟨0,0⟩:KV)) (lX h1.1 h1.2)).symm [0,36] [] [] Q Q Q Q<|cpc 0 Q Q λhc2=>aWR hc2 Q Q Q Q Q Q hF λhF h2=>sR Q<|poR 0 0 x9.toNat Q Q h2 Q<|oY (AC.sub s1 2 0) [0] hF Q2 Q4
theorem aHJ{x:KV}{b0:Nat×Nat}:VS prog U 176 (PY x k0) [.g [I x.Key,I x.dI],.p 0 0] [b0] [.ro 0 [I k0]] (λr (_:Unit)=>.b r) (λ_ _=>[]):=
 cR call176 func176 Q Q2<|dQ Q2
theorem aN0{key:Int}(h1:bH U s1 l):VS prog U 91 (WU l key) [.h s1 l.length,I key] [] [] (λr (y:AC)=>.h y r.length) (λr y=>[ow y r]):=
 cR call91 func91 Q Q2<|c1 Q (λh=>aC8 (h.a h1)) λx1 s2=>λhF=>mf [0] Q Q Q<|wi hF<|bKZ 0 [1] Q Q Q Q Q Q (λ_=>λhB=>T8 (bKY call176 hB λ_=>aHJ)) λx2 s3=>j4 s3 [2] Q2
theorem aHK{x:KV}{b0:Nat×Nat}:VS prog U 93 (PZ x k0) [.g [I x.Key,I x.dI],.p 0 0] [b0] [.ro 0 [I k0]] (λr (_:Unit)=>.b r) (λ_ _=>[]):=
 cR call93 func93 Q Q2<|dQ Q2
theorem aBC{v:List KV}:VS prog U 94 (HV s i v) [.h s1 s.length,I i,.h s2 v.length] [] [ow s1 s,.o (cLs s2 v)] (λr (y:AC)=>.h y r.length) (λr y=>[ow y r]):=
 bK3 Q ai (aZ7 (k:=2) (el:=90) (z:=.agg #[.int .i64 0,.int .i64 0]) ai Q aW8 a2S a72 a2T) call94
theorem aN1{key val:Int}(h1:bH U s1 l):VS prog U 42 (DU l key val) [.h s1 l.length,I key,I val] [] [] (λr (y:AC)=>.h y r.length) (λr y=>[ow y r]):=
 cR call42 func42 Q Q2<|c1 Q (λh=>aN0 (h.a h1)) λx1 s2=>λhF=>mf [0] Q Q Q<|wi hF<|aJX [0] Q Q Q Q (λh=>λhB=>HC (h.o 1 Q) (aJW (cs:=[(0,[I key])]) call93 hB Q λ_ _=>aHK)) λx2=>eF 0 1 (xT key val x1) [2,4,7] (λ(x3:Int) (_:Unit)=>[(8,I x3)]) [1,0] (λx3 _=>[]) Q (bY [16] Q2 (cD [1,0] Q2)<|cD [1,0] Q2) λx3 _=>λhF=>ltL oKV () (⟨key,val⟩:KV) fJ Q Q Q Q Q Q Q Q (λ_=>Q) λs3=>wi hF<|LB [0,2] Q4 (λ_=>aBC) λx4 s4=>j4 s4 [3] Q2
theorem aHL{U:Ctx}(h1:bH U s1 t.aA.Mem.Heap.Bytes)(h2:bH U s2 t.aA.Mem.Heap.Class)(h3:bH U s3 t.aA.Mem.aE.Global)(h4:bH U s4 t.aA.Mem.aE.Own)(h5:bH U s5 t.aA.aC.cE)(h6:bH U s6 t.aA.aQ)(h7:bH U s7 t.aA.qU)(h8:bH U s8 t.aR)(h9:bH U s9 t.aS)(h10:bH U s10 t.eE)(h11:bH U s11 t.Log):VS prog U 18 (A8 t) [.g (K5 t s1 s2 s3 s4 s5 s6 s7 s8 s9 s10 s11)] [] [] (λr (y:AC)=>.h y r.length) (λr y=>[ow y r]):=λr hF=>by
 unfold A8 at hF;cases hc:JO t with
 |none=>rw[hc] at hF;cases hF
 |some x=>
  rw[hc] at hF;refine⟨call18,λvs hv hS=>?_⟩;cases hv;refine Calls.mono ((callsIn_wide (n:=8)).1 (bDC (ok:=x.2) hF (λW hb=>?_) (λn W h nd hb hn=>?_) (λn W z v m k y q h1' hz ⟨yv,e⟩ hm hp=>?_))) ?_
  ·refine(callsIn_wide (n:=7)).2 (Calls.mono ((aNZ (yT hS hb h1) (yT hS hb h2) (yT hS hb h3) (yT hS hb h4) (yT hS hb h5) (yT hS hb h6) (yT hS hb h7) (yT hS hb h8) (yT hS hb h9) (yT hS hb h10) (yT hS hb h11) x hc).run _ rfl (aQK W)) ?_);rintro e W' ⟨v,rfl,y,h1,h2⟩;cases h1;exact⟨y,rfl,aJY h2,λz hz=>bC1 (a0B bCZ) h2 hz⟩
  ·refine(callsIn_wide (n:=n)).2 (Calls.mono ((QE (yT hS hb h1) (yT hS hb h2) nd hn).run _ rfl (aQK W)) ?_);rintro e W' ⟨v,rfl,y,h1,h2⟩;cases h1;exact⟨rfl,aJY h2⟩
  ·subst e;refine(callsIn_wide (n:=n)).2 (Calls.mono ((aN1 (bK8 hm) q hp).run _ rfl (aQK W)) ?_);rintro e W' ⟨v,rfl,y,h1,h2⟩;cases h1;exact⟨y,rfl,aJY h2,(bH4 h2 hz).mono h1'⟩
  ·rintro e W' ⟨y,rfl,h1,h2⟩;exact⟨_,rfl,y,rfl,bC3 hS h1 h2⟩
theorem a2W{code:List UInt8}(h1:bH U s1 code):V0 prog U 19 (aIK code i) [.h s1 code.length,I i] I:=
 cR call19 func19 Q Q2<|bY [8] Q2 (sO cU Q h1 Q λx1 _ _=>dQ Q2)<|dQ Q2
theorem aC9:V0 prog U 300 (U9 x y) [.i .u64 x,.i .u64 y] (λr=>.t [.i .u64 r.1,.i .u64 r.2]):=
 cR call300 func300 Q Q2<|dQ Q2
theorem aHM:V0 prog U 274 (P0 x y) [.i .u64 x,.i .u64 y] (λr=>.t [.i .u64 r.1,.i .u64 r.2]):=
 cR call274 func274 Q Q2<|c0 Q (λ_=>aC9) λx1=>dQ Q2
theorem AR{x:List Int}{count:Int}(h1:bH U s1 x):VS prog U 238 (wJ x count) [.h s1 x.length,I count] [] [] (λr (y:AC)=>.h y r.length) (λr y=>[ow y r]):=
 cR call238 func238 Q Q2<|bY [10] Q2 (λhF=>nomatch hF)<|c0 Q (λ_=>aHM) λx1=>gD 0 0 (pU x x1) [0,6] 26 [] Q (gN [22,23] Q2 (cD [] Q2)<|cD [] Q2) λx2=>bY [26] Q2 (λhF=>nomatch hF)<|λhF=>mks (0:Int) bV (λw=>RE Q w) Q7 hF λhF s2=>cp0 (xs:=x) 0 (λh=>(h.a h1)) Q Q Q Q Q Q Q Q<|rr s2 (eX (xs:=x) (jK _)).symm [7,30,31] [] [] Q Q Q Q<|wi hF<|N0 () [] (λ(p:(List Int)×Int) (_:Unit)=>[(7,.h s2 p.1.length),(8,I p.2)]) [0] [] (λp _=>[ow s2 (p.1:List Int)]) id [] (λ(x7:(List Int)) (_:Unit)=>[(7,.h s2 x7.length)]) [] (λx7 _=>[ow s2 (x7:List Int)]) Q Q (λhF2 ⟨x5,x6⟩ _ hr2=>bY [37] Q2 (j5 aJ [] Q<|λhG2=>cpc 0 Q Q λhc1=>aM7 hc1 Q Q Q Q Q Q hG2 λhG2 h2=>aWR hc1 Q Q Q Q Q Q hG2 λhG2 h3=>cpy (xs:=(x5.take x6.toNat).drop 0) 0 x6.toNat h2 (λh=>((h.o 0 Q).sub (WH h3.1 h3.2) h3)) Q Q Q Q Q Q Q Q<|rr s2 (eX (xs:=(x5.take x6.toNat).drop 0) h2.1).symm [7,35,39,42] [] [] Q Q Q Q<|wi hG2<|MQ [0] Q)<|J6 [0] Q) λx7 _=>j4 s2 [0] Q2
theorem aK5:VS prog U 184 L4 [] [] [] (λr (y:AC×AC)=>.g [.h y.1 r.Bytes.length,.h y.2 r.Class.length]) (λr y=>[ow y.1 r.Bytes,ow y.2 r.Class]):=
 cR call184 func184 Q Q2<|eF 0 1 VA [0] (λ(x1:(List Int)) (u:AC×AC)=>[]) [] (λx1 u=>[ow u.1 (List.replicate ((384:Int).toNat) 0:List Int),ow u.2 (x1:List Int),.box 0 [.h u.1 (List.replicate ((384:Int).toNat) 0).length,.h u.2 x1.length]]) Q (j5 aJ [] Q<|λhF=>nd hF λhA1 hF=>bd hF λx2 hA2 hF=>eT Q2 (have hq1:=rn hA1;mks (0:Int) bV (λw=>RE Q w) Q7 hq1 λhq1 s6=>lt1 Q bV Q Q Q Q λs7=>MR hA2 Q (λh=>AR (h.o 2 Q)) λs8=>wi hF<|oP (p:=(x2)) (s6,s8) [1,3,0] Q Q) (lt1 Q bV Q Q Q Q λs9=>eT Q2 (have hq3:=rn hA1;mks (0:Int) bV (λw=>RE Q w) Q7 hq3 λhq3 s10=>MR hA2 Q (λh=>AR (h.o 1 Q)) λs11=>wi hF<|oP (p:=(x2)) (s10,s11) [2,3,0] Q Q) (MR hA2 Q (λh=>AR (h.o 1 Q)) λs12=>have hq6:=rn hA1;mks (0:Int) bV (λw=>RE Q w) Q7 hq6 λhq6 s13=>wi hF<|oP (p:=(x2)) (s13,s12) [3,2,0] Q Q))) λx1 ⟨s1,s2⟩=>j4 (s1,s2) [0,1] Q2
theorem aHN:VS prog U 185 P1 [] [] [] (λr (y:AC×AC)=>.g [.h y.1 r.Global.length,.h y.2 r.Own.length]) (λr y=>[ow y.1 r.Global,ow y.2 r.Own]):=
 cR call185 func185 Q Q2<|eF 0 1 (λ(_:Unit)=>RV) [0] (λ(_:Unit) (u:AC×AC)=>[]) [] (λ_ u=>[ow u.1 (List.replicate ((3:Int).toNat) zL2:List bG),ow u.2 (List.replicate ((9:Int).toNat) zL2:List bG),.box 0 [.h u.1 zR4.length,.h u.2 zR5.length]]) Q (j5 aJ [] Q<|λhF=>nd hF λhA1 hF=>nd hF λhA2 hF=>eT Q2 (have hq1:=rn hA1;mks zL2 i5 (λ_=>(BS (EC zL2) (wA aF7))) Q7 hq1 λhq1 s5=>have hq2:=rn hA2;mks zL2 i5 (λ_=>(BS (EC zL2) (wA aF7))) Q7 hq2 λhq2 s6=>wi hF<|oP (p:=()) (s5,s6) [1,2,0] Q Q) (have hq3:=rn hA2;mks zL2 i5 (λ_=>(BS (EC zL2) (wA aF7))) Q7 hq3 λhq3 s7=>have hq4:=rn hA1;mks zL2 i5 (λ_=>(BS (EC zL2) (wA aF7))) Q7 hq4 λhq4 s8=>wi hF<|oP (p:=()) (s8,s7) [2,1,0] Q Q)) λ_ ⟨s1,s2⟩=>j4 (s1,s2) [0,1] Q2
theorem aN2:VS prog U 100 WX [] [] [] (λr (y:A4C)=>.g (yM r y)) (λr y=>(zM r y [])):=
 cR call100 func100 Q Q2<|c1 Q (λ_=>aK5) λx1 s1=>c1 Q (λ_=>aHN) λx2 s2=>j4 (s1.1,s1.2,s2.1,s2.2) [1,2,3,4] Q2
theorem aHO:VS prog U 101 P2 [] [] [] (λr (y:AC)=>.g [I r.aK,.h y r.cE.length]) (λr y=>[ow y r.cE]):=
 cR call101 func101 Q Q2<|λhF=>mks zL3 O5 (λw=>RE (a7Q zL3) w) Q7 hF λhF s1=>wi hF<|j4 s1 [1] Q2
theorem aHP:VS prog U 102 P3 [] [] [] (λr (y:AC)=>.h y r.length) (λr y=>[ow y r]):=
 cR call102 func102 Q Q2<|λhF=>mks ((⟨[]⟩:bW):bW) JW (λ_=>(BS (aJ0 (⟨[]⟩:bW)) (wA aF7))) Q7 hF λhF s1=>wi hF<|j4 s1 [0] Q2
theorem aN3:VS prog U 103 WY [] [] [] (λr (y:AC)=>.h y r.length) (λr y=>[ow y r]):=
 cR call103 func103 Q Q2<|λhF=>mks (0:Int) bV (λw=>RE Q w) Q7 hF λhF s1=>wi hF<|j4 s1 [0] Q2
theorem aK6:VS prog U 44 L5 [] [] [] (λr (y:A7C)=>.g (yB r y)) (λr y=>(zB r y [])):=
 cR call44 func44 Q Q2<|c1 Q (λ_=>aN2) λx1 s1=>c1 Q (λ_=>aHO) λx2 s2=>c1 Q (λ_=>aHP) λx3 s3=>c1 Q (λ_=>aN3) λx4 s4=>j4 (t4U s1 (s2,s3,s4)) [1,2,3,4,5,6,7] Q2
theorem aHQ{todo:List aN}(h1:bH U s1 todo):VS prog U 22 (IV todo) [.h s1 todo.length] [] [] (λr (y:bDD)=>.g (yTb r y)) (λr y=>(zTb r y [])):=
 cR call22 func22 Q Q2<|c0 Q (λh=>XL (h.a h1)) λx1=>bY [5] Q2 (λhF=>sR Q<|GX Int<|GX Int<|GX bG<|GX bG<|GX wQ<|GX bW<|GX Int<|GX bR<|GX aI<|GX aN<|GX mT<|oY (⟨none,0⟩,⟨none,0⟩,⟨none,0⟩,⟨none,0⟩,⟨none,0⟩,⟨none,0⟩,⟨none,0⟩,⟨none,0⟩,⟨none,0⟩,⟨none,0⟩,⟨none,0⟩) [1,2,3,4,5,6,7,8,9,10,11] hF Q2 Q4)<|eF 0 1 RW [2] (λ(x2:Table) (u:bLG)=>[]) [] (λx2 u=>(oBs x2.aA u.1 u.2.1 u.2.2.1 u.2.2.2.1 u.2.2.2.2.1 u.2.2.2.2.2.1 u.2.2.2.2.2.2.1 [ow u.2.2.2.2.2.2.2.1 (x2.aR:List bR),ow u.2.2.2.2.2.2.2.2.1 (x2.aS:List aI),ow u.2.2.2.2.2.2.2.2.2 (x2.eE:List aN),.box 0 [.h u.1 x2.aA.Mem.Heap.Bytes.length,.h u.2.1 x2.aA.Mem.Heap.Class.length,.h u.2.2.1 x2.aA.Mem.aE.Global.length,.h u.2.2.2.1 x2.aA.Mem.aE.Own.length,I x2.aA.aC.aK,.h u.2.2.2.2.1 x2.aA.aC.cE.length,.h u.2.2.2.2.2.1 x2.aA.aQ.length,.h u.2.2.2.2.2.2.1 x2.aA.qU.length,.h u.2.2.2.2.2.2.2.1 x2.aR.length,.h u.2.2.2.2.2.2.2.2.1 x2.aS.length,.h u.2.2.2.2.2.2.2.2.2 x2.eE.length,.h ⟨none,0⟩ 0,I x2.aG]])) Q (j5 aJ [] Q<|λhF=>bd hF λx3 hA1 hF=>nd hF λhA2 hF=>nd hF λhA3 hF=>bd hF λx4 hA4 hF=>(by repeat' first|refine eT Q2 ?_ ?_|refine aM6 Q Q ?_ ?_ ?_|refine MR hA1 Q (λ_=>aK6) λs16=>?_|refine have hq2:=rn hA2;mks zL1 O6 (λw=>RE (a7U zL1) w) Q7 hq2 λhq2 s17=>?_|refine have hq3:=rn hA3;mks zL0 O7 (λ_=>(BS (aQ1 zL0) (wA (wA (wA (wA (wA (wA (wA aF7))))))))) Q7 hq3 λhq3 s18=>?_|refine MR hA4 Q (λh=>R5 (h.a h1)) λs19=>?_|exact wi hF<|oP (p:=((⟨x3,zR6,zR7,x4,[],0⟩:Table))) (t7U s16 (s17,s18,s19)) [1,2,3,4,5,6,7,8,9,10,0] Q Q|exact wi hF<|oP (p:=((⟨x3,zR6,zR7,x4,[],0⟩:Table))) (t7U s16 (s17,s18,s19)) [1,2,3,4,5,6,7,8,10,9,0] Q Q|exact wi hF<|oP (p:=((⟨x3,zR6,zR7,x4,[],0⟩:Table))) (t7U s16 (s17,s18,s19)) [1,2,3,4,5,6,7,9,8,10,0] Q Q|exact wi hF<|oP (p:=((⟨x3,zR6,zR7,x4,[],0⟩:Table))) (t7U s16 (s17,s18,s19)) [1,2,3,4,5,6,7,10,8,9,0] Q Q|exact wi hF<|oP (p:=((⟨x3,zR6,zR7,x4,[],0⟩:Table))) (t7U s16 (s17,s18,s19)) [1,2,3,4,5,6,7,9,10,8,0] Q Q|exact wi hF<|oP (p:=((⟨x3,zR6,zR7,x4,[],0⟩:Table))) (t7U s16 (s17,s18,s19)) [1,2,3,4,5,6,7,10,9,8,0] Q Q|exact wi hF<|oP (p:=((⟨x3,zR6,zR7,x4,[],0⟩:Table))) (t7U s16 (s17,s18,s19)) [2,3,4,5,6,7,8,1,9,10,0] Q Q|exact wi hF<|oP (p:=((⟨x3,zR6,zR7,x4,[],0⟩:Table))) (t7U s16 (s17,s18,s19)) [2,3,4,5,6,7,8,1,10,9,0] Q Q|exact wi hF<|oP (p:=((⟨x3,zR6,zR7,x4,[],0⟩:Table))) (t7U s16 (s17,s18,s19)) [3,4,5,6,7,8,9,1,2,10,0] Q Q|exact wi hF<|oP (p:=((⟨x3,zR6,zR7,x4,[],0⟩:Table))) (t7U s16 (s17,s18,s19)) [2,3,4,5,6,7,8,9,1,10,0] Q Q|exact wi hF<|oP (p:=((⟨x3,zR6,zR7,x4,[],0⟩:Table))) (t7U s16 (s17,s18,s19)) [2,3,4,5,6,7,8,10,1,9,0] Q Q|exact wi hF<|oP (p:=((⟨x3,zR6,zR7,x4,[],0⟩:Table))) (t7U s16 (s17,s18,s19)) [3,4,5,6,7,8,9,2,1,10,0] Q Q)) λx2 ⟨s2,s3,s4,s5,s6,s7,s8,s9,s10,s11⟩=>λhF=>sR Q<|GX mT<|oY (s2,s3,s4,s5,s6,s7,s8,s9,s10,s11,⟨none,0⟩) [0,1,2,3,4,5,6,7,8,9,11] hF Q2 Q4
theorem aN4{key:Int}(h1:bH U s1 l):V0 prog U 20 (O0 l key) [.h s1 l.length,I key] (λr=>.t [I r.1,.b r.2]):=
 cR call20 func20 Q Q2<|YT 6 [0,1] [] Out.brk [] [] Q Q (λhF1 x2 hr1=>bY [10] Q2 (sO cKV Q h1 Q λx3 _ _=>bY [19] Q2 (sO cKV Q h1 Q λx4 _ _=>RF hr1 hF1<|dQ Q2)<|MQ [] Q)<|J6 [] Q)<|dQ Q2
theorem aRB(h1:bH U s1 l):V0 prog U 106 (TL l) [.h s1 l.length] .b:=
 cR call106 func106 Q Q2<|YT 3 [0] [] Out.brk [] [] Q Q (λhF1 x2 hr1=>bY [7] Q2 (gD 0 0 (vR x2) [0,3] 43 [] Q (j5 aJ [] Q<|sO cKV Q h1 Q λx4 _ _=>c0 Q (λ_=>DV) λx5=>gN [16,17] Q2 (cD [] Q2)<|sO cKV Q h1 Q λx6 _ _=>c0 Q (λ_=>DV) λx7=>gN [24,25,26] Q2 (cD [] Q2)<|gN [28,29] Q2 (sO cKV Q h1 Q λx8 _ _=>sO cKV Q h1 Q λx9 _ _=>cD [] Q2)<|cD [] Q2) λx3=>bY [43] Q2 (RF hr1 hF1<|dQ Q2)<|MQ [] Q)<|J6 [] Q)<|dQ Q2
theorem aAA{key val:Int}(h1:bH U s1 l):VS prog U 107 (JQ l key val) [.h s1 l.length,I key,I val] [] [] (λr (y:AC)=>.h y r.length) (λr y=>[ow y r]):=
 cR call107 func107 Q Q2<|λhF=>lt0 (O:=KV) fJ Q4 λs2=>wi hF<|N0 s2 [0,1,2] (λ(p:(List KV)×Bool×Int) (s4:AC)=>[(7,.h s4 p.1.length),(8,.b p.2.1),(9,I p.2.2)]) [0] [] (λp s4=>[ow s4 (p.1:List KV)]) id [1,2] (λ(p:(List KV)×Bool) (s5:AC)=>[(7,.h s5 p.1.length),(8,.b p.2)]) [] (λp s5=>[ow s5 (p.1:List KV)]) Q Q (λhF1 ⟨x4,x5,x6⟩ s4 hr1=>bY [14] Q2 (eF 3 0 (λ(p:(List KV)×Bool)=>nN x6 p.1 p.2) [0,1,2,9] (λ(p:(List KV)×Bool) (s9:AC)=>[(7,.h s9 p.1.length),(8,.b p.2)]) [] (λp s9=>[ow s9 (p.1:List KV)]) Q (sO cKV Q h1 Q λx12 _ _=>bY [23] Q2 (oP (p:=(x4,x5)) s4 [0] Q Q)<|eF 1 1 (λ(p:(List KV)×Bool)=>rX l x6 p.1 p.2) [0,1,2,9] (λ(p:(List KV)×Bool) (s10:AC)=>[(7,.h s10 p.1.length),(8,.b p.2)]) [] (λp s10=>[ow s10 (p.1:List KV)]) Q (gD 0 1 (rY l key val x4 x5 x6) [0,1,2,7,8,9] 34 [0] Q (gN [25,26] Q2 (sO cKV Q h1 Q λx17 _ _=>cD [0] Q2)<|cD [0] Q2) λx16=>bY [34] Q2 (λhG1=>S5 oKV [] ((⟨key,val⟩:KV)) () fJ S6 λs13=>ap 0 fJ Q Q Q Q Q Q Q (λh=>(h.o 1 Q)) Q Q hG1 λhG1 s14=>wi hG1<|oP (p:=(x4++([(⟨key,val⟩:KV)]),true)) s14 [0] Q Q)<|oP (p:=(x4,x5)) s4 [0] Q Q) λ⟨x13,x14⟩ s10=>sO cKV Q h1 Q λx15 _ _=>λhG1=>S5 oKV [] (x15) () fJ S6 λs11=>ap 0 fJ Q Q Q Q Q Q Q (λh=>(h.o 2 Q)) Q Q hG1 λhG1 s12=>wi hG1<|oP (p:=(x13++([x15]),x14)) s12 [0] Q Q) λ⟨x10,x11⟩ s9=>nxW s9 [0] Q)<|bkW s4 [0] Q) λ⟨x7,x8⟩ s5=>eF 0 0 FY [] (λ(x9:(List KV)) (s6:AC)=>[(7,.h s6 x9.length)]) [] (λx9 s6=>[ow s6 (x9:List KV)]) Q (bY [49] Q2 (λhF=>S5 oKV [] ((⟨key,val⟩:KV)) () fJ S6 λs7=>ap 0 fJ Q Q Q Q Q Q Q (λh=>(h.o 1 Q)) Q Q hF λhF s8=>wi hF<|oP s8 [0] Q Q)<|oP s5 [0] Q Q) λx9 s6=>j4 s6 [0] Q2
theorem aN5{key:Int}(h1:bH U s1 l):VS prog U 108 (O1 l key) [.h s1 l.length,I key] [] [] (λr (y:AC)=>.h y r.length) (λr y=>[ow y r]):=
 cR call108 func108 Q Q2<|λhF=>lt0 (O:=KV) fJ Q4 λs2=>wi hF<|N0 s2 [0,1] (λ(p:(List KV)×Int) (s4:AC)=>[(5,.h s4 p.1.length),(6,I p.2)]) [0] [] (λp s4=>[ow s4 (p.1:List KV)]) id [] (λ(x5:(List KV)) (s5:AC)=>[(5,.h s5 x5.length)]) [] (λx5 s5=>[ow s5 (x5:List KV)]) Q Q (λhF1 ⟨x3,x4⟩ s4 hr1=>bY [11] Q2 (eF 2 0 (xV x4) [0,1,6] (λ(x6:(List KV)) (s6:AC)=>[(5,.h s6 x6.length)]) [] (λx6 s6=>[ow s6 (x6:List KV)]) Q (sO cKV Q h1 Q λx7 _ _=>bY [20] Q2 (sO cKV Q h1 Q λx8 _ _=>λhG1=>S5 oKV [] (x8) () fJ S6 λs7=>ap 0 fJ Q Q Q Q Q Q Q (λh=>(h.o 3 Q)) Q Q hG1 λhG1 s8=>wi hG1<|oP s8 [0] Q Q)<|oP s4 [0] Q Q) λx6 s6=>nxW s6 [0] Q)<|bkW s4 [0] Q) λx5 s5=>j4 s5 [0] Q2
theorem aAB{b:Int}:V0 prog U 109 (JR a_ b) [I a_,I b] I:=
 cR call109 func109 Q Q2<|dQ Q2
theorem aRC{c:iP}(h1:bH U s1 l):VS prog U 46 (TM l c) [.h s1 l.length,.g [I c.Kind,I c.Key,I c.dI]] [] [] (λr (y:AC)=>.t [.h y r.1.length,.g [.b r.2.Is,I r.2.dI]]) (λr y=>[ow y r.1]):=
 cR call46 func46 Q Q2<|λhF=>lt0 (O:=KV) fJ Q4 λs2=>ap 2 fJ Q Q Q Q Q Q Q (λh=>(h.a h1)) Q Q hF λhF s3=>wi hF<|gD 0 2 (IW l c) [0,3,5,6] 19 [2,0,1] Q (c0 Q (λ_=>aCR) λx8=>gN [14,15] Q2 (cD [2,0,1] Q2)<|c0 Q (λh=>aRB (h.a h1)) λx9=>cD [2,0,1] Q2) λx1=>bY [19] Q2 (j4 s3 [0] Q2)<|c0 Q (λh=>aN4 (h.a h1)) λx2=>bY [31,32] Q2 (c1 Q (λh=>aAA (h.a h1)) λx3 s4=>j4 s4 [3] Q2)<|bY [40,41] Q2 (c1 Q (λh=>aN5 (h.a h1)) λx4 s5=>j4 s5 [3] Q2)<|bY [47,48] Q2 (j5 aJ [1] Q<|c0 Q (λ_=>aAB) λx5=>c1 Q (λh=>aAA (h.a h1)) λx6 s6=>c0 Q (λ_=>aAB) λx7=>j4 s6 [3] Q2)<|j4 s3 [0] Q2
theorem aN6{cmds:List iP}(h1:bH U s1 l)(h2:bH U s2 cmds):VS prog U 23 (O2 l cmds) [.h s1 l.length,.h s2 cmds.length] [] [] (λr (y:AC×AC)=>.t [.h y.1 r.1.length,.h y.2 r.2.length]) (λr y=>[ow y.1 r.1,ow y.2 r.2]):=
 cR call23 func23 Q Q2<|λhF=>lt0 (O:=KV) fJ Q4 λs3=>ap 0 fJ Q Q Q Q Q Q Q (λh=>(h.a h1)) Q Q hF λhF s4=>lt0 (O:=fY) uC Q4 λs5=>wi hF<|N0 (s4,s5) [1] (λ(p:(List KV)×(List fY)×Int) (u:AC×AC)=>[(6,.h u.1 p.1.length),(7,.h u.2 p.2.1.length),(8,I p.2.2)]) [0,1] [] (λp u=>[ow u.1 (p.1:List KV),ow u.2 (p.2.1:List fY)]) id [] (λ(p:(List KV)×(List fY)) (u:AC×AC)=>[(6,.h u.1 p.1.length),(7,.h u.2 p.2.length)]) [] (λp u=>[ow u.1 (p.1:List KV),ow u.2 (p.2:List fY)]) Q Q (λhF1 ⟨x4,x5,x6⟩ ⟨s8,s9⟩ hr1=>bY [18] Q2 (sO aT6 Q h2 Q λx9 _ _=>c1 Q (λh=>aRC (h.o 0 Q)) λx10 s12=>λhG1=>S5 a2U [] (x10.2) () uC S6 λs13=>ap 1 uC Q Q Q Q Q Q Q (λh=>(h.o 5 Q)) Q Q hG1 λhG1 s14=>wi hG1<|nxW (s12,s14) [3,1] Q)<|bkW (s8,s9) [0,1] Q) λ⟨x7,x8⟩ ⟨s10,s11⟩=>j4 (s10,s11) [0,1] Q2
theorem aHR{code:List UInt8}(h1:bH U s1 code):V0 prog U 6 (P4 code) [.h s1 code.length] .b:=
 cR call6 func6 Q Q2<|c0 Q (λh=>aXB (h.a h1)) λx1=>bY [14] Q2 (dQ Q2)<|c1 Q (λh=>XH (h.a h1)) λx2 s2=>c0 Q (λh=>aNS (h.o 0 Q) (h.o 1 Q)) λx3=>bY [19] Q2 (dQ Q2)<|c0 Q (λh=>a2W (h.a h1)) λx4=>lkR (d:=x2.eE) 0 (λ_ _ _ _ h=>h) Q Q λhk1 h2=>λhF=>mks (⟨⟨none,0⟩,0⟩:AH) qK (λw=>RE (O:=AH) (cs:=[Value.slice none 0 0]) (d:=⟨⟨none,0⟩,0⟩) Q w) Q7 hF λhF s3=>wi hF<|sO zN Q h2 Q λx5 s4 h3=>wm (bH5 (m:=List.replicate ((3:Int).toNat) (⟨⟨none,0⟩,0⟩:AH)) Q)<|tD oAH 3 Q3 λx6 h4 _ h5=>λhF=>oC 2 h5 h4 Q5<|ceS oAH 5 [] [5,23,24,32] (⟨s4,x5.List.length⟩:AH) () Q Q Q Q Q Q Q Q Q Q<|brV aN.List (λh=>h) Q (ds:=(List.replicate ((3:Int).toNat) (⟨[]⟩:aN)).set ((Int.tmod x4 3).toNat) x5) 8 (AHs.bNT (f:=aN.List) (q:=⟨s4,x5.List.length⟩) (x:=x5) ⟨Q,h3⟩ ((Int.tmod x4 3).toNat) (AHs.zero _)) Q Q Q<|rr s3 (show((List.replicate ((3:Int).toNat) (⟨⟨none,0⟩,0⟩:AH)).set ((Int.tmod x4 3).toNat) (⟨s4,x5.List.length⟩:AH)).length=((List.replicate ((3:Int).toNat) (⟨[]⟩:aN)).set ((Int.tmod x4 3).toNat) x5).length by simp) [5,23,24,32] [] [] Q Q Q Q<|wi hF<|c1 Q (λh=>aHQ (h.b 8 Q)) λx7 s5=>c1 Q (λh=>aBB (h.o 9 Q) (h.o 10 Q) (h.o 11 Q) (h.o 12 Q) (h.o 13 Q) (h.o 14 Q) (h.o 15 Q) (h.o 16 Q) (h.o 17 Q) (h.o 18 Q) (h.o 19 Q)) λx8 s6=>c1 Q (λh=>aC7 (h.o 20 Q) (h.o 21 Q) (h.o 22 Q) (h.o 23 Q) (h.o 24 Q) (h.o 25 Q) (h.o 26 Q) (h.o 27 Q) (h.o 28 Q) (h.o 29 Q) (h.o 30 Q)) λx9 s7=>sO zN Q h2 Q λx10 s8 h6=>bY [46] Q2 (dQ Q2)<|λhF=>lt0 (O:=KV) fJ Q4 λs9=>wi hF<|lkC (d:=x9) 32 (λ_ _ _ _ h=>h) Q Q λhk2 h7=>N0 s9 [3,4,6,7] (λ(p:(List KV)×Int×Table) (s11:AC)=>[(8,.h s11 p.1.length),(9,I p.2.1)]) [34,20,21,22,23,24,25,26,27,28,29,30,31,1,2] [1,2] (λp s11=>([ow s11 (p.1:List KV)]++(zTb p.2.2 s6 [.box 3 (yTb p.2.2 s6)]))) Out.brk [6] (λ(p:(List KV)×Table) (s12:AC)=>[(8,.h s12 p.1.length)]) [] (λp s12=>([ow s12 (p.1:List KV)]++(zTb p.2 s6 [.box 3 (yTb p.2 s6)]))) Q Q (λhF1 ⟨x14,x15,x16⟩ s11 hr1=>bY [51] Q2 (eF 3 5 (λ(p:(List KV)×Table)=>rZ x15 p.1 p.2) [3,4,6,7,9] (λ(p:(List KV)×Table) (s14:AC)=>[(8,.h s14 p.1.length)]) [13,14] (λp s14=>([ow s14 (p.1:List KV)]++(zTb p.2 s6 [.box 3 (yTb p.2 s6)]))) Q (sO aW9 Q h7 Q λx24 s15 h8=>bY [59] Q2 (oP (p:=(x14,x16)) s11 [0,1,2,3,4,5,6,7,8,9,10,11,12,13,14] Q Q)<|sO zN Q (hk2 h2) Q λx25 s16 h9=>sO XD Q h9 Q λx26 s17 h10=>c1 Q (λh=>aN6 (h.o 0 Q) (h.a h10)) λx27 s18=>eF 0 8 (λ(p:Bool×Table)=>zE x9 x15 x27 p.1 p.2) [3,4,6,7,8,9,11] (λ(p:Bool×Table) (_:Unit)=>[(92,.b p.1)]) [18,19,13,14] (λp _=>(zTb p.2 s6 [.box 3 (yTb p.2 s6)])) Q (sO aW9 Q h7 Q λx36 s20 h14=>gN [81,82] Q2 (cD (p:=(true,x16)) [1,2,3,4,5,6,7,8,9,10,11,12,18,19,13,14] Q2)<|sO aW9 Q h7 Q λx37 s21 h15=>cD (p:=((x27.2.length:Int) != (x37.fY.length:Int),x16)) [1,2,3,4,5,6,7,8,9,10,11,12,18,19,13,14] Q2) λ⟨x28,x29⟩ _=>bY [92] Q2 (RF hr1 hF1<|dQ Q2)<|N0 () [3,4,6,7,8,9,11] (λ(x31:Int) (_:Unit)=>[(12,I x31)]) [12,13,14,15,0,1,2,3,4,5,6,7,8,9,10,11] [12,13,14,15,0,1,2,3,4,5,6,7,8,9,10,11] (λx31 _=>[]) Out.brk [3,4,6,7,8,9] (λ(x32:Table) (_:Unit)=>[]) [12,14,15] (λx32 _=>(zTb x32 s6 [.box 3 (yTb x32 s6)])) Q Q (λhF5 x31 _ hr5=>bY [96] Q2 (j5 aJ [3,15] Q<|tD a2U 1 Q3 λx33 h11 _ h12=>λhG5=>oC 8 h12 h11 Q5<|wi hG5<|sO aW9 Q h7 Q λx34 s19 h13=>sO bDG Q h13.2 Q λx35 _ _=>λhG5=>neS eqGuardType74 stoodInHeld74 underlying74 (aKG 9997 x33 x35) Q Q Q Q Q Q<|wi hG5<|bY [111] Q2 (λhG5=>sR Q<|lM a2U 16 [] h11 () Q7<|oY () [] (re (re hG5 Q hr5 hF5) Q hr1 hF1) Q2 Q4)<|λhG5=>sF Q<|lM a2U 16 [] h11 () Q7<|nxR () [0,21,2,3,4,5,6,7,8,9,10,11,12,13,14,15] hG5 Q)<|J6 [4,5,6,7,8,9,10,11,12,13,14,15,0,2,3] Q) λx32 _=>oP (p:=(x27.1,x32)) s18.1 [12,0,1,2,3,4,5,6,7,8,9,10,11,13,14] Q Q) λ⟨x22,x23⟩ s14=>nxW s14 [0,1,2,3,4,5,6,7,8,9,10,11,12,13,14] Q)<|bkW s11 [0,1,2,3,4,5,6,7,8,9,10,11,12] Q) λ⟨x17,x18⟩ s12=>gD 0 5 zD [] 2 [] Q (LB [] Q4 (λh=>aHL (h.o 1 Q Q) (h.o 2 Q Q) (h.o 3 Q Q) (h.o 4 Q Q) (h.o 5 Q Q) (h.o 6 Q Q) (h.o 7 Q Q) (h.o 8 Q Q) (h.o 9 Q Q) (h.o 10 Q Q) (h.o 11 Q Q)) λx20 s13=>c0 Q (λh=>aK3 (h.o 0 Q) (h.o 13 Q)) λx21=>gN [115,116] Q2 (cD [] Q2)<|cD [] Q2) λx19=>dQ Q2
end
end Go.Proofs.YtkinioiglogchaaGreat
end
noncomputable section
namespace Go.Gv
variable{h:Heap}{c s x:Int}{l:List Int}{m:Mem}{k w:Nat}{O ρ σ:Type}
theorem iS{f:σ->Option (Step σ ρ)}(n:Nat)(S:Nat->σ)(r:ρ)(hs:∀k,k<n->f (S k)=some (.next (S (k+1))))(he:f (S n)=some (.stop r)):loop f (S 0)=some r:=by
  have key:∀d k,k+d=n->loop f (S k)=some r:=by
    intro d;induction d with
    | zero => intro k hk; obtain rfl : k = n := by omega
              exact bA he
    |succ d ih=>intro k hk;rw[bM (hs k aa)];exact ih (k+1) aa
  exact key n 0 aa
theorem a2X{f:σ->Option (Step σ ρ)}(n:Nat)(S:Nat->σ)(g:Nat->ρ)
  (h:∀k,k<=n->f (S k)=some (.stop (g k))\/(k<n/\f (S k)=some (.next (S (k+1)))/\g k=g (k+1))):∀k,k<=n->loop f (S k)=some (g k):=by
 have key:∀d k,k+d=n->loop f (S k)=some (g k):=by
  intro d;induction d with
  |zero=>
   intro k hk;rcases h k aa with h1|⟨h1,_⟩
   ·exact bA h1
   ·omega
  |succ d ih=>
   intro k hk;rcases h k aa with h1|⟨_,h2,h3⟩
   ·exact bA h1
   ·rw[bM h2,h3];exact ih (k+1) aa
 intro k hk;exact key (n-k) k aa
theorem XX{f:σ->Option (Step σ ρ)}(n:Nat)(S:Nat->σ)(p:Nat->Prop)[DecidablePred p](yes no:ρ)
  (h1:∀k,k<n->p k->f (S k)=some (.next (S (k+1)))) (h2:∀k,k<n->¬p k->f (S k)=some (.stop no)) (h3:f (S n)=some (.stop yes)) :
  loop f (S 0)=some (if ∀k,k<n->p k then yes else no):=by
 classical
 have key:∀d k,k+d=n->loop f (S k)=some (if ∀j,k<=j->j<n->p j then yes else no):=by
  intro d;induction d with
  |zero=>
   intro k hk;obtain rfl:k=n:=aa
   rw[bA h3,aO (λj a b=>aa)]
  |succ d ih=>
   intro k hk;by_cases hp:p k
   ·rw[bM (h1 k aa hp),ih (k+1) aa];by_cases h:∀j,k+1<=j->j<n->p j
    ·rw[aO h,aO];intro j a b;by_cases e:j=k
     ·subst e;exact hp
     ·exact h j aa b
    ·rw[aP h,aP];exact λq=>h λj a b=>q j aa b
   ·rw[bA (h2 k aa hp),aP];exact λq=>hp (q k (iU _) aa)
 have:=key n 0 aa;rw[this];by_cases h:∀k,k<n->p k
 ·rw[aO h,aO (λj _ b=>h j b)]
 ·rw[aP h,aP (λq=>h λk a=>q k (jK _) a)]
theorem MJ{f:σ->Option (Step σ ρ)}(l:List O)(S:Nat->σ)(p:O->Prop)[DecidablePred p](yes no:ρ)
  (h1:∀k (h:k<l.length),p l[k]->f (S k)=some (.next (S (k+1)))) (h2:∀k (h:k<l.length),¬p l[k]->f (S k)=some (.stop no)) (h3:f (S l.length)=some (.stop yes)) :
  loop f (S 0)=some (if ∀x∈l,p x then yes else no):=by
 classical
 have:=XX (f:=f) l.length S (λk=>∀h:k<l.length,p l[k]) yes no (λk h hp=>h1 k h (hp h)) (λk h hp=>h2 k h (λq=>hp λ_=>q)) h3;rw[this];by_cases h:∀x∈l,p x
 ·rw[aO h,aO (λk hk _=>h _ (cY hk))]
 ·rw[aP h,aP];intro q;refine h λx hx=>?_;obtain⟨k,hk,rfl⟩:=aFN.1 hx;exact q k hk hk
theorem cO(h1:-9223372036854775808<=x)(h2:x<=9223372036854775807):bB x=x:=PH ⟨h1,h2⟩
theorem gP{l:List O}{i:Int}(h0:0<=i)(h1:i<l.length):idx l i=some (l[i.toNat]' aa):=idx_eq h0 h1
theorem wrap_i64(h1:-9223372036854775808<=x)(h2:x<=9223372036854775807):IntKind.i64.wrap x=x:=PH ⟨h1,h2⟩
theorem aUC{y:Int}(h1:0<=x):x.tdiv y=x/y:=Int.tdiv_eq_ediv_of_nonneg h1
theorem NM{y:Int}(h1:0<=x):x.tmod y=x % y:=aSP h1
theorem a0M(h1:0<=x)(hk:k<=63):pA .i64 x k=x/2 ^ k:=by
 unfold pA;have:min ((k:Int).toNat) IntKind.i64.bits=k:=by simp[IntKind.bits];omega
 rw[this,Int.fdiv_eq_ediv_of_nonneg _ (by exact Int.le_of_lt (Int.pow_pos aa))]
theorem eK{c:Prop}[Decidable c]{a b:O}(h:c:=by simp;omega):ite c a b=a:=aO h
theorem gJ{c:Prop}[Decidable c]{a b:O}(h:¬c:=by simp):ite c a b=b:=aP h
theorem gT{c:Prop}[Decidable c]{a b:O}(h:¬c:=by omega):ite c a b=b:=aP h
theorem aHS{c:Prop}[Decidable c]{a b:O}(h:¬c:=by simp;omega):ite c a b=b:=aP h
theorem MA{p:Prop}[Decidable p]{k:Option O}(h:p:=by simp;omega):need p k=k:=bZ h k
theorem VH{p:Prop}[Decidable p]{k:Option O}(h:p:=by omega):need p k=k:=bZ h k
theorem V2{l:List O}(h:k<l.length:=by omega):idx l (k:Int)=some l[k]:=aW h
theorem eG(h1:-9223372036854775808<=x:=by omega)(h2:x<=9223372036854775807:=by omega):bB x=x:=cO h1 h2
structure GOp where
 Kind:Int
 Cell:Int
 bP0:Int
 dI:Int
 deriving DecidableEq,Inhabited
structure Job where
 bO:Bool
 Op:GOp
 aG:Int
 Pc:Int
 Sub:Sub
 H:Int
 Old:Int
 dI:Int
 Code:Int
 deriving DecidableEq,Inhabited
section
variable {O:Type} {p:O->Bool}
theorem XY{f:Int->Option (Step Int (Out Unit Int))}{s:List O}(hl:s.length<=4611686018427387904)
  (hf:∀k:Nat,f (k:Int)=if h:k<s.length then(if p s[k] then some (.stop (Out.ret (k:Int))) else some (.next ((k+1:Nat):Int))) else some (.stop (Out.brk ()))) :
  ∀d k,k+d=s.length->(∃j,∃h:j<s.length,k<=j/\(∀i (h:i<s.length),k<=i->i<j->p s[i]=false)/\p s[j]=true/\loop f (k:Int)=some (Out.ret (j:Int)))\/((∀i (h:i<s.length),k<=i->p s[i]=false)/\loop f (k:Int)=some (Out.brk ()))
 |0,k,hk=>.inr ⟨λi h h2=>aa,bA ak⟩
 |d + 1,k,hk=>by
  have hks:k<s.length:=aa
  by_cases hp:p s[k]=true
  ·exact .inl ⟨k,hks,iU _,λi h h1 h2=>aa,hp,bA (by rw[hf k,dif_pos hks,aO hp])⟩
  ·have hp:p s[k]=false:=by simpa using hp
   have hn:f (k:Int)=some (.next ((k+1:Nat):Int)):=by rw[hf k,dif_pos hks,aP (by simp[hp])]
   rcases XY hl hf d (k+1) aa with ⟨j,h,h1,h2,h3,h4⟩|⟨h1,h2⟩
   ·refine .inl ⟨j,h,aa,λi hi a b=>?_,h3,by rw[bM hn];exact h4⟩;by_cases e:i=k
    ·subst e;exact hp
    ·exact h2 i hi aa b
   ·refine .inr ⟨λi hi a=>?_,by rw[bM hn];exact h2⟩;by_cases e:i=k
    ·subst e;exact hp
    ·exact h1 i hi aa
theorem aIN{f:List O×Int×Int->Option (Step (List O×Int×Int) (List O×Int))}{n:Nat}(hl:n<=4611686018427387904)
  (hf:∀(L:List O) (i j:Nat) (h:j<L.length),L.length=n->i<=j->f (L,(i:Int),(j:Int))=if p L[j] then some (.next (L,(i:Int),((j+1:Nat):Int))) else some (.next (L.set i L[j],((i+1:Nat):Int),((j+1:Nat):Int))))
  (he:∀(L:List O) (i j:Nat),j=L.length->f (L,(i:Int),(j:Int))=some (.stop (L,(i:Int)))) :
  ∀d (L:List O) (i j:Nat),j+d=L.length->L.length=n->i<=j->∃(M:List O) (k:Nat),loop f (L,(i:Int),(j:Int))=some (M,(k:Int))/\M.length=n/\k<=n/\M.take k=L.take i++(L.drop j).filter (λx=>!p x)
 |0,L,i,j,hj,hn,hi=>⟨L,i,bA (he L i j aa),hn,aa,ak⟩
 |d + 1,L,i,j,hj,hn,hi=>by
  have hjl:j<L.length:=aa
  have hd:L.drop j=L[j]::L.drop (j+1):=vY hjl;by_cases hp:p L[j]=true
  ·obtain⟨M,k,h1,h2,h3,h4⟩:=aIN hl hf he d L i (j+1) aa hn aa;refine⟨M,k,by rw[bM (by rw[hf L i j hjl hn hi,aO hp])];exact h1,h2,h3,ak⟩
  ·have hp:p L[j]=false:=ak
   obtain⟨M,k,h1,h2,h3,h4⟩:=aIN hl hf he d (L.set i L[j]) (i+1) (j+1) ah ak aa;refine⟨M,k,by rw[bM (by rw[hf L i j hjl hn hi,aP (by simp[hp])])];exact h1,h2,h3,?_⟩;rw[h4,hd,List.filter_cons_of_pos (by simp[hp])];have e1:(L.set i L[j]).take (i+1)=L.take i++[L[j]]:=by rw[I6 ah,List.take_set_of_le (iU _)];simp
   grind[List.drop_set_of_lt]
end
theorem aO1{l xs:List O}{a:Nat}(h:a<=l.length):((cT l a xs).take a).drop 0=l.take a:=by grind[cT]
theorem aUD{q:O->Bool}{s:List O}{j:Nat}(h:j<s.length)(h1:∀i (h:i<s.length),i<j->q s[i]=true)(h2:q s[j]=false):s.take j++(s.drop (j+1)).filter q=s.filter q:=by
 have e:s=s.take j++s[j]::s.drop (j+1):=ae
 have e3:(s.take j).filter q=s.take j:=by grind[List.filter_eq_self,QP]
 grind
theorem aUE(x y:Int):cmp_Less_int x y=some (decide (x<y)):=by simp[cmp_Less_int,cmp_isNaN_int,uU]
theorem aRE{A B:List Int}{k:Int}(h:k=(A.length:Int)):idx (A++x::B) k=some x:=by grind[aW]
theorem aUF{data:List Int}(hd:data.length<=4611686018427387904):∀(j:Nat) (A B C:List Int) (x:Int),A.length=j->(A++x::(B++C)).length=data.length->(A++B).Pairwise (·<=·)->(∀b∈B,x<=b) ->
  ∃M:List Int,loop (dS data 0) (A++x::(B++C),(j:Int))=some (M++C)/\M.Perm (A++x::B)/\M.Pairwise (·<=·)
 |0,A,B,C,x,hj,hn,hs,hx=>by obtain rfl:A=[]:=uI hj;refine⟨x::B,bA ?_,.refl _,aBR.2 ⟨hx,hs⟩⟩;simp only[dS,dR];rw[bZ hn,gJ,bZ hn,gJ];rfl
 |j + 1,A,B,C,x,hj,hn,hs,hx=>by
  obtain⟨A,y,rfl⟩:∃A' y,A=A'++[y]:=by
   rcases ZQ A with h|⟨A',y,h⟩
   ·rw[h] at hj;cases hj
   ·exact⟨A',y,by rw[h,aI9]⟩
  have hjA:A.length=j:=ak
  have e0:A++[y]++x::(B++C)=A++y::(x::(B++C)):=ae
  have ew:bB (((j+1:Nat):Int)-1)=(j:Int):=by grind[cO]
  have i1:idx (A++y::(x::(B++C))) ((j+1:Nat):Int)=some x:=by grind[aRE]
  have i2:idx (A++y::(x::(B++C))) (j:Int)=some y:=aRE aa;rw[e0] at hn ⊢;have hyB:∀b∈B,y<=b:=λb hb=>(aOJ.1 hs).2.2 y ae b hb;by_cases hlt:x<y
  ·have st:dS data 0 (A++y::(x::(B++C)),((j+1:Nat):Int))=some (.next (A++x::((y::B)++C),(j:Int))):=by simp_all[dS,bZ,aUE,dR,jO,aRE]
   obtain⟨M,h1,h2,h3⟩:=aUF hd j A (y::B) C x hjA ak ak (λb hb=>by
    grind)
   refine⟨M,by grind[bM],h2.trans ?_,h3⟩;grind
  ·refine⟨A++[y]++x::B,bA ?_,.refl _,?_⟩
   ·simp_all[dS,bZ,aUE,dR,aP]
   grind
theorem aO2{data:List Int}(hd:data.length<=4611686018427387904):∀d (S R:List Int),R.length=d->S≠[]->(S++R).length=data.length->S.Pairwise (·<=·) ->
  ∃M:List Int,loop (dB data 0 (data.length:Int)) (S++R,(S.length:Int))=some M/\M.Perm (S++R)/\M.Pairwise (·<=·)
 |0,S,R,hR,h0,hn,hs=>by simp_all[bA,dB,bZ]
 |d+1,S,[],hR,h0,hn,hs=>by cases hR
 |d + 1,S,x::R,hR,h0,hn,hs=>by
  obtain⟨M,h1,h2,h3⟩:=aUF hd S.length S [] R x rfl ak ak (λb hb=>by cases hb);have hl:=h2.length_eq;simp at hl;have hn':=hn;simp at hn';have st:dB data 0 (data.length:Int) (S++x::R,(S.length:Int))=some (.next (M++R,((S.length+1:Nat):Int))):=by simp only[dB];rw[bZ hn,eK];grind[nJ,nI,bZ,cO]
  obtain⟨N,g1,g2,g3⟩:=aO2 hd d M R ak ak ah h3;refine⟨N,by grind[bM],g2.trans ?_,g3⟩;grind
theorem a75{x:List Int}(h:x.length<=12)(hb:∃n,A6 (IntKind.u64.wrap (x.length:Int))=some n):∃y:List Int,CA x=some y/\y.Perm x/\y.Pairwise (·<=·):=by
 have key:∃y:List Int,iF x 0 (x.length:Int)=some y/\y.Perm x/\y.Pairwise (·<=·):=by
  unfold iF;rw[eG];cases x with
  |nil=>
   simp[bA,dB,bZ,jP,jN]
  |cons a r=>
   obtain⟨M,h1,h2,h3⟩:=aO2 (data:=a::r) aa r.length [a] r rfl ae ae (List.pairwise_singleton _ _);refine⟨M,?_,ak,h3⟩;have h1':loop (dB (a::r) 0 ((a::r).length:Int)) (a::r,(0:Int)+1)=some M:=h1;rw[h1',aM];simp only[jP,jN];have h4:=h2.length_eq;grind[bZ]
 obtain⟨y,h1,h2,h3⟩:=key;obtain⟨n,hn⟩:=hb;refine⟨y,?_,h2,h3⟩;unfold CA oJ;rw[hn,aM,bA (r:=y) (by
  simp only[uV];rw[eG,eK,h1];rfl),aM]
 rfl
def bIK(n:Nat):Bool:=(A6 (IntKind.u64.wrap (n:Int))).isSome
theorem a76:(List.range 13).all bIK=true:=by kernel_rfl
theorem aXD(n:Nat)(h:n<=12):∃m,A6 (IntKind.u64.wrap (n:Int))=some m:=
 aFQ.1 (ZP.1 a76 n (List.mem_range.2 aa))
theorem aUG(h:l.Pairwise (·<=·)):(D2 l).Pairwise (· < ·)/\∀a,a∈D2 l↔a∈l:=by
 obtain⟨n,hn⟩:∃n,l.length=n:=⟨_,rfl⟩
 revert l
 induction n with
 |zero=>intro l h hn;obtain rfl:l=[]:=uI hn;exact⟨.nil,λa=>Iff.rfl⟩
 |succ n ih=>
 intro l h hn;obtain⟨l,x,rfl⟩:∃L z,l=L++[z]:=by
  rcases ZQ l with h0|⟨L,z,h0⟩
  ·rw[h0] at hn;cases hn
  ·exact⟨L,z,by rw[h0,aI9]⟩
 rw[aOJ] at h;obtain⟨i1,i2⟩:=ih h.1 ak;rw[aEE];split
 ·grind
 ·rename_i hx;refine⟨aOJ.2 ⟨i1,List.pairwise_singleton _ _,λa ha b hb=>?_⟩,λa=>ak⟩;simp at hb;subst hb;have hle:a<=b:=h.2.2 a ((i2 a).1 ha) b ae;by_cases e:a=b
  ·subst e;exfalso;obtain⟨L,z,hz⟩:∃L z,D2 l=L++[z]:=by
    rcases ZQ (D2 l) with h0|⟨L,z,h0⟩
    ·rw[h0] at ha;cases ha
    ·exact⟨L,z,by rw[h0,aI9]⟩
   rw[hz] at ha hx i1;have hz':z<=a:=h.2.2 z ((i2 z).1 ak) a ae;rcases dD.1 ha with ha'|ha'
   ·have:=(aOJ.1 i1).2.2 a ha' z ae;omega
   grind
  ·omega
theorem dN(n a b:Int):bT n a b=some (decide (a<=n/\n<=b)):=by grind[bT,E0]
theorem fH(n a b:Int):cX n a b=some (decide (a<=n/\n<=b)):=by grind[cX,LF]
def jC(c:Int):Int:=if c=0 then 8 else if c=1 then 16 else if c=2 then 40 else 0
def bE(c:Int):Int:=if c=0 then 12 else if c=1 then 20 else if c=2 then 44 else 0
def cK(c:Int):Int:=if c=0 then 4 else if c=1 then 2 else if c=2 then 1 else 0
theorem nC(h:0<=c/\c<=2):c=0\/c=1\/c=2:=aa
theorem a77(h:¬(0<=c/\c<=2)):jC c=0:=by unfold jC;omega
theorem aK7(h:¬(0<=c/\c<=2)):bE c=0:=by unfold bE;omega
theorem aRF(h:¬(0<=c/\c<=2)):cK c=0:=by unfold cK;omega
theorem pW(c:Int):0<=cK c/\cK c<=4:=by grind[cK]
theorem aXE(c:Int):0<=bE c/\bE c<=44:=by grind[bE]
theorem jZ:0<cK c↔0<=c/\c<=2:=by grind[cK]
theorem XZ(c:Int):O3 c=some (jC c):=by grind[O3,jC]
theorem kN(c:Int):lH c=some (decide (0<=c/\c<=2)):=by simp[lH,dN]
theorem X0(c:Int):DP c=some (jC c):=by
 unfold DP;rw[kN];by_cases h:0<=c/\c<=2
 ·rcases nC h with rfl|rfl|rfl<;>rfl
 grind[a77]
theorem aE2(c:Int):IX c=some (bE c):=by
 unfold IX;rw[fH];by_cases h:0<=c/\c<=2
 ·rcases nC h with rfl|rfl|rfl<;>rfl
 grind[aK7]
theorem R9(c:Int):vM c=some (bE c):=by
 unfold vM;rw[kN];by_cases h:0<=c/\c<=2
 ·rcases nC h with rfl|rfl|rfl<;>rfl
 grind[aK7]
theorem oZ(c:Int):zG c=some (cK c):=by
 unfold zG;rw[fH];by_cases h:0<=c/\c<=2
 ·rcases nC h with rfl|rfl|rfl<;>rfl
 grind[aRF]
theorem CT(c:Int):pI c=some (cK c):=by
 unfold pI;rw[kN];by_cases h:0<=c/\c<=2
 ·rcases nC h with rfl|rfl|rfl<;>rfl
 grind[aRF]
theorem X2(s:Int):JS s=some (if 0<=s/\s<=23 then s/4 else -1):=by grind[JS,fH,cO]
theorem VJ(s:Int):F6 s=some (if 0<=s/\s<=23 then s % 4 else -1):=by grind[F6,fH]
def i4(s c:Int):Int:=if(0<=s/\s<=23)/\s % 4<cK c then s/4*64+8+s % 4*bE c else -1
theorem T9{i:Int}(h0:0<=i)(h1:i<cK c):0<=i*bE c/\i*bE c+bE c<=56:=by unfold cK at h1;unfold bE;grind
theorem BK(s c:Int):HW s c=some (i4 s c):=by
 unfold HW P5 i4;rw[X2,VJ,oZ,aE2];by_cases h:0<=s/\s<=23
 ·have hp:=pW c;have h1:¬s/4<0:=aa
  have h2:bB (cK c-1)=cK c-1:=eG;by_cases h3:s % 4<cK c
  ·have hm:=T9 aa h3;have hs:=aXE c;have h4:0<=s % 4/\s % 4<=cK c-1:=aa
   have h5:¬cK c-1<s % 4:=aa
   have e1:bB (s/4*64)=s/4*64:=eG;have e2:bB (s/4*64+8)=s/4*64+8:=eG;have e3:bB (s % 4*bE c)=s % 4*bE c:=eG;have e4:bB (s/4*64+8+s % 4*bE c)=s/4*64+8+s % 4*bE c:=eG;simp[h,h1,h2,h3,h4,h5,fH,e1,e2,e3,e4]
  grind[fH]
 ·simp[h]
theorem yI(s:Int):sQ s=some (decide (0<=s/\s<=23)):=by simp[sQ,dN]
theorem BL(s c:Int):xF s c=some (i4 s c):=by
 unfold xF AY i4;rw[yI,kN,CT,R9];by_cases h:0<=s/\s<=23
 ·have hp:=pW c;rw[NM h.1,aUC h.1];grind[cK,cO,bE]
 ·simp[h]
def ldF(l:List Int):Int:=l.foldl (λn x=>n*256+x) 0
def sU(l:List Int):Prop:=∀x∈l,0<=x/\x<=255
instance (l:List Int):Decidable (sU l):=by unfold sU;infer_instance
theorem aK8(h:k<l.length):ldF (l.take (k+1))=ldF (l.take k)*256+l[k]:=by grind[ldF,I6]
theorem aO3(h:sU l):∀k,k<=l.length->0<=ldF (l.take k)/\ldF (l.take k)<256 ^ k:=by
 intro k;induction k with
 |zero=>grind[ldF]
 |succ k ih=>
  intro hk;have h1:=ih aa;have h2:=h _ (cY (show k<l.length by omega));grind[aK8]
theorem bIL(h:k<=6):(256:Int) ^ k<=281474976710656:=by have h1:(256:Nat) ^ k<=256 ^ 6:=Nat.pow_le_pow_right aa h;grind
def ld(b:List Int)(at_ w:Nat):Int:=ldF ((b.drop at_).take w)
theorem a0N{n:Int}(hk:k<=6)(h:0<=n/\n<256 ^ k)(hx:0<=x/\x<=255):bB (bB (n*256)+x)=n*256+x/\bB (bB (256*n)+x)=n*256+x:=by have:=bIL hk;grind[cO]
theorem aXF{b:List Int}{a:Nat}(h:a+w<=b.length):((b.drop a).take w).length=w:=ah
theorem aXG{b:List Int}{a:Nat}(h:k<((b.drop a).take w).length)(h':a+k<b.length):((b.drop a).take w)[k]=b[a+k]:=ae
theorem aRG{b:List Int}(hb:sU b)(a w:Nat):sU ((b.drop a).take w):=λx hx=>hb x (QQ (a4X hx))
theorem aK9{b:List Int}(hb:sU b){a:Nat}(hw:w<=7)(h:a+w<=b.length)(hl:b.length<=100000):W7 b (a:Int) (w:Int)=some (ld b a w):=by
 unfold W7;have hlen:=aXF h;have hbb:=aRG hb a w;have key:loop (xX b (a:Int) (w:Int)) (0,0)=some (ld b a w):=by
  refine iS (f:=xX b (a:Int) (w:Int)) w (λk=>(ldF (((b.drop a).take w).take k),(k:Int))) _ (λk hk=>?_) ?_
  ·have hb1:=aO3 hbb k aa;have hk':k<((b.drop a).take w).length:=aa
   have hx:=hbb _ (cY hk');have hs:=a0N aa hb1 hx;rw[aXG hk' aa] at hs;have e1:bB ((a:Int)+k)=((a+k:Nat):Int):=by grind[cO]
   simp only[xX];rw[eK,e1,V2];simp only[aM,hs.1,aK8 hk',aXG hk' (show a+k<b.length by omega)];grind[cO]
  grind[xX,ld]
 rw[key];rfl
theorem vC{b:List Int}(hb:sU b){a:Nat}(hw:w<=7)(h:a+w<=b.length)(hl:b.length<=100000):pH b (a:Int) (w:Int)=some (ld b a w):=by
 unfold pH;have hlen:=aXF h;have hbb:=aRG hb a w;have e0:bB ((a:Int)+w)=((a+w:Nat):Int):=by grind[cO]
 have e2:(b.take (a+w)).drop a=(b.drop a).take w:=by rw[List.drop_take];congr 1;omega
 rw[VH];have key:loop (uM b (a:Int) (w:Int)) (0,0)=some (ld b a w):=by
  refine iS (f:=uM b (a:Int) (w:Int)) w (λk=>(ldF (((b.drop a).take w).take k),(k:Int))) _ (λk hk=>?_) ?_
  ·have hb1:=aO3 hbb k aa;have hk':k<((b.drop a).take w).length:=aa
   have hx:=hbb _ (cY hk');have hs:=a0N aa hb1 hx;simp only[uM,e0,MM,e2];rw[eK,aW hk'];simp only[aM,hs.2,aK8 hk'];rw[eG (x:=(k:Int)+1)];rfl
  ·have:((b.drop a).take w).take w=(b.drop a).take w:=ak
   simp only[uM,e0,MM,e2,this,ld];grind
 rw[key];rfl
theorem GK(hl:l.length<=maxLen)(f:Int->Bool):eZ l (λx=>some (f x))=some (l.any f):=by
 unfold eZ xD;have key:∀k:Nat,k<=l.length->loop (jT l (λx=>some (f x))) (k:Int)=some (if(l.drop k).any f then Out.ret ((k+(l.drop k).findIdx f:Nat):Int) else Out.brk ()):=by
  refine aP9 l.length _ λk hk=>?_;by_cases h3:k<l.length
  ·have hd:l.drop k=l[k]::l.drop (k+1):=vY h3;simp only[jT];rw[eK,aW h3,sW (WA h3 hl),hd];grind
  grind[jT]
 have t0:loop (jT l (λx=>some (f x))) 0=_:=key 0 aa;rw[t0];simp only[UM];by_cases h:l.any f=true
 ·simp[h,rJ]
 grind[rJ,DO]
def BOk(b:List Int):Prop:=b.length<=1000/\sU b
instance (b:List Int):Decidable (BOk b):=by unfold BOk;infer_instance
theorem YV{p:O->Prop}[DecidablePred p](l:List O):(l.any λx=>!decide (p x))=!decide (∀x∈l,p x):=ak
theorem aHT{b:List Int}(hl:b.length<=maxLen):LK b=some (decide (BOk b)):=by
 unfold LK BW;have e:(λy0=>E4 y0)=λy:Int=>some (!decide (0<=y/\y<=255)):=by grind[E4,WL,dN]
 rw[e,GK hl,YV];by_cases h:b.length<=1000
 ·have:BOk b↔∀x∈b,0<=x/\x<=255:=⟨λq=>q.2,λq=>⟨h,q⟩⟩;grind
 grind[BOk]
def iD(h:Heap):Prop:=h.Bytes.length=384/\h.Class.length=6/\sU h.Bytes/\∀c∈h.Class,-1<=c/\c<=2
instance (h:Heap):Decidable (iD h):=by unfold iD;infer_instance
theorem NN(hl:h.Bytes.length<=maxLen):JC h=some (decide (iD h)):=by
 unfold JC rK;by_cases h1:h.Bytes.length=384
 ·have n1:((h.Bytes.length:Int) == 384)=true:=ah
  rw[aHT hl];by_cases h3:sU h.Bytes
  ·have b1:BOk h.Bytes:=⟨aa,h3⟩;by_cases h2:h.Class.length=6
   ·have n2:((h.Class.length:Int) == 6)=true:=ah
    have e:(λy0=>IG y0)=λy:Int=>some (!decide (-1<=y/\y<=2)):=by grind[IG,dN]
    rw[e,GK aa,YV];grind[iD]
   grind[iD]
  grind[BOk,iD]
 grind[iD]
def lG(h:Heap)(p:Nat):List Int:=(h.Bytes.drop (p*64)).take 64
def dA(h:Heap)(p:Nat):Int:=h.Class.getD p 0
def GL(h:Heap)(p:Nat):Prop:=
 if dA h p<0 then ∀x∈lG h p,x=0
 else((lG h p).getD 0 0=171/\(lG h p).getD 1 0=dA h p/\(lG h p).getD 2 0=cK (dA h p))/\(∀x∈((lG h p).drop 3).take 5,x=0)/\∀i,i<(cK (dA h p)).toNat->1<=ld h.Bytes (p*64+8+i*(bE (dA h p)).toNat) 4/\ld h.Bytes (p*64+8+i*(bE (dA h p)).toNat) 4<=7
instance (h:Heap) (p:Nat):Decidable (GL h p):=by unfold GL;infer_instance
section
variable {h:Heap} (hs:iD h) {p:Nat} (hp:p<6)
include hs hp
theorem X3:(lG h p).length=64:=aXF (by have:=hs.1;omega)
theorem a79(hk:k<64):h.Bytes[p*64+k]'(by have:=hs.1;omega)=(lG h p)[k]'(by grind[X3]):=(aXG (show k<((h.Bytes.drop (p*64)).take 64).length by have:=X3 hs hp;grind[lG]) _).symm
theorem a2Y(hk:k<64):h.Bytes[p*64+k]'(by have:=hs.1;omega)=(lG h p).getD k 0:=by grind[a79]
theorem YW:h.Class[p]'(by have:=hs.2.1;omega)=dA h p:=by grind[dA]
theorem aRH:idx h.Class (p:Int)=some (dA h p):=by rw[aW (by have:=hs.2.1;omega),YW hs hp]
theorem a2Z:sU (lG h p):=aRG hs.2.2.1 _ _
theorem zO(hc:dA h p=c){i:Nat}(hi:i<(cK c).toNat):(8+i*(bE c).toNat)+4<=64/\0<=(i:Int)*bE c/\((8+i*(bE c).toNat:Nat):Int)=8+(i:Int)*bE c:=by grind[cK,bE]
end
theorem X4(hl:l.length<=maxLen):JD l=some (decide (∀x∈l,x=0)):=by
 unfold JD;have e:(λy0=>IH y0)=λy:Int=>some (!decide (y=0)):=by grind[IH]
 simp_all[GK,YV]
section
variable {h:Heap} (hs:iD h) {p:Nat} (hp:p<6)
include hs hp
theorem bF7:(h.Bytes.take ((p+1)*64)).drop (p*64)=lG h p:=by grind[lG,List.drop_take]
theorem bDH{a:Nat}(ha:a+4<=64):ld (lG h p) a 4=ld h.Bytes (p*64+a) 4:=by grind[ld,lG,List.drop_take,List.drop_drop]
theorem aXH(hk:k<64):idx (lG h p) (k:Int)=some ((lG h p).getD k 0):=by grind[X3,aW]
theorem X5:OV h (p:Int)=some (decide (GL h p)):=by
 have hb:=hs.1;have hl:=X3 hs hp;have hm:(lG h p).length<=maxLen:=by grind[maxLen]
 have e0:bB ((p:Int)*64)=((p*64:Nat):Int):=by grind[cO]
 have e1:bB (bB ((p:Int)+1)*64)=(((p+1)*64:Nat):Int):=by grind[cO]
 have i0:=aXH hs hp (show 0<64 by omega);have i1:=aXH hs hp (show 1<64 by omega);have i2:=aXH hs hp (show 2<64 by omega);rw[show((0:Nat):Int)=0 from rfl] at i0;rw[show((1:Nat):Int)=1 from rfl] at i1;rw[show((2:Nat):Int)=2 from rfl] at i2;unfold OV;rw[aRH hs hp];simp only[aM,e0,e1,MM,bF7 hs hp];rw[VH];by_cases hc:dA h p<0
 ·simp_all[GL,X4]
 ·have hP:GL h p↔((lG h p).getD 0 0=171/\(lG h p).getD 1 0=dA h p/\(lG h p).getD 2 0=cK (dA h p))/\(∀x∈((lG h p).drop 3).take 5,x=0)/\∀i,i<(cK (dA h p)).toNat->1<=ld h.Bytes (p*64+8+i*(bE (dA h p)).toNat) 4/\ld h.Bytes (p*64+8+i*(bE (dA h p)).toNat) 4<=7:=by simp_all[GL,aP]
  simp only[hc,decide_false,bU,bS,i0,i1,i2,aM,CT];by_cases a0:(lG h p).getD 0 0=171
  ·by_cases a1:(lG h p).getD 1 0=dA h p
   ·by_cases a2:(lG h p).getD 2 0=cK (dA h p)
    ·have n0:((lG h p).getD 0 0 != 171)=false:=ak
     have n1:((lG h p).getD 1 0 != dA h p)=false:=ak
     have n2:((lG h p).getD 2 0 != cK (dA h p))=false:=ak
     have t8:((lG h p).take (8:Int).toNat).drop (3:Int).toNat=((lG h p).drop 3).take 5:=by grind[List.drop_take]
     simp only[n0,n1,n2,bU,bS,j8,t8];rw[VH,X4 ak];by_cases h4:∀x∈((lG h p).drop 3).take 5,x=0
     ·simp only[cV h4,aM,kW,bU,bS,CT];have key2:loop (rL h (p:Int) (dA h p) (cK (dA h p))) 0=some (if ∀i,i<(cK (dA h p)).toNat->1<=ld h.Bytes (p*64+8+i*(bE (dA h p)).toNat) 4/\ld h.Bytes (p*64+8+i*(bE (dA h p)).toNat) 4<=7 then Out.brk () else Out.ret false):=by
       have hle:=pW (dA h p);have hst:∀k:Nat,k<(cK (dA h p)).toNat->rL h (p:Int) (dA h p) (cK (dA h p)) (k:Int)=if 1<=ld h.Bytes (p*64+8+k*(bE (dA h p)).toNat) 4/\ld h.Bytes (p*64+8+k*(bE (dA h p)).toNat) 4<=7 then some (.next ((k+1:Nat):Int)) else some (.stop (Out.ret false)):=by
        intro k hk;have hz:=zO hs hp rfl hk;have e5:bB (8+bB ((k:Int)*bE (dA h p)))=((8+k*(bE (dA h p)).toNat:Nat):Int):=by grind[cO]
        have l1:=vC (a2Z hs hp) (a:=8+k*(bE (dA h p)).toNat) (w:=4) aa aa aa;rw[show((4:Nat):Int)=4 from rfl,bDH hs hp aa] at l1;simp only[rL,R9,aM,e0,e1,MM,bF7 hs hp,e5];rw[eK,l1,D8,eG (x:=(k:Int)+1)];simp only[aM,dN];grind
       refine XX (f:=rL h (p:Int) (dA h p) (cK (dA h p))) (cK (dA h p)).toNat (λk=>(k:Int)) (λi=>1<=ld h.Bytes (p*64+8+i*(bE (dA h p)).toNat) 4/\ld h.Bytes (p*64+8+i*(bE (dA h p)).toNat) 4<=7) _ _ (λk hk hx=>?_) (λk hk hx=>?_) ?_
       ·grind
       ·simp_all
       ·simp only[rL];rw[aHS]
      rw[key2];by_cases h5:∀i,i<(cK (dA h p)).toNat->1<=ld h.Bytes (p*64+8+i*(bE (dA h p)).toNat) 4/\ld h.Bytes (p*64+8+i*(bE (dA h p)).toNat) 4<=7
      ·rw[aO h5,cV (hP.2 ⟨⟨a0,a1,a2⟩,h4,h5⟩)];rfl
      ·rw[aP h5,iC (λq=>h5 (hP.1 q).2.2)];rfl
     grind
    ·have n0:((lG h p).getD 0 0 != 171)=false:=ak
     have n1:((lG h p).getD 1 0 != dA h p)=false:=ak
     have n2:((lG h p).getD 2 0 != cK (dA h p))=true:=ak
     simp_all[j8]
   simp_all[j8]
  simp_all[j8]
end
instance (h:Heap):Decidable (∀p,p<6->GL h p):=Nat.decidableBallLT 6 λp _=>GL h p
def HOk(h:Heap):Prop:=iD h/\∀p,p<6->GL h p
instance (h:Heap):Decidable (HOk h):=by unfold HOk;infer_instance
theorem NO(hl:h.Bytes.length<=maxLen):JE h=some (decide (HOk h)):=by
 unfold JE;rw[NN hl];by_cases hs:iD h
 ·have key:loop (xE h) 0=some (if ∀p,p<6->GL h p then Out.brk () else Out.ret false):=by
   refine XX (f:=xE h) 6 (λk=>(k:Int)) (λp=>GL h p) _ _ (λk hk hx=>?_) (λk hk hx=>?_) ?_
   ·simp only[xE];rw[eK,X5 hs hk,eG,cV hx];rfl
   ·simp only[xE];rw[eK,X5 hs hk,iC hx];rfl
   ·rfl
  simp only[aM,cV hs,kW,bU,bS];rw[key];by_cases h4:∀p,p<6->GL h p
  ·rw[aO h4,cV (show HOk h from⟨hs,h4⟩)];rfl
  ·rw[aP h4,iC (λq:HOk h=>h4 q.2)];rfl
 grind[HOk]
def bL(h:Heap)(s:Int):Int:=if(0<=s/\s<=23)/\s % 4<cK (dA h (s/4).toNat) then dA h (s/4).toNat else -1
theorem rB(hc:0<=bL h s):(0<=s/\s<=23)/\s % 4<cK (dA h (s/4).toNat)/\bL h s=dA h (s/4).toNat:=by unfold bL at hc ⊢;omega
theorem CU(hs:iD h)(s:Int):F7 h s=some (bL h s):=by
 unfold F7 CM bL;rw[X2,VJ];by_cases h1:0<=s/\s<=23
 ·obtain⟨k,rfl⟩:=bBB h1.1;have hk:k/4<6:=aa
  have e1:((k:Int)/4)=((k/4:Nat):Int):=aa
  have hi:=aRH hs hk;have n1:¬((k/4:Nat):Int)<0:=aa
  simp only[h1,and_self,bQ,aM,e1,n1,decide_false,bU,bS,hi,MM,true_and];grind[aRF,oZ]
 ·simp[h1]
theorem kO(hs:iD h)(s:Int):lI h s=some (bL h s):=by
 unfold lI BY bL;rw[yI];by_cases h1:0<=s/\s<=23
 ·obtain⟨k,rfl⟩:=bBB h1.1;have hk:k/4<6:=aa
  have e1:((k:Int)/4)=((k/4:Nat):Int):=aa
  have hi:=aRH hs hk;have e2:bB (Int.tdiv (k:Int) 4)=((k/4:Nat):Int):=by grind[cO]
  simp only[h1,and_self,decide_true,kW,bU,bQ,aM,e1,e2,bS,hi,MM,true_and,BL];by_cases h3:(k:Int) % 4<cK (dA h (k/4))
  ·have hm:=T9 (c:=dA h (k/4)) aa h3;have hg:¬i4 (k:Int) (dA h (k/4))<0:=by unfold i4;omega
   grind
  simp_all[i4,aP]
 ·simp[h1]
def kQ(h:Heap)(s:Int):Int:=ld h.Bytes (i4 s (bL h s)).toNat 4
theorem YX(hc:0<=bL h s):0<=i4 s (bL h s)/\i4 s (bL h s)+4<=384:=by
 obtain⟨h1,h2,h3⟩:=rB hc;rw[h3];have hm:=T9 (c:=dA h (s/4).toNat) aa h2;have hst:0<bE (dA h (s/4).toNat):=by have:0<=dA h (s/4).toNat/\dA h (s/4).toNat<=2:=jZ.1 aa;rcases nC this with e|e|e<;>rw[e]<;>decide
 have:4<=bE (dA h (s/4).toNat):=by have:0<=dA h (s/4).toNat/\dA h (s/4).toNat<=2:=jZ.1 aa;rcases nC this with e|e|e<;>rw[e]<;>decide
 unfold i4;omega
theorem vV(hs:iD h)(hc:0<=bL h s):HX h s=some (kQ h s):=by have hg:=YX hc;unfold HX;rw[CU hs];simp only[aM,BK];have l1:=aK9 hs.2.2.1 (a:=(i4 s (bL h s)).toNat) (w:=4) aa (by have:=hs.1;omega) (by have:=hs.1;omega);rw[show((4:Nat):Int)=4 from rfl,Int.toNat_of_nonneg hg.1] at l1;rw[l1];rfl
theorem IZ(hs:iD h)(hc:0<=bL h s):C1 h s=some (kQ h s):=by
 have hg:=YX hc;have hm:h.Bytes.length<=maxLen:=by rw[hs.1];simp[maxLen]
 unfold C1 E7;rw[NN hm,kO hs];have l1:=vC hs.2.2.1 (a:=(i4 s (bL h s)).toNat) (w:=4) aa (by have:=hs.1;omega) (by have:=hs.1;omega);grind[BL,kQ]
def fK(l:List bG):List Int:=l.flatMap bG.aV
def iE(l:aE):List Int:=fK l.Global++fK l.Own
def LOk(l:aE):Prop:=l.Global.length=3/\l.Own.length=9/\(∀s∈l.Own,s.aV.length<=2)/\(∀x∈iE l,0<=x/\x<=23)/\(iE l).Nodup
instance (l:aE):Decidable (LOk l):=by unfold LOk;infer_instance
theorem SA{l:List bG}(h:k<l.length):fK (l.take (k+1))=fK (l.take k)++l[k].aV:=by grind[fK,I6]
theorem aRI(l:List bG)(k:Nat):(fK (l.take k)).length<=(fK l).length:=by grind[fK,ZU]
theorem aLA(l:List bG)(h:k<l.length):l[k].aV.length<=(fK l).length:=by have h1:=aRI l (k+1);grind[SA]
theorem aN7{l:aE}(h:(iE l).length<=1073741824)(hg:l.Global.length<=maxLen)(ho:l.Own.length<=maxLen):aAV l=some (iE l):=by
 have hsum:(fK l.Global).length+(fK l.Own).length<=1073741824:=by grind[iE]
 unfold aAV;have k1:loop (BC l) ([],0)=some (fK l.Global):=by
  refine iS (f:=BC l) l.Global.length (λk=>(fK (l.Global.take k),(k:Int))) _ (λk hk=>?_) ?_
  ·have h1:=aRI l.Global (k+1);rw[SA hk] at h1;simp only[BC];rw[eK,aW hk];grind[bZ,SA,sW]
  grind[BC]
 rw[k1];simp only[aM,Z0,ZZ];have k2:loop (BA l) (fK l.Global,0)=some (iE l):=by
  have:=iS (f:=BA l) l.Own.length (λk=>(fK l.Global++fK (l.Own.take k),(k:Int))) (iE l) (λk hk=>?_) ?_
  ·grind[fK]
  ·have h1:=aRI l.Own (k+1);rw[SA hk] at h1;simp only[BA];rw[eK,aW hk];grind[bZ,SA,sW]
  grind[BA,iE]
 rw[k2];rfl
theorem aN8(hl:l.length<=maxLen)(x:Int):aAU l x=some (decide (x∈l)):=by
 unfold aAU;have key:loop (vS l x) 0=some (if ∀y∈l,y≠x then Out.brk () else Out.ret true):=by
  refine MJ (f:=vS l x) l (λk=>(k:Int)) (λy=>y≠x) _ _ (λk h hp=>?_) (λk h hp=>?_) ?_
  ·simp only[vS];rw[eK,aW h,sW (WA h hl)];have:(l[k] == x)=false:=by simpa using hp
   simp only[aM,this,bU,bS]
  ·simp only[vS];rw[eK,aW h];have:(l[k] == x)=true:=by simpa using hp
   simp only[aM,this,bQ]
  ·simp[vS]
 rw[key];by_cases h:x∈l
 ·rw[aP (λq=>q x h rfl),cV h];rfl
 ·rw[aO (λy hy (e:y=x)=>h (e ▸ hy)),iC h];rfl
theorem aXI(l:List Int):l.Nodup↔∀k (h:k<l.length),l[k]∉l.take k:=by grind[aYY,List.mem_take_iff_getElem]
def BM:List Bool->List Int->Option (List Bool)
 |met,[]=>some met
 |met,x::r=>if(0<=x/\x<=23)/\met.getD x.toNat true=false then BM (met.set x.toNat true) r else none
theorem aO4:∀{xs:List Int} {met m:List Bool},BM met xs=some m->m.length=met.length
 |[],met,m,h=>by grind[BM]
 |x::r,met,m,h=>by
  simp only[BM] at h;split at h
  ·have:=aO4 h;grind
  ·cases h
theorem aDA:∀(a b:List Int) (met:List Bool),BM met (a++b)=(BM met a).bind λm=>BM m b
 |[],b,met=>rfl
 |x::r,b,met=>by
  simp only[D5,BM];split
  ·exact aDA r b _
  ·rfl
theorem aBD:∀(xs:List Int) (met:List Bool),met.length=24->((BM met xs).isSome=true↔(∀x∈xs,0<=x/\x<=23)/\xs.Nodup/\∀x∈xs,met.getD x.toNat true=false)
 |[],met,hm=>by simp[BM]
 |x::r,met,hm=>by
  simp only[BM];by_cases h:(0<=x/\x<=23)/\met.getD x.toNat true=false
  ·rw[aO h,aBD r _ ak];grind
  grind
def aRJ:Option (List Bool)->Out (List Bool) Bool
 |some m=>.brk m
 |none=>.ret false
theorem bLI{s:bG}(hl:s.aV.length<=maxLen):∀d k (met:List Bool),k+d=s.aV.length->met.length=24->loop (uO s) ((k:Int),met)=some (aRJ (BM met (s.aV.drop k))):=by
 intro d;induction d with
 |zero=>
  intro k met hk hm;rw[bA (r:=Out.brk met) (by grind[uO]),aBN aa];rfl
 |succ d ih=>
  intro k met hk hm;have hk':k<s.aV.length:=aa
  have hd:s.aV.drop k=s.aV[k]::s.aV.drop (k+1):=vY hk';have hst:uO s ((k:Int),met)=if(0<=s.aV[k]/\s.aV[k]<=23)/\met.getD s.aV[k].toNat true=false then some (.next (((k+1:Nat):Int),met.set s.aV[k].toNat true)) else some (.stop (Out.ret false)):=by
   simp only[uO];rw[eK,aW hk'];simp only[aM,yI];generalize s.aV[k]=x;by_cases q:0<=x/\x<=23
   ·obtain⟨j,rfl⟩:=bBB q.1;have hj:j<met.length:=aa
    have e:met.getD j true=met[j]:=ak
    simp only[q,and_self,decide_true,kW,bU,bS,uN,MM,true_and,e];rw[VH,aW hj];simp only[aM];cases met[j]
    ·simp only[bU,bS,bQ];grind[bZ,sW]
    ·simp
   ·rw[iC q];simp only[SQ,bQ,uN];grind
  rw[hd,BM];by_cases q:(0<=s.aV[k]/\s.aV[k]<=23)/\met.getD s.aV[k].toNat true=false
  ·rw[aO q] at hst ⊢;grind[bM]
  ·rw[aP q] at hst ⊢;rw[bA hst];rfl
def aFX(l:List bG):Prop:=∀s∈l,s.aV.length<=2
instance (l:List bG):Decidable (aFX l):=by unfold aFX;infer_instance
theorem bLJ{l:aE}(ho:l.Own.length=9)(hn:(l.Own++l.Global).length<=1000)(hs:∀s∈l.Own++l.Global,s.aV.length<=maxLen):∀d k (met:List Bool),k+d=(l.Own++l.Global).length->met.length=24 ->
  loop (uP l) ((k:Int),met)=some (if aFX (((l.Own++l.Global).drop k).take (9-k))/\(BM met (fK ((l.Own++l.Global).drop k))).isSome=true then Out.brk () else Out.ret false):=by
 intro d;induction d with
 |zero=>
  intro k met hk hm;rw[aBN aa,aO ⟨by simp[aFX],rfl⟩];simp_all[bA,uP]
 |succ d ih=>
  intro k met hk hm;have hk':k<(l.Own++l.Global).length:=aa
  have hd:(l.Own++l.Global).drop k=(l.Own++l.Global)[k]::(l.Own++l.Global).drop (k+1):=vY hk';have hsk:=hs _ (cY hk');have hf:fK ((l.Own++l.Global).drop k)=(l.Own++l.Global)[k].aV++fK ((l.Own++l.Global).drop (k+1)):=by grind[fK]
  have hin:∀b:Bool,oT (k:Int) met (l.Own++l.Global)[k] b=if b then some (.stop (Out.ret false)) else(match BM met (l.Own++l.Global)[k].aV with|some m=>some (.next (((k+1:Nat):Int),m))|none=>some (.stop (Out.ret false))):=by
   intro b;have h4:=bLI hsk _ 0 met (aBT _) hm;rw[show((0:Nat):Int)=0 from rfl,UM] at h4;unfold oT;rw[h4];cases b
   ·simp only[bU,bS,aM];cases BM met (l.Own++l.Global)[k].aV with
    |none=>rfl
    |some m=>simp only[aRJ,U1,U0];rw[eG];rfl
   ·rfl
  have hst:uP l ((k:Int),met)=oT (k:Int) met (l.Own++l.Global)[k] (decide (k<9/\2<(l.Own++l.Global)[k].aV.length)):=by
   simp only[uP];rw[aO ak,aW hk'];simp only[aM];by_cases h9:k<9
   ·rw[eK];congr 1
    (simp_all;omega)
   grind
  rw[hin] at hst;by_cases h2:k<9/\2<(l.Own++l.Global)[k].aV.length
  ·rw[cV h2] at hst;simp only[bQ] at hst;rw[bA hst,aP];rintro⟨q,_⟩;have e:9-k=(9-(k+1))+1:=aa
   rw[hd,e,List.take_succ_cons] at q;have:=q _ aBQ;omega
  ·rw[iC h2] at hst;simp only[bU,bS] at hst;have hcond:aFX (((l.Own++l.Global).drop k).take (9-k))↔aFX (((l.Own++l.Global).drop (k+1)).take (9-(k+1))):=by
    unfold aFX;by_cases h9:k<9
    ·have e:9-k=(9-(k+1))+1:=aa
     simp_all
    ·have e:9-k=0:=aa
     have e':9-(k+1)=0:=aa
     simp_all
   rw[hf,aDA];cases hg:BM met (l.Own++l.Global)[k].aV with
   |none=>
    simp_all[bA]
   |some m=>
    rw[hg] at hst;rw[bM hst,ih (k+1) m aa (by grind[aO4])];simp_all
theorem VK{l:aE}(h:(iE l).length<=1073741824):pJ l=some (decide (LOk l)):=by
 unfold pJ BX;by_cases hg:l.Global.length=3
 ·by_cases ho:l.Own.length=9
  ·have n1:((l.Global.length:Int) != 3)=false:=ah
   have n2:((l.Own.length:Int) != 9)=false:=ah
   simp only[n1,n2,bU,bS];rw[VH];have hsl:∀s∈l.Own++l.Global,s.aV.length<=maxLen:=by grind[iE,maxLen,aFN,aLA]
   have key:=bLJ ho ah hsl (l.Own++l.Global).length 0 (List.replicate 24 false) aa rfl;rw[show((0:Nat):Int)=0 from rfl,UM,Nat.sub_zero] at key;rw[key];have et:(l.Own++l.Global).take 9=l.Own:=ak
   have ef:fK (l.Own++l.Global)=fK l.Own++fK l.Global:=by simp[fK]
   have hm0:∀j:Nat,j<24->(List.replicate 24 false).getD j true=false:=ai
   have hiff:LOk l↔aFX ((l.Own++l.Global).take 9)/\(BM (List.replicate 24 false) (fK (l.Own++l.Global))).isSome=true:=by
    rw[aBD _ _ rfl,et,ef];have hp:(fK l.Own++fK l.Global).Perm (iE l):=List.perm_append_comm;constructor
    ·rintro⟨_,_,q1,q2,q3⟩;exact⟨q1,λx hx=>q2 x (hp.mem_iff.1 hx),hp.nodup_iff.2 q3,λx hx=>hm0 _ ak⟩
    ·rintro⟨q1,q2,q3,_⟩;exact⟨hg,ho,q1,λx hx=>q2 x (hp.mem_iff.2 hx),hp.nodup_iff.1 q3⟩
   by_cases q:LOk l
   ·rw[aO (hiff.1 q),cV q];rfl
   ·rw[aP (λx=>q (hiff.2 x)),iC q];rfl
  ·have n1:((l.Global.length:Int) != 3)=false:=ah
   have n2:((l.Own.length:Int) != 9)=true:=ah
   simp_all[LOk]
 ·have n1:((l.Global.length:Int) != 3)=true:=ah
  simp_all[LOk]
def SB(h:Heap)(l:List Int)(c:Int):Prop:=∀x∈l,bL h x=c/\kQ h x<=6
instance (h:Heap) (l:List Int) (c:Int):Decidable (SB h l c):=by unfold SB;infer_instance
theorem SC(hs:iD h){s:bG}(hl:s.aV.length<=maxLen)(hc:0<=c):AZ h s c=some (decide (SB h s.aV c)):=by
 unfold AZ;have key:loop (m8 h s c) 0=some (if ∀x∈s.aV,bL h x=c/\kQ h x<=6 then Out.brk () else Out.ret false):=by
  have hst:∀k (hk:k<s.aV.length),m8 h s c (k:Int)=if bL h s.aV[k]=c/\kQ h s.aV[k]<=6 then some (.next ((k+1:Nat):Int)) else some (.stop (Out.ret false)):=by
   intro k hk;simp only[m8];rw[eK,aW hk];generalize s.aV[k]=x;simp only[aM,kO hs,yV];by_cases q:bL h x=c
   ·have n1:(bL h x != c)=false:=by simp only[bne_eq_false_iff_eq];exact q
    simp only[n1,bU,bS,IZ hs (show 0<=bL h x by omega),aM,sW (WA hk hl)];by_cases q2:kQ h x<=6
    ·rw[aHS,aO ⟨q,q2⟩]
    ·rw[eK,aP (λx=>q2 x.2)]
   ·have n1:(bL h x != c)=true:=by simp only[bne_iff_ne];exact q
    simp only[n1,bQ];rw[aP (λx=>q x.1)]
  refine MJ (f:=m8 h s c) s.aV (λk=>(k:Int)) (λx=>bL h x=c/\kQ h x<=6) _ _ (λk hk hp=>?_) (λk hk hp=>?_) ?_
  ·rw[hst k hk,aO hp]
  ·rw[hst k hk,aP hp]
  ·simp[m8]
 rw[key];by_cases q:∀x∈s.aV,bL h x=c/\kQ h x<=6
 ·rw[aO q,cV (show SB h s.aV c from q)];rfl
 ·rw[aP q,iC (show ¬SB h s.aV c from q)];rfl
def fQ(l:List bG)(k:Nat):List Int:=(l.getD k ⟨[]⟩).aV
theorem dY{l:List bG}(h:k<l.length):l[k].aV=fQ l k:=by grind[fQ]
def aDB(m:Mem)(k:Nat):Prop:=SB m.Heap (fQ m.aE.Global k) (k:Int)
def ZI(m:Mem)(k:Nat):Prop:=SB m.Heap (fQ m.aE.Own k) ((k % 3:Nat):Int)
instance (m:Mem) (k:Nat):Decidable (aDB m k):=by unfold aDB;infer_instance
instance (m:Mem) (k:Nat):Decidable (ZI m k):=by unfold ZI;infer_instance
instance (m:Mem):Decidable (∀k,k<3->aDB m k):=Nat.decidableBallLT 3 λk _=>aDB m k
instance (m:Mem):Decidable (∀k,k<9->ZI m k):=Nat.decidableBallLT 9 λk _=>ZI m k
instance (m:Mem) (c:Nat):Decidable (∀w,w<3->ZI m (w*3+c)):=Nat.decidableBallLT 3 λw _=>ZI m (w*3+c)
instance (m:Mem):Decidable (∀k,k<3->aDB m k/\∀w,w<3->ZI m (w*3+k)):=Nat.decidableBallLT 3 λk _=>aDB m k/\∀w,w<3->ZI m (w*3+k)
def lW(m:Mem):Prop:=(HOk m.Heap/\LOk m.aE)/\(∀k,k<3->aDB m k)/\∀k,k<9->ZI m k
instance (m:Mem):Decidable (lW m):=by unfold lW;infer_instance
theorem LOk.aUH{l:aE}(h:LOk l)(hb:(iE l).length<=1073741824):(∀s∈l.Global,s.aV.length<=1073741824)/\∀s∈l.Own,s.aV.length<=1073741824:=by grind[iE,aFN,aLA]
theorem BN(hb:m.Heap.Bytes.length<=maxLen)(hl:(iE m.aE).length<=1073741824):xG m=some (decide (lW m)):=by
 unfold xG II;rw[NO hb,VK hl];by_cases h1:HOk m.Heap
 ·by_cases h2:LOk m.aE
  ·have hmx:(1073741824:Nat)<=maxLen:=by simp[maxLen]
   have hsl:=LOk.aUH h2 hl;simp only[cV h1,cV h2,aM,kW,bU,bS];have k3:loop (vN m) 0=some (if ∀k,k<9->ZI m k then Out.brk () else Out.ret false):=by
    have hst:∀w:Nat,w<9->vN m (w:Int)=if ZI m w then some (.next ((w+1:Nat):Int)) else some (.stop (Out.ret false)):=by
     intro w hw;have hk:w<m.aE.Own.length:=by rw[h2.2.1];omega
     have hlen:=hsl.2 _ (cY hk);have em:Int.tmod (w:Int) 3=((w % 3:Nat):Int):=ak
     simp only[vN];rw[eK];simp only[aM,aW hk,em];rw[SC h1.1 aa aa,dY hk,eG];by_cases q:ZI m w
     ·rw[aO q,cV (show SB m.Heap (fQ m.aE.Own w) ((w % 3:Nat):Int) from q)];rfl
     ·rw[aP q,iC (show ¬SB m.Heap (fQ m.aE.Own w) ((w % 3:Nat):Int) from q)];rfl
    refine XX (f:=vN m) 9 (λk=>(k:Int)) (λw=>ZI m w) _ _ (λk hk hx=>?_) (λk hk hx=>?_) ?_
    ·grind
    ·grind
    ·simp[vN,h2.2.1]
   have k2:loop (vO m) 0=some (if ∀k,k<3->aDB m k then Out.brk () else Out.ret false):=by
    have hst:∀w:Nat,w<3->vO m (w:Int)=if aDB m w then some (.next ((w+1:Nat):Int)) else some (.stop (Out.ret false)):=by
     intro w hw;have hk:w<m.aE.Global.length:=by rw[h2.1];omega
     have hlen:=hsl.1 _ (cY hk);simp only[vO];rw[eK];simp only[aM,aW hk];rw[SC h1.1 aa aa,dY hk,eG];by_cases q:aDB m w
     ·rw[aO q,cV (show SB m.Heap (fQ m.aE.Global w) (w:Int) from q)];rfl
     ·rw[aP q,iC (show ¬SB m.Heap (fQ m.aE.Global w) (w:Int) from q)];rfl
    refine XX (f:=vO m) 3 (λk=>(k:Int)) (λw=>aDB m w) _ _ (λk hk hx=>?_) (λk hk hx=>?_) ?_
    ·grind
    ·grind
    ·simp[vO,h2.1]
   rw[k2];by_cases q:∀k,k<3->aDB m k
   ·rw[aO q];simp only[aM,ZY,ZX];rw[k3];by_cases q2:∀k,k<9->ZI m k
    ·rw[aO q2,cV (show lW m from⟨⟨h1,h2⟩,q,q2⟩)];rfl
    ·rw[aP q2,iC (λx:lW m=>q2 x.2.2)];rfl
   ·rw[aP q,iC (λx:lW m=>q x.2.1)];rfl
  grind[lW]
 grind[lW]
theorem J0{l:List bG}{s:bG}(h:s∈l):s.aV.length<=(fK l).length:=by grind[aFN,aLA]
theorem vD(l:aE):(iE l).length=(fK l.Global).length+(fK l.Own).length:=by simp[iE]
def DG(m:Mem):Prop:=m.Heap.Bytes.length<=1048576/\m.Heap.Class.length<=1048576/\m.aE.Global.length<=1048576/\m.aE.Own.length<=1048576/\(iE m.aE).length<=1048576
theorem DG.aUH(h:DG m):(∀s∈m.aE.Global,s.aV.length<=1048576)/\∀s∈m.aE.Own,s.aV.length<=1048576:=by have:=vD m.aE;have h5:=h.2.2.2.2;exact⟨λs hm=>by have:=J0 hm;omega,λs hm=>by have:=J0 hm;omega⟩
def POk(e:Int)(p:wQ):Prop:=(0<=p.aK/\p.aK<=e)/\(0<=p.Seen/\p.Seen<=2)/\(p.On=false->p=⟨false,0,false,0⟩)
instance (e:Int) (p:wQ):Decidable (POk e p):=by unfold POk;infer_instance
def KP(c:aC):Prop:=(0<=c.aK/\c.aK<=100000)/\c.cE.length=3/\∀p∈c.cE,POk c.aK p
instance (c:aC):Decidable (KP c):=by unfold KP;infer_instance
theorem kP(c:aC):zF c=some (decide (KP c)):=by
 unfold zF;rw[fH];by_cases h1:0<=c.aK/\c.aK<=100000
 ·by_cases h2:c.cE.length=3
  ·simp only[aM,h1,h2,uY];have key:∀k:Nat,k<=3->loop (uX c) (k:Int)=some (if ∀p∈c.cE.drop k,POk c.aK p then Out.brk () else Out.ret false):=by
    refine aP9 3 _ λk hk=>?_;by_cases h3:k<3
    ·have hd:c.cE.drop k=c.cE[k]::c.cE.drop (k+1):=vY aa;simp only[uX];rw[eK,V2];simp only[aM,fH,oW,hd];rw[sW (by simp[maxLen];omega)];generalize c.cE[k]=p;have hp:POk c.aK p↔decide (0<=p.aK/\p.aK<=c.aK)=true/\decide (0<=p.Seen/\p.Seen<=2)=true/\(p.On=false->decide (p=⟨false,0,false,0⟩)=true):=by simp only[POk,decide_eq_true_eq]
     simp only[List.forall_mem_cons,hp];generalize decide (0<=p.aK/\p.aK<=c.aK)=b1;generalize decide (0<=p.Seen/\p.Seen<=2)=b2;generalize decide (p=⟨false,0,false,0⟩)=b3;generalize p.On=b4;cases b1<;>cases b2<;>cases b3<;>cases b4<;>simp[h3]
    ·left;obtain rfl:k=3:=aa
     simp[uX,aBN (show c.cE.length<=3 by omega)]
   have:=key 0 aa;simp only[Int.ofNat_zero,UM] at this;have e:decide (KP c)=if ∀p∈c.cE,POk c.aK p then true else false:=by have:KP c↔∀p∈c.cE,POk c.aK p:=⟨λh=>h.2.2,λh=>⟨h1,h2,h⟩⟩;simp[this]
   rw[e];simp only[Int.cast_ofNat_Int] at *;have t0:loop (uX c) 0=_:=this;by_cases h5:∀p∈c.cE,POk c.aK p
   ·rw[aO h5] at t0 ⊢;rw[t0];simp[KI,VB]
   ·rw[aP h5] at t0 ⊢;rw[t0];simp[KI]
  grind[uY,KP]
 grind[uY,KP]
theorem aUJ(p:wQ)(c:aC):xI p c=some (!decide (POk c.aK p)):=by
 unfold xI l6;rw[dN,dN];have hp:decide (POk c.aK p)=(decide (0<=p.aK/\p.aK<=c.aK) && (decide (0<=p.Seen/\p.Seen<=2) && (p.On || decide (p=⟨false,0,false,0⟩)))):=by rw[I2];simp only[POk,decide_eq_true_eq,yQ,Bool.or_eq_true];grind
 grind
theorem aRK{l:List wQ}(hl:l.length<=maxLen)(f:wQ->Bool):l5 l (λx=>some (f x))=some (l.any f):=by
 unfold l5 xH;have key:∀k:Nat,k<=l.length->loop (jU l (λx=>some (f x))) (k:Int)=some (if(l.drop k).any f then Out.ret ((k+(l.drop k).findIdx f:Nat):Int) else Out.brk ()):=by
  refine aP9 l.length _ λk hk=>?_;by_cases h3:k<l.length
  ·have hd:l.drop k=l[k]::l.drop (k+1):=vY h3;simp only[jU];rw[eK,aW h3,sW (WA h3 hl),hd];grind
  grind[jU]
 have t0:loop (jU l (λx=>some (f x))) 0=_:=key 0 aa;rw[t0];simp only[UM];by_cases h:l.any f=true
 ·simp[h,rM]
 grind[rM,DQ]
theorem vF{c:aC}(hc:c.cE.length<=maxLen):pK c=some (decide (KP c)):=by
 unfold pK uQ;rw[dN];have e:(λy0=>xI y0 c)=λy0=>some (!decide (POk c.aK y0)):=funext λy=>aUJ y c;rw[e,aRK hc];by_cases h1:0<=c.aK/\c.aK<=100000
 ·by_cases h2:c.cE.length=3
  ·have:KP c↔∀p∈c.cE,POk c.aK p:=⟨λh=>h.2.2,λh=>⟨h1,h2,h⟩⟩;grind
  grind[KP]
 grind[KP]
def dV(l:List bW):List fB:=l.flatMap bW.Rows
theorem NP{l:List bW}(h:k<l.length):dV (l.take (k+1))=dV (l.take k)++l[k].Rows:=by grind[dV,I6]
theorem aLB(l:List bW)(k:Nat):(dV (l.take k)).length<=(dV l).length:=by grind[dV,ZU]
theorem a21(l:List bW)(h:k<l.length):l[k].Rows.length<=(dV l).length:=by have h1:=aLB l (k+1);grind[NP]
theorem YY{l:List bW}{s:bW}(h:s∈l):s.Rows.length<=(dV l).length:=by grind[aFN,a21]
theorem aLC{l:List bW}(h:(dV l).length<=1073741824)(hl:l.length<=maxLen):W8 l=some (dV l):=by
 unfold W8;have k1:loop (xY l) ([],0)=some (dV l):=by
  refine iS (f:=xY l) l.length (λk=>(dV (l.take k),(k:Int))) _ (λk hk=>?_) ?_
  ·have h1:=aLB l (k+1);rw[NP hk] at h1;simp only[xY];rw[eK,aW hk];grind[bZ,NP,sW]
  grind[xY]
 rw[k1];rfl
def lK(h:Int):Prop:=(32<=h/\h<=223)/\h % 32<24
instance (h:Int):Decidable (lK h):=by unfold lK;infer_instance
theorem sI(h:Int):vT h=some (decide (lK h)):=by grind[vT,HY,lK,fH,NM]
theorem g8(h:Int):iN h=some (decide (lK h)):=by grind[iN,yW,lK,dN,NM]
theorem lK.mod{h:Int}(q:lK h):Int.tmod h 32=h % 32/\0<=h % 32/\h % 32<=23:=by grind[lK]
theorem jR(h:Int):mE h=some (if lK h then h % 32 else -1):=by grind[mE,sI,lK]
def PA(r:fB):Prop:=lK r.Handle/\0<=r.aK/\r.aK<=100000
instance (r:fB):Decidable (PA r):=by unfold PA;infer_instance
def HD(r:fB):Int:=r.Handle % 32
def z6(l:List bW):Prop:=l.length=3/\(dV l).length<=24/\(∀r∈dV l,PA r)/\((dV l).map HD).Nodup
instance (l:List bW):Decidable (z6 l):=by unfold z6;infer_instance
def goR:List Bool->List fB->Option (List Bool)
 |met,[]=>some met
 |met,r::t=>if PA r/\met.getD (HD r).toNat true=false then goR (met.set (HD r).toNat true) t else none
theorem a0P:∀{xs:List fB} {met m:List Bool},goR met xs=some m->m.length=met.length
 |[],met,m,h=>by grind[goR]
 |x::r,met,m,h=>by
  simp only[goR] at h;split at h
  ·have:=a0P h;grind
  ·cases h
theorem aLD:∀(a b:List fB) (met:List Bool),goR met (a++b)=(goR met a).bind λm=>goR m b
 |[],b,met=>rfl
 |x::r,b,met=>by
  simp only[D5,goR];split
  ·exact aLD r b _
  ·rfl
theorem aUK:∀(xs:List fB) (met:List Bool),(goR met xs).isSome=true↔(∀r∈xs,PA r)/\(BM met (xs.map HD)).isSome=true
 |[],met=>by simp[goR,BM]
 |x::r,met=>by
  simp only[goR,I5,BM];by_cases h:PA x
  ·have hm:=h.1.mod;have hs:0<=HD x/\HD x<=23:=hm.2;by_cases h2:met.getD (HD x).toNat true=false
   ·rw[aO ⟨h,h2⟩,aO ⟨hs,h2⟩,aUK r _];simp[h]
   grind
  grind
theorem a23{s:bW}(hl:s.Rows.length<=maxLen):∀d k (met:List Bool),k+d=s.Rows.length->met.length=24->loop (uR s) ((k:Int),met)=some (aRJ (goR met (s.Rows.drop k))):=by
 intro d;induction d with
 |zero=>
  intro k met hk hm;rw[bA (r:=Out.brk met) (by grind[uR]),aBN aa];rfl
 |succ d ih=>
  intro k met hk hm;have hk':k<s.Rows.length:=aa
  have hd:s.Rows.drop k=s.Rows[k]::s.Rows.drop (k+1):=vY hk';have hst:uR s ((k:Int),met)=if PA s.Rows[k]/\met.getD (HD s.Rows[k]).toNat true=false then some (.next (((k+1:Nat):Int),met.set (HD s.Rows[k]).toNat true)) else some (.stop (Out.ret false)):=by
   simp only[uR];rw[eK,aW hk'];simp only[aM,g8,dN];generalize s.Rows[k]=x;by_cases q:lK x.Handle
   ·by_cases q2:0<=x.aK/\x.aK<=100000
    ·have hm2:=q.mod;obtain⟨j,hj0⟩:=bBB hm2.2.1;have hj:j<met.length:=aa
     have e:met.getD j true=met[j]:=ak
     have hr:PA x:=⟨q,q2⟩;simp only[q,q2,and_self,decide_true,kW,bU,bS,mC,hm2.1,hj0,MM,hr,true_and,HD,e];rw[VH,aW hj];simp only[aM];cases met[j]
     ·simp only[bU,bS,bQ];grind[bZ,sW]
     ·simp
    ·rw[cV q,iC q2];simp only[kW,SQ,bU,bS,bQ,mC];rw[aP (λy:PA x/\_=>q2 y.1.2)]
   simp_all[mC,PA]
  rw[hd,goR];by_cases q:PA s.Rows[k]/\met.getD (HD s.Rows[k]).toNat true=false
  ·rw[aO q] at hst ⊢;grind[bM]
  ·rw[aP q] at hst ⊢;rw[bA hst];rfl
theorem a25{l:List bW}(hn:l.length<=1000)(hs:∀s∈l,s.Rows.length<=maxLen):∀d k (met:List Bool),k+d=l.length->met.length=24 ->
  loop (uS l) ((k:Int),met)=some (if(goR met (dV (l.drop k))).isSome=true then Out.brk () else Out.ret false):=by
 intro d;induction d with
 |zero=>
  simp_all[goR,dV,bA,uS]
 |succ d ih=>
  intro k met hk hm;have hk':k<l.length:=aa
  have hd:l.drop k=l[k]::l.drop (k+1):=vY hk';have hsk:=hs _ (cY hk');have hf:dV (l.drop k)=l[k].Rows++dV (l.drop (k+1)):=by grind[dV]
  have h4:=a23 hsk _ 0 met (aBT _) hm;rw[show((0:Nat):Int)=0 from rfl,UM] at h4;have hst:uS l ((k:Int),met)=(match goR met l[k].Rows with|some m=>some (.next (((k+1:Nat):Int),m))|none=>some (.stop (Out.ret false))):=by
   simp only[uS];rw[eK,aW hk'];simp only[aM];rw[h4];cases goR met l[k].Rows with
   |none=>rfl
   |some m=>simp only[aM,aRJ,U4,U3];grind[cO]
  rw[hf,aLD];cases hg:goR met l[k].Rows with
  |none=>
   simp_all[bA]
  |some m=>
   rw[hg] at hst;rw[bM hst,ih (k+1) m aa (by grind[a0P])];simp
theorem aDC{l:List bW}(hn:l.length<=1000)(h:(dV l).length<=1073741824):E8 l=some ((dV l).length:Int):=by
 unfold E8;have key:loop (pL l) (0,0)=some ((dV l).length:Int):=by
  refine iS (f:=pL l) l.length (λk=>(((dV (l.take k)).length:Int),(k:Int))) _ (λk hk=>?_) ?_
  ·have h1:=aLB l (k+1);rw[NP hk,D6] at h1;simp only[pL];rw[eK,aW hk];grind[cO,NP]
  grind[pL]
 rw[key];rfl
theorem CV{l:List bW}(h:(dV l).length<=1073741824):tG l=some (decide (z6 l)):=by
 unfold tG;by_cases h3:l.length=3
 ·have n1:((l.length:Int) != 3)=false:=ah
  have hb:(1073741824:Nat)<=maxLen:=by simp[maxLen]
  simp only[n1,bU,bS];have key:=a25 (l:=l) aa (λs hs=>by have:=YY hs;omega) l.length 0 (List.replicate 24 false) aa rfl;rw[show((0:Nat):Int)=0 from rfl,UM] at key;rw[key];have hm0:∀j:Nat,j<24->(List.replicate 24 false).getD j true=false:=ai
  have hiff:z6 l↔(dV l).length<=24/\(goR (List.replicate 24 false) (dV l)).isSome=true:=by
   rw[aUK,aBD _ _ rfl];have hr:(∀r∈dV l,PA r)->∀x∈(dV l).map HD,0<=x/\x<=23:=by intro q x hx;obtain⟨r,hr,rfl⟩:=AU.1 hx;exact(q r hr).1.mod.2
   constructor
   ·rintro⟨_,q1,q2,q3⟩;grind
   ·rintro⟨q1,q2,_,q3,_⟩;exact⟨h3,q1,q2,q3⟩
  by_cases q:(goR (List.replicate 24 false) (dV l)).isSome=true
  ·rw[aO q];simp only[aM,U5,U2];rw[aDC aa h];grind
  ·rw[aP q,iC (λx=>q (hiff.1 x).2)];rfl
 ·have n1:((l.length:Int) != 3)=true:=ah
  simp_all[z6]
def oK(h:Int):Prop:=h=0\/lK h
instance (h:Int):Decidable (oK h):=by unfold oK;infer_instance
def aHU(z:List Int):Prop:=z.length=3/\∀h∈z,oK h
instance (z:List Int):Decidable (aHU z):=by unfold aHU;infer_instance
theorem aN9{z:List Int}(hl:z.length<=maxLen):TD z=some (decide (aHU z)):=by
 unfold TD IJ;have e:(λy0=>LL y0)=λy:Int=>some (!decide (oK y)):=by
  funext y;unfold LL m5 xJ;rw[g8];by_cases q:y=0
  ·simp_all[oK]
  grind[oK]
 rw[e,GK hl,YV];by_cases h3:z.length=3
 ·have n:((z.length:Int) == 3)=true:=ah
  have:aHU z↔∀h∈z,oK h:=⟨λa=>a.2,λa=>⟨h3,a⟩⟩;grind
 ·have n:((z.length:Int) == 3)=false:=ah
  simp_all[aHU]
theorem aDD(l:List O)(f:O->Bool){body:Int->Option (Step Int (Out Unit Int))}(hb:∀k (hk:k<l.length),body (k:Int)=if f l[k] then some (.stop (.ret (k:Int))) else some (.next ((k+1:Nat):Int)))(he:body (l.length:Int)=some (.stop (.brk ()))) :
  ∃o,loop body 0=some o/\match o with|.brk _=>l.any f=false|.ret r=>0<=r/\l.any f=true:=by
 have key:=a2X (f:=body) l.length (λk=>(k:Int)) (λk=>if(l.drop k).any f then Out.ret ((k+(l.drop k).findIdx f:Nat):Int) else Out.brk ()) (λk hk=>by
  by_cases h:k<l.length
  ·have hd:l.drop k=l[k]::l.drop (k+1):=vY h;grind
  grind) 0 (jK _)
 grind
theorem aAD{l:List fB}(hl:l.length<=maxLen)(f:fB->Bool):jA l (λx=>some (f x))=some (l.any f):=by
 obtain⟨o,e,h⟩:=aDD l f (body:=lJ l (λx=>some (f x))) (λk hk=>by
  simp only[lJ];rw[eK,aW hk,sW (WA hk hl)];rfl) (by simp[lJ])
 grind[jA,vX,A1,A0]
theorem X6{l:List bW}(hl:l.length<=maxLen)(f:bW->Bool)(g:bW->Option Bool)(hg:∀x∈l,g x=some (f x)):iV l g=some (l.any f):=by
 obtain⟨o,e,h⟩:=aDD l f (body:=kS l g) (λk hk=>by
  simp only[kS];rw[eK,aW hk,sW (WA hk hl)];grind) (by simp[kS])
 grind[iV,tH,zX,zW]
theorem X7{l:List bG}(hl:l.length<=maxLen)(f:bG->Bool)(g:bG->Option Bool)(hg:∀x∈l,g x=some (f x)):iW l g=some (l.any f):=by
 obtain⟨o,e,h⟩:=aDD l f (body:=kU l g) (λk hk=>by
  simp only[kU];rw[eK,aW hk,sW (WA hk hl)];grind) (by simp[kU])
 grind[iW,tI,zZ,zY]
theorem contains_eq(hl:l.length<=maxLen)(v:Int):iY l v=some (decide (v∈l)):=by
 obtain⟨o,e,h⟩:=aDD l (λx=>v == x) (body:=fC l v) (λk hk=>by
  simp only[fC];rw[eK,aW hk,sW (WA hk hl)];rfl) (by simp[fC])
 have ha:l.any (λx=>v == x)=decide (v∈l):=ak
 grind[iY,m9,AA,KY]
theorem YZ{l:List bG}:x∈fK l↔∃s∈l,x∈s.aV:=aFM
section
variable {m:Mem} (hsh:iD m.Heap) (hl:(iE m.aE).length<=1073741824) (hg:m.aE.Global.length<=maxLen) (ho:m.aE.Own.length<=maxLen)
include hl hg ho
theorem aLE(s:Int):W9 m.aE s=some (decide (s∈iE m.aE)):=by grind[maxLen,W9,aN7,aN8]
theorem X8(s:Int):JF m.aE s=some (decide (s∈iE m.aE)):=by
 have hb:(1073741824:Nat)<=maxLen:=by simp[maxLen]
 have hal:=vD m.aE;have e1:∀x∈m.aE.Global,qG x s=some (decide (s∈x.aV)):=λx hx=>by have:=J0 hx;grind[qG,contains_eq]
 have e2:∀x∈m.aE.Own,qG x s=some (decide (s∈x.aV)):=λx hx=>by have:=J0 hx;grind[qG,contains_eq]
 unfold JF E9;rw[X7 hg (λx=>decide (s∈x.aV)) _ e1,X7 ho (λx=>decide (s∈x.aV)) _ e2];have a1:(m.aE.Global.any λx=>decide (s∈x.aV))=decide (s∈fK m.aE.Global):=by rw[I2];simp[YZ]
 have a2:(m.aE.Own.any λx=>decide (s∈x.aV))=decide (s∈fK m.aE.Own):=by rw[I2];simp[YZ]
 grind[iE]
def eN(m:Mem)(s:Int):Int:=if bL m.Heap s<0 then 0 else if s∈iE m.aE then 1 else if 6<kQ m.Heap s then 2 else 3
include hsh
theorem aHV(s:Int):TO m s=some (eN m s):=by grind[TO,eN,CU,aLE,vV]
theorem aHW(s:Int):LM m s=some (eN m s):=by grind[LM,eN,kO,X8,IZ]
def mO(m:Mem)(h:Int):Prop:=lK h/\eN m (h % 32)=3/\kQ m.Heap (h % 32)=h/32
instance (m:Mem) (h:Int):Decidable (mO m h):=by unfold mO;infer_instance
omit hl hg ho hsh in
theorem dO{m:Mem}(h:eN m s=3):0<=bL m.Heap s:=by grind[eN]
theorem VL(h:Int):TP m h=some (decide (mO m h)):=by
 unfold TP CN;rw[sI,jR];by_cases q:lK h
 ·have hm:=q.mod;rw[cV q,aO q];simp only[aM,bQ,aHV hsh hl hg ho];by_cases q2:eN m (h % 32)=3
  ·have n:(eN m (h % 32) == 3)=true:=ak
   have eg:NA h=some (h/32):=by grind[NA,lK,sI,cO]
   rw[n,vV hsh (dO q2),eg];simp only[bQ,aM];congr 1;rw[I2];simp only[beq_iff_eq,decide_eq_true_eq];exact⟨λa=>⟨q,q2,a⟩,λa=>a.2.2⟩
  grind[mO]
 grind[mO]
theorem GM(h:Int):xL m h=some (decide (mO m h)):=by
 unfold xL xK;rw[g8];by_cases q:lK h
 ·have hm:=q.mod;rw[cV q,hm.1];simp only[aM,bQ,aHW hsh hl hg ho];by_cases q2:eN m (h % 32)=3
  ·have n:(eN m (h % 32) == 3)=true:=ak
   have eg:bB (Int.tdiv h 32)=h/32:=by grind[lK,cO]
   rw[n,IZ hsh (dO q2),eg];simp only[bQ,aM];congr 1;rw[I2];simp only[beq_iff_eq,decide_eq_true_eq];exact⟨λa=>⟨q,q2,a⟩,λa=>a.2.2⟩
  grind[mO]
 grind[mO]
end
def PB(b:aA)(r:fB):Prop:=mO b.Mem r.Handle/\r.aK<=b.aC.aK
instance (b:aA) (r:fB):Decidable (PB b r):=by unfold PB;infer_instance
def mP(b:aA):Prop:=(lW b.Mem/\KP b.aC/\z6 b.aQ/\aHU b.qU)/\∀r∈dV b.aQ,PB b r
instance (b:aA):Decidable (mP b):=by unfold mP;infer_instance
def UA(b:aA):Prop:=DG b.Mem/\b.aC.cE.length<=1048576/\b.aQ.length<=1048576/\(dV b.aQ).length<=1048576/\b.qU.length<=1048576
theorem UA.rows{b:aA}(h:UA b):∀s∈b.aQ,s.Rows.length<=1048576:=λs hs=>by have:=YY hs;have:=h.2.2.2.1;omega
section
variable {b:aA} (hf:b.Mem.Heap.Bytes.length<=maxLen/\(iE b.Mem.aE).length<=1073741824/\b.aC.cE.length<=maxLen/\b.aQ.length<=maxLen/\(dV b.aQ).length<=1073741824/\b.qU.length<=maxLen)
include hf
theorem aLF:OW b=some (decide (mP b)):=by
 obtain⟨f1,f2,f3,f4,f5,f6⟩:=hf;unfold OW rN;rw[BN f1 f2,vF f3,CV f5,aN9 f6];by_cases q1:lW b.Mem
 ·by_cases q2:KP b.aC
  ·by_cases q3:z6 b.aQ
   ·by_cases q4:aHU b.qU
    ·have hg:b.Mem.aE.Global.length<=maxLen:=by rw[q1.1.2.1];simp[maxLen]
     have ho:b.Mem.aE.Own.length<=maxLen:=by rw[q1.1.2.2.1];simp[maxLen]
     have hmx:(1073741824:Nat)<=maxLen:=by simp[maxLen]
     simp only[cV q1,cV q2,cV q3,cV q4,aM,kW,bU,bS];have e1:(λy0=>BZ y0 b)=λr:fB=>some (!decide (PB b r)):=by funext r;unfold BZ tJ;rw[GM q1.1.1.1 f2 hg ho];grind[PB]
     have e2:∀l∈b.aQ,(λy0=>IK y0 b) l=some (!decide (∀r∈l.Rows,PB b r)):=λl hl=>by have:=YY hl;simp only[IK];rw[e1,aAD aa,YV];rfl
     rw[X6 f4 _ _ e2,YV];have hiff:mP b↔∀l∈b.aQ,∀r∈l.Rows,PB b r:=by
      constructor
      ·intro x l hl r hr;exact x.2 r (aFM.2 ⟨l,hl,hr⟩)
      ·intro x;refine⟨⟨q1,q2,q3,q4⟩,λr hr=>?_⟩;obtain⟨l,hl,hr⟩:=aFM.1 hr;grind
     grind
    grind[mP]
   grind[mP]
  grind[mP]
 grind[mP]
end
theorem UB{s:List aU}{p:aU->Bool}(hl:s.length<=4611686018427387904) :
  (∃j,∃h:j<s.length,(∀i (h:i<s.length),i<j->p s[i]=false)/\p s[j]=true/\cW s (λy=>some (p y))=some (j:Int))\/((∀i (h:i<s.length),p s[i]=false)/\cW s (λy=>some (p y))=some (-1)):=by
 rcases XY (f:=oH s (λy=>some (p y))) (p:=p) hl (λk=>by
  simp only[oH];by_cases h:k<s.length
  ·rw[dif_pos h,eK,aW h,aM,aM,eG];rfl
  grind) s.length 0 aa with ⟨j,h,_,h2,h3,h4⟩|⟨h1,h2⟩
 ·refine .inl ⟨j,h,λi hi a=>h2 i hi (jK _) a,h3,?_⟩;unfold cW;rw[show(0:Int)=((0:Nat):Int) from rfl,h4];rfl
 ·refine .inr ⟨λi hi=>h1 i hi (jK _),?_⟩;unfold cW;rw[show(0:Int)=((0:Nat):Int) from rfl,h2];rfl
theorem aFY{s:List Seen}{p:Seen->Bool}(hl:s.length<=4611686018427387904) :
  (∃j,∃h:j<s.length,(∀i (h:i<s.length),i<j->p s[i]=false)/\p s[j]=true/\eW s (λy=>some (p y))=some (j:Int))\/((∀i (h:i<s.length),p s[i]=false)/\eW s (λy=>some (p y))=some (-1)):=by
 rcases XY (f:=jB s (λy=>some (p y))) (p:=p) hl (λk=>by
  simp only[jB];by_cases h:k<s.length
  ·rw[dif_pos h,eK,aW h,aM,aM,eG];rfl
  grind) s.length 0 aa with ⟨j,h,_,h2,h3,h4⟩|⟨h1,h2⟩
 ·refine .inl ⟨j,h,λi hi a=>h2 i hi (jK _) a,h3,?_⟩;unfold eW;rw[show(0:Int)=((0:Nat):Int) from rfl,h4];rfl
 ·refine .inr ⟨λi hi=>h1 i hi (jK _),?_⟩;unfold eW;rw[show(0:Int)=((0:Nat):Int) from rfl,h2];rfl
theorem aOA{s:List aU}{p:aU->Bool}(hl:s.length<=4611686018427387904):jV s (λy=>some (p y))=some (s.filter λx=>!p x):=by
 unfold jV;rcases UB (p:=p) hl with ⟨j,h,h1,h2,h3⟩|⟨h1,h3⟩
 ·have ne:¬(((j:Int) == -1)=true):=ae
  rw[h3,aM,aP ne,eG];obtain⟨M,k,g1,g2,g3,g4⟩:=aIN (p:=p) (n:=s.length) (f:=kC (λy=>some (p y))) hl (λL i j h hn hi=>by
   simp only[kC];rw[eK,aW h,aM,aM];by_cases hp:p L[j]=true
   ·rw[aO hp,aP (by simp[hp])];grind[iI,cO]
   ·rw[aP hp,aO ak,V2,aM];grind[iI,cO]) (λL i j h=>by
   simp_all[kC]) (s.length-(j+1)) s j (j+1) aa rfl aa
  grind[xP,xO,bZ,eX,aO1,aUD]
 ·rw[h3,aM,aO an,List.filter_eq_self.2];grind[QP]
theorem aRL{O:Type}{q:O->Bool}:∀{s:List O} {j:Nat} (h:j<s.length),(∀i (h:i<s.length),i<j->q s[i]=true)->q s[j]=false->s.takeWhile q=s.take j/\s.dropWhile q=s.drop j
 |[],j,h,_,_=>by cases h
 |x::r,0,h,_,h2=>by simp_all
 |x::r,j + 1,h,h1,h2=>by have hx:q x=true:=h1 0 (Nat.zero_lt_succ _) (Nat.zero_lt_succ _);have:=aRL (s:=r) (j:=j) ak (λi hi hj=>h1 (i+1) aa aa) h2;simp_all
theorem bIN{q:O->Bool}{s:List O}(h:∀i (h:i<s.length),q s[i]=true):s.takeWhile q=s/\s.dropWhile q=[]:=by
 have h':∀x∈s,q x=true:=λx hx=>by grind[QP]
 clear h;induction s with
 |nil=>simp
 |cons x r ih=>
  simp_all
def vG(l:List aU)(x:aU):List aU:=
 (l.filter λy=>!(y.Key == x.Key)).takeWhile (λy=>!decide (x.Key<y.Key))++[x]++(l.filter λy=>!(y.Key == x.Key)).dropWhile (λy=>!decide (x.Key<y.Key))
theorem aE3{l:List aU}(hl:l.length<=1000)(x:aU):IU l x=some (vG l x):=by
 unfold IU nG vG;rw[MA];simp only[aM,QT];have hd:jV l (λy0=>KB y0 x)=some (l.filter λy=>!(y.Key == x.Key)):=aOA (p:=λy=>y.Key == x.Key) aa;rw[hd,aM];have hlen:(l.filter λy=>!(y.Key == x.Key)).length<=1000:=lX (aYW _ _) hl;generalize (l.filter λy=>!(y.Key == x.Key))=o at hlen ⊢;have hi:(∃j,∃h:j<o.length,(∀i (h:i<o.length),i<j->decide (x.Key<o[i].Key)=false)/\decide (x.Key<o[j].Key)=true/\cW o (λy0=>B8 y0 x)=some (j:Int))\/((∀i (h:i<o.length),decide (x.Key<o[i].Key)=false)/\cW o (λy0=>B8 y0 x)=some (-1)):=UB (p:=λy=>decide (x.Key<y.Key)) aa;rcases hi with ⟨j,h,h1,h2,h3⟩|⟨h1,h3⟩
 ·obtain⟨t1,t2⟩:=aRL (q:=λy:aU=>!decide (x.Key<y.Key)) h (λi hi a=>ak) (by simp[h2]);rw[h3,aM,gJ,t1,t2];grind[rT,qX,bZ]
 ·obtain⟨t1,t2⟩:=bIN (s:=o) (q:=λy:aU=>!decide (x.Key<y.Key)) (λi hi=>ak);rw[h3,aM,aO ai,t1,t2];grind[rT,qX,bZ,List.drop_length]
def OB(l:List aU)(k:Int):aU×Bool:=match l.find? (λy=>y.Key == k) with|some x=>(x,true)|none=>(⟨0,false,0⟩,false)
theorem aLG{p:O->Bool}{s:List O}{j:Nat}(h:j<s.length)(h1:∀i (h:i<s.length),i<j->p s[i]=false)(h2:p s[j]=true):s.find? p=some s[j]:=by grind[List.find?_eq_some_iff_getElem]
theorem a0Q{p:O->Bool}{s:List O}(h1:∀i (h:i<s.length),p s[i]=false):s.find? p=none:=by grind[QP]
theorem aHX{l:List aU}(hl:l.length<=1000)(k:Int):LS l k=some (OB l k):=by
 unfold LS OB;have hi:(∃j,∃h:j<l.length,(∀i (h:i<l.length),i<j->(l[i].Key == k)=false)/\(l[j].Key == k)=true/\cW l (λy0=>FM y0 k)=some (j:Int))\/((∀i (h:i<l.length),(l[i].Key == k)=false)/\cW l (λy0=>FM y0 k)=some (-1)):=UB (p:=λy=>y.Key == k) aa;rcases hi with ⟨j,h,h1,h2,h3⟩|⟨h1,h3⟩
 ·rw[h3,aM,gJ,aW h,aLG (p:=λy:aU=>y.Key == k) h h1 h2];rfl
 simp_all[a0Q]
def nS(l:List Seen)(b v:Int):List Seen×Bool:=match l.find? (λy=>y.bR == b) with|some x=>(l,x.eB == v)|none=>(l++[⟨b,v⟩],true)
theorem aHY{l:List Seen}(hl:l.length<=1000)(b v:Int):LV l b v=some (nS l b v):=by
 unfold LV pG nS;rw[MA];simp only[aM,QT];have hi:(∃j,∃h:j<l.length,(∀i (h:i<l.length),i<j->(l[i].bR == b)=false)/\(l[j].bR == b)=true/\eW l (λy0=>FR y0 b)=some (j:Int))\/((∀i (h:i<l.length),(l[i].bR == b)=false)/\eW l (λy0=>FR y0 b)=some (-1)):=aFY (p:=λy=>y.bR == b) aa;rcases hi with ⟨j,h,h1,h2,h3⟩|⟨h1,h3⟩
 ·rw[h3,aM,gJ,aW h,aLG (p:=λy:Seen=>y.bR == b) h h1 h2];rfl
 ·rw[h3,aM,aO ai,MA,a0Q (p:=λy:Seen=>y.bR == b) h1]
def fU(l:List aU)(n:Int):Int:=(((l.take n.toNat).filter λx=>!x.G3).length:Int)
theorem aXJ(l:List aU)(n:Int):(l.take ((if(if(l.length:Int)<n then(l.length:Int) else n)<0 then 0 else(if(l.length:Int)<n then(l.length:Int) else n)).toNat)).drop 0=l.take n.toNat:=by
 (simp_all;omega)
theorem aDE{l:List aU}(hl:l.length<=1000)(n:Int):RU l n=some (fU l n):=by
 unfold RU fU;rw[VH];have hc:=aXJ l n;obtain⟨s,hs⟩:∃s,s=l.take n.toNat:=⟨_,rfl⟩;have hsl:s.length<=1000:=ak
 rw[show((0:Int),(0:Int))=((((s.take 0).filter λx=>!x.G3).length:Int),((0:Nat):Int)) from rfl,
  iS s.length (λk=>((((s.take k).filter λx=>!x.G3).length:Int),(k:Int))) (((s.filter λx=>!x.G3).length:Nat):Int) (λk hk=>by
   have ht:s.take (k+1)=s.take k++[s[k]]:=I6 hk;have hle:((s.take k).filter λx=>!x.G3).length<=1000:=lX (aYW _ _) ak;simp only[TF,hc,<-hs];rw[eK,aW hk,aM,ht,aFH];cases hd:s[k].G3
   ·rw[aO an,eG];simp only[FT];rw[eG];simp[hd]
   ·rw[gJ];grind[FT,cO]) (by
   simp only[TF,hc,<-hs];simp)]
 rw[hs];rfl
def jD(k:Int):Int:=if 0<=k/\k<=99 then k % 2 else -1
theorem QF(k:Int):HQ k=some (jD k):=by unfold HQ jD;rw[dN,aM];grind
def m0(l:List aU):List Int:=(if l.any (λx=>x.Key % 2 == 0) then [0] else [])++(if l.any (λx=>x.Key % 2 == 1) then [1] else [])
theorem aXK(hs:l.Pairwise (· < ·))(hm:∀x∈l,x=0\/x=1):l=(if 0∈l then [0] else [])++(if 1∈l then [1] else []):=by
 match l,hs,hm with
 |[],_,_=>rfl
 |[x],_,hm=>rcases hm x ae with rfl|rfl<;>rfl
 |[x,y],hs,hm=>
  have hxy:x<y:=ak
  rcases hm x ae with rfl|rfl<;>rcases hm y ae with rfl|rfl<;>first|omega|rfl
 |x::y::z::r,hs,hm=>
  (simp_all;omega)
theorem aHZ{l:List aU}(hl:l.length<=12)(hk:∀x∈l,0<=x.Key/\x.Key<=99):LW l=some (m0 l):=by
 unfold LW;rw[show(([]:List Int),(0:Int))=((l.take 0).map (λx=>x.Key % 2),((0:Nat):Int)) from rfl,
  iS l.length (λk=>((l.take k).map (λx=>x.Key % 2),(k:Int))) (l.map λx=>x.Key % 2) (λk hlt=>by
   have ht:l.take (k+1)=l.take k++[l[k]]:=I6 hlt;have hkk:=hk l[k] (cY hlt);simp only[KE];rw[eK,aW hlt,aM,QF,aM];unfold jD;rw[aO hkk,eK,MA,ht,o7];grind[CB,cO]) (by
   simp[KE]),aM]
 simp only[U7,KD];obtain⟨y,h1,h2,h3⟩:=a75 (x:=l.map λx=>x.Key % 2) ak (by grind[aXD]);rw[h1,aM];obtain⟨c1,c2⟩:=aUG h3;have hmem:∀a,a∈D2 y↔∃x∈l,x.Key % 2=a:=λa=>ak
 have h01:∀a∈D2 y,a=0\/a=1:=λa ha=>ak
 show some (D2 y)=_;rw[aXK c1 h01];grind[m0]
theorem aRM(l:List aU):(m0 l).length<=2:=by grind[m0]
theorem NQ{l:List aU}{b:Int}(h:b∈m0 l):b=0\/b=1:=by grind[m0]
theorem aXL(l:List aU):(m0 l).Nodup:=by grind[m0]
theorem aLH{f:(List O×Int)->Option (Step (List O×Int) (List O))}(l:List O)
  (h:∀k (hk:k<l.length),f (l.take k,(k:Int))=some (.next (l.take k++[l[k]],((k+1:Nat):Int)))) (he:f (l,(l.length:Int))=some (.stop l)):loop f ([],0)=some l:=by
 have:=iS (f:=f) l.length (λk=>(l.take k,(k:Int))) l (λk hk=>by simp_all) ak;grind
theorem Y0{f:(Int×List O)->Option (Step (Int×List O) (List O))}(l:List O)
  (h:∀k (hk:k<l.length),f ((k:Int),l.take k)=some (.next (((k+1:Nat):Int),l.take k++[l[k]]))) (he:f ((l.length:Int),l)=some (.stop l)):loop f (0,[])=some l:=by
 have:=iS (f:=f) l.length (λk=>((k:Int),l.take k)) l (λk hk=>by simp_all) ak;grind
theorem pX(h:l.length<=1073741824):gE l=some l:=by grind[gE,bZ]
theorem aRN{l:List wQ}(h:l.length<=1073741824):yU l=some l:=by grind[yU,bZ]
theorem aOB{l:List fB}(h:l.length<=1073741824):wC l=some l:=by grind[wC,bZ]
theorem QG{l:aE}(h1:l.Global.length<=1048576)(h2:l.Own.length<=1048576)(h3:∀s∈l.Global,s.aV.length<=1048576)(h4:∀s∈l.Own,s.aV.length<=1048576):i7 l=some l:=by
 unfold i7;rw[Y0 l.Global]
 ·simp only[aM,OU,OT];rw[Y0 l.Own]
  ·rfl
  ·intro k hk;have:=h4 _ (cY hk);simp only[ER];rw[eK,aW hk];simp only[aM];rw[pX aa,aM,MA,EP,eG];rfl
  grind[ER]
 ·intro k hk;have:=h3 _ (cY hk);simp only[ET];rw[eK,aW hk];simp only[aM];rw[pX aa,aM,MA,ES,eG];rfl
 grind[ET]
theorem UC(h1:h.Bytes.length<=1048576)(h2:h.Class.length<=1048576):vK h=some h:=by unfold vK;rw[pX aa,pX aa];rfl
theorem PC(h:DG m):pE m=some m:=by have a:=UC h.1 h.2.1;have b:=QG h.2.2.1 h.2.2.2.1 h.aUH.1 h.aUH.2;simp_all[pE]
theorem m7{c:aC}(h:c.cE.length<=1048576):zI c=some c:=by unfold zI;rw[MA];rfl
theorem BO{c:aC}(h:c.cE.length<=1048576):lP c=some c:=by unfold lP;rw[aRN aa];rfl
theorem QH{l:List bW}(hl:l.length<=1048576)(hs:∀s∈l,s.Rows.length<=1048576):lQ l=some l:=by
 unfold lQ;rw[aLH l]
 ·rfl
 ·intro k hk;have:=hs _ (cY hk);simp only[EU];rw[eK,aW hk];simp only[aM];rw[aOB aa,aM,MA,eG];rfl
 grind[EU]
theorem aRO{b:aA}(h:UA b):IE b=some b:=by have m:=PC h.1;have c:=BO h.2.1;have l:=QH h.2.2.1 h.rows;have:=h.2.2.2.2;unfold IE;rw[m,c,l,pX aa];rfl
theorem pY(w:Int):iO w=some (decide (0<=w/\w<=2)):=by grind[iO,dN]
section
variable {c:aC} (hc:KP c) {w:Int} (hw:0<=w/\w<=2)
include hc
theorem KP.small:c.cE.length<=1048576/\c.cE.length<=maxLen:=by have:=hc.2.1;grind[maxLen]
theorem KP.aRP{p:wQ}(hp:POk c.aK p):KP ⟨c.aK,c.cE.set k p⟩:=⟨hc.1,by simpa using hc.2.1,λq hq=>(o8 hq).elim (hc.2.2 q) (λe=>e ▸ hp)⟩
theorem KP.later(h:c.aK+1<=100000):KP ⟨c.aK+1,c.cE⟩:=by
 have h1:=hc.1;exact⟨⟨ak,h⟩,hc.2.1,λq hq=>by
  obtain⟨a,b,d⟩:=hc.2.2 q hq;exact⟨⟨a.1,ak⟩,b,d⟩⟩
include hw
theorem aXM:∃p,idx c.cE w=some p/\POk c.aK p:=by have h3:=hc.2.1;rw[gP hw.1 aa];exact⟨_,rfl,hc.2.2 _ (cY _)⟩
theorem a26(e:Int):∃r,JU c w e=some r/\OY c w e=some r/\KP r.1/\r.1.aK=c.aK:=by
 obtain⟨p,hp,h1,⟨hs0,hs1⟩,h2⟩:=aXM hc hw;have h3:=hc.2.1;unfold JU OY;rw[m7 hc.small.1,BO hc.small.1,kP,vF hc.small.2,pY,fH,cV hc,cV hw];simp only[aM,kW,bU,bS,GC,FI,hp];cases h4:p.On
 ·exact⟨_,rfl,rfl,hc,rfl⟩
 ·cases h5:p.gO
  ·by_cases h6:p.aK=e
   ·simp_all[sC,rS]
   ·have h6':(p.aK == e)=false:=ak
    simp only[sC,rS,h6',kW,bU,bS,hp,aM];by_cases h7:p.Seen=2
    ·simp only[h7,beq_self_eq_true,bQ,show ¬((2:Int)<2) by omega,decide_false,bU,bS];exact⟨_,rfl,rfl,hc.aRP ⟨h1,ae,λq=>ak⟩,rfl⟩
    ·have h7':(p.Seen == 2)=false:=ak
     simp only[h7',show p.Seen<2 by omega,decide_true,bQ,bU,bS];have hw7:bB (p.Seen+1)=p.Seen+1:=eG;exact⟨_,rfl,rfl,hc.aRP ⟨h1,ak,λq=>ak⟩,rfl⟩
  ·exact⟨_,rfl,rfl,hc,rfl⟩
theorem a8A(e:Int):∃r,NF c w e=some r/\TE c w e=some r/\(KP r.1/\r.1.aK=c.aK)/\(r.2=false->r.1=c):=by
 obtain⟨p,hp,hpk⟩:=aXM hc hw;have h3:=hc.2.1;unfold NF TE;rw[m7 hc.small.1,BO hc.small.1,kP,vF hc.small.2,pY,fH,fH,dN,cV hc,cV hw];simp only[aM,kW,bU,bS,BF,A5,hp];by_cases h:0<=e/\e<=c.aK
 ·simp only[cV h,kW,bU,bS];exact⟨_,rfl,rfl,⟨hc.aRP ⟨h,ae,λq=>by cases q⟩,rfl⟩,λq=>by cases q⟩
 simp_all[iC]
omit hw in
theorem bDI(e:Int):∃r,R1 c e=some r/\YU c e=some r/\KP r.1/\c.aK<=r.1.aK:=by
 have h3:=hc.2.1;unfold R1 YU;rw[m7 hc.small.1,BO hc.small.1,kP,vF hc.small.2,cV hc];simp only[aM,kW,bU,bS,GD,FJ];by_cases h:c.aK=e
 ·subst h;simp only[bne_self_eq_false,bU,bS];by_cases h:c.aK=100000
  ·simp_all
  ·have h':(c.aK == 100000)=false:=ak
   have hE:=hc.1;have hw7:bB (c.aK+1)=c.aK+1:=eG;simp only[h',bU,bS,hw7];exact⟨_,rfl,rfl,hc.later aa,ak⟩
 simp_all
end
theorem bIO{b:aA}(hc:KP b.aC){w:Int}(hw:0<=w/\w<=2)(s:Sub) :
  ∃x y,JV b w s=some (x,y)/\y8 s b w=some (y,x)/\∃cl,x=⟨b.Mem,cl,b.aQ,b.qU⟩/\KP cl/\b.aC.aK<=cl.aK:=by
 obtain⟨r,e1,e2,h3,h4⟩:=a8A hc hw s.E;unfold JV y8;rw[e1,e2];simp only[bP,bJ,AE,aM];by_cases p0:s.Pc=0
 ·simp only[p0,beq_self_eq_true,bQ];exact⟨_,_,rfl,rfl,_,rfl,hc,aa⟩
 ·have p0':(s.Pc == 0)=false:=ak
  simp only[p0',bU,bS];by_cases p1:s.Pc=1
  ·simp only[p1,beq_self_eq_true,bQ];cases h:r.2
   ·rw[h4 h];exact⟨_,_,rfl,rfl,_,rfl,hc,aa⟩
   ·exact⟨_,_,rfl,rfl,_,rfl,h3.1,aa⟩
  ·have p1':(s.Pc == 1)=false:=ak
   simp only[p1',bU,bS];by_cases p2:s.Pc=2
   ·simp only[p2,beq_self_eq_true,bQ];by_cases q:b.aC.aK=s.E
    ·simp only[q,beq_self_eq_true,bQ];exact⟨_,_,rfl,rfl,_,rfl,hc,aa⟩
    ·have q':(b.aC.aK == s.E)=false:=ak
     simp only[q',bU,bS];exact⟨_,_,rfl,rfl,_,rfl,hc,aa⟩
   ·have p2':(s.Pc == 2)=false:=ak
    simp only[p2',bU,bS];exact⟨_,_,rfl,rfl,_,rfl,hc,aa⟩
theorem aXN{b:aA}(hc:KP b.aC)(s:Sub) :
  ∃x y,uZ b s=some (x,y)/\pM s b=some (y,x)/\∃cl,x=⟨b.Mem,cl,b.aQ,b.qU⟩/\KP cl/\b.aC.aK<=cl.aK:=by
 obtain⟨r2,e3,e4,h4⟩:=bDI hc s.E;unfold uZ pM mA;rw[e3,e4,fH,pY];simp only[bP,bJ,tZ,uA,l9,aM];by_cases p0:s.Pc=0
 ·simp only[p0,beq_self_eq_true,bQ];exact⟨_,_,rfl,rfl,_,rfl,hc,aa⟩
 ·have p0':(s.Pc == 0)=false:=ak
  simp only[p0',bU,bS];by_cases p1:s.Pc=1
  ·simp only[p1,beq_self_eq_true,bQ,show((1:Int) == 2)=false from rfl,bU,bS];by_cases hB:0<=s.B/\s.B<=2
   ·obtain⟨r,e1,e2,h3,h3'⟩:=a26 hc hB s.E;simp only[cV hB,kW,bU,bS,bQ,e1,e2,aM];cases h:r.2
    ·exact⟨_,_,rfl,rfl,_,rfl,h3,aa⟩
    ·by_cases q:bB (s.B+1)=3
     ·simp only[q,beq_self_eq_true,bQ,kW,bU,bS];exact⟨_,_,rfl,rfl,_,rfl,h3,aa⟩
     ·have q':(bB (s.B+1) == 3)=false:=ak
      simp only[q',kW,bU,bS];exact⟨_,_,rfl,rfl,_,rfl,h3,aa⟩
   ·simp only[iC hB,SQ,bU,bS,bQ];exact⟨_,_,rfl,rfl,_,rfl,hc,aa⟩
  ·have p1':(s.Pc == 1)=false:=ak
   simp only[p1',bU,bS];by_cases p2:s.Pc=2
   ·simp only[p2,beq_self_eq_true,bQ];cases h:r2.2
    ·simp only[bU,bS];exact⟨_,_,rfl,rfl,_,rfl,h4⟩
    ·simp only[bQ];exact⟨_,_,rfl,rfl,_,rfl,h4⟩
   ·have p2':(s.Pc == 2)=false:=ak
    simp only[p2',bU,bS];exact⟨_,_,rfl,rfl,_,rfl,hc,aa⟩
end Go.Gv
end
