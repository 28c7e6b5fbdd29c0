import Derived.Test.YtgijbgopcmohhaaGreatXWE
set_option linter.unusedVariables false
set_option linter.unusedSimpArgs false
set_option linter.unusedSectionVars false
set_option linter.constructorNameAsVariable false
set_option linter.unnecessarySimpa false
noncomputable section
set_option maxHeartbeats 4000000
set_option maxRecDepth 100000
namespace Go.Proofs.YtgijbgopcmohhaaGreat
open Go.Gv Tryz
noncomputable section
variable {κ:Ctx}
theorem aP8{l:aD}{w_ c slot:Int}{s1 s2:AC}(h1:bS κ s1 l.Global)(h2:bS κ s2 l.Own):VS prog κ 231 (aCY l w_ c slot) [.g [.h s1 l.Global.length,.h s2 l.Own.length],I w_,I c,I slot] [] [] (fun r (y:AC×AC)=>.t [.g [.h y.1 r.1.Global.length,.h y.2 r.1.Own.length],.b r.2]) (fun r y=>[ow y.1 r.1.Global,ow y.2 r.1.Own]):=
 dA tok call231 func231 results231 Q Q<|c1 Q (fun h=>jQ (h.a h1) (h.a h2)) fun x1 s3=>c0 Q (fun _=>aBA) fun x2=>gY 0 3 (xR c slot x1 x2) [2,3,8,10,11] 34 [1,2,3,4] Q (c0 Q (fun h=>EW (h.a h1) (h.a h2)) fun x6=>gX [20,21] Q Q (cO [1,2,3,4] Q Q)<|gX [23,24,25] Q Q (cO [1,2,3,4] Q Q)<|c0 Q (fun _=>HK) fun x7=>gX [28,29,30] Q Q (cO [1,2,3,4] Q Q)<|c0 Q (fun h=>YL (h.a h1) (h.a h2)) fun x8=>cO [1,2,3,4] Q Q) fun x3=>cA [34] Q Q (lY (s3.1,s3.2) [1,2] Q Q)<|sG CD 2 Q Q Q fun x4 h3 s4 h4=>fun hF=>nK 3 h4 h3 Q Q Q Q Q<|wi hF<|cA [45] Q Q (sG CD 1 Q Q Q fun x5 h5 s5 h6=>fun hF=>nK 4 h6 h5 Q Q Q Q Q<|lt1 Q bW Q Q Q Q fun s6=>ap 11 bW Q Q Q Q Q Q Q (fun h=>(h.o 12 Q)) Q Q hF fun hF s7=>sR Q<|nR CD 8 [11] [47] (⟨x5.aT++([slot])⟩:aW) s7 Q Q Q Q Q Q Q Q<|qV s3.1 cR.symm [(60,0)] [(0,0),(3,0)] Q Q Q<|kD CD 4 [7] h3 s4 Q Q Q Q Q Q Q<|fR Q Q<|qU (hT:=tok) (s3.1,s3.2) [13,14] hF Q results231 Q Q Q Q)<|fun hF=>lt1 Q bW Q Q Q Q fun s8=>ap 7 bW Q Q Q Q Q Q Q (fun h=>(h.o 8 Q)) Q Q hF fun hF s9=>sR Q<|nR CD 4 [7] [37] (⟨x4.aT++([slot])⟩:aW) s9 Q Q Q Q Q Q Q Q<|qV s3.2 cR.symm [(60,1)] [(0,1),(3,1)] Q Q Q<|fR Q Q<|qU (hT:=tok) (s3.1,s3.2) [1,9] hF Q results231 Q Q Q Q
theorem aBC{m:Mem}{w_ h:Int}{s1 s2 s3 s4:AC}(h1:bS κ s1 m.Heap.Bytes)(h2:bS κ s2 m.Heap.Class)(h3:bS κ s3 m.aD.Global)(h4:bS κ s4 m.aD.Own):VS prog κ 193 (LR m w_ h) [.g (gM m s1 s2 s3 s4),I w_,I h] [] [] (fun r (y:A4C)=>.g (yM r y)) (fun r y=>(zM r y [])):=
 dA tok call193 func193 results193 Q Q<|c1 Q (fun h=>aK3 (h.a h1) (h.a h2)) fun x1 s5=>eN 0 4 (OW m w_ h) [1,3,6,7,8] (fun(x2:Mem) (u:AC×AC)=>[(11,.p 3 0)]) [0,1] (fun x2 u=>(oM x2 s5.1 s5.2 u.1 u.2 [.box 3 (gM x2 s5.1 s5.2 u.1 u.2)])) Q (jY aH [0,1,4] Q<|fun hF=>bd hF fun x6 hA1 hF=>cG Q Q (iS hA1 Q (fun h=>jQ (h.a h3) (h.a h4)) fun s12=>wi hF<|lZ (p:=((⟨x1.1,x6⟩:Mem))) (s12.1,s12.2) [2,3,5,6,7,0,1] Q Q) (iS hA1 Q (fun h=>jQ (h.a h3) (h.a h4)) fun s13=>wi hF<|lZ (p:=((⟨x1.1,x6⟩:Mem))) (s13.1,s13.2) [2,3,6,7,5,0,1] Q Q)) fun x2 ⟨s6,s7⟩=>eN 0 4 OV [6,11] (fun(x3:Mem) (u:AC×AC)=>[]) [6] (fun x3 u=>(oM x3 s5.1 s5.2 u.1 u.2 [.box 3 (gM x3 s5.1 s5.2 u.1 u.2)])) Q (cA [31] Q Q (jY aH [5,6] Q<|c0 Q (fun h=>oE (h.a h1) (h.a h2)) fun x4=>c1 Q (fun h=>aP8 (h.a h3) (h.a h4)) fun x5 s10=>lZ (s10.1,s10.2) [0,1,7,8,4,6] Q Q)<|lZ (s6,s7) [0,1,2,3,4,6] Q Q) fun x3 ⟨s8,s9⟩=>lY (s5.1,s5.2,s8,s9) [0,1,2,3] Q Q
theorem YN{l:List bI}{w_ i:Int}{s1:AC}(h1:bS κ s1 l):V0 prog κ 215 (H5 l w_ i) [.h s1 l.length,I w_,I i] .b:=
 dA tok call215 func215 results215 Q Q<|gY 0 0 D9 [] 6 [] Q (c0 Q (fun _=>iO) fun x2=>gX [8,9] Q Q (HU aC1 Q h1 Q fun x3 s2 h2=>c0 Q (fun _=>bL) fun x4=>cO [] Q Q)<|cO [] Q Q) fun x1=>eD Q Q
theorem aD6{r_:eE}{e_:Int}:V0 prog κ 217 (QQ r_ e_) [.g [I r_.Handle,I r_.aG],I e_] .b:=
 dA tok call217 func217 results217 Q Q<|gY 0 1 KE [] 4 [] Q (gX [6,7] Q Q (cO [] Q Q)<|cO [] Q Q) fun x1=>eD Q Q
theorem XY{s:Sub}{b:aC}{w_:Int}{s1 s2 s3 s4 s5 s6 s7:AC}{b0 b1:Nat×Nat}:VS prog κ 216 (pI s b w_) [.p 0 0,.p 1 0,I w_] [b0,b1] ([.box 0 [I s.Kind,I s.A,I s.Pc,I s.E,I s.Row,I s.B,I s.H,I s.Out,I s.Code,.b s.cJ],.box 1 (gB b s1 s2 s3 s4 s5 s6 s7)]++(oBs b s1 s2 s3 s4 s5 s6 s7 [])) (fun(r:Sub×aC) (y:Unit)=>.t []) (fun(r:Sub×aC) (y:Unit)=>([.box 0 [I r.1.Kind,I r.1.A,I r.1.Pc,I r.1.E,I r.1.Row,I r.1.B,I r.1.H,I r.1.Out,I r.1.Code,.b r.1.cJ],.box 1 (gB r.2 s1 s2 s3 s4 s5 s6 s7)]++(oBs r.2 s1 s2 s3 s4 s5 s6 s7 []))):=
 dA tok call216 func216 results216 Q Q<|fun hF=>bB3 Q Q Q Q<|wi hF<|XM 6 [0,1,2] [0,2,3,4,5,6,7,8,1] Out.brk [0,1] [0,2,3,4,5,6,7,8,1] Q Q (fun hF1 x2 hr1=>sG GK 6 Q Q Q fun x4 h1 s8 h2=>fun hG1=>nK 2 h2 h1 Q Q Q Q Q<|wi hG1<|cA [23] Q Q (fun hG1=>nK 2 h2 h1 Q Q Q Q Q<|wi hG1<|sG aD5 12 Q Q Q fun x5 h3 _ h4=>fun hG1=>nK 3 h4 h3 Q Q Q Q Q<|wi hG1<|jY aH [0,8,11,15,16] Q<|c0 Q (fun _=>aD6) fun x6=>cA [42] Q Q (jY aH [8,11,15,16] Q<|fun hG1=>sR Q<|kD aD5 13 [] h3 () Q Q Q Q Q Q Q<|kD GK 9 [17] h1 s8 Q Q Q Q Q Q Q<|fR Q Q<|qU (hT:=tok) () [0,8,1,2,3,4,5,18,7] (re hG1 Q hr1 hF1) Q results216 Q Q Q Q)<|fun hG1=>sF Q<|kD aD5 13 [] h3 () Q Q Q Q Q Q Q<|kD GK 9 [17] h1 s8 Q Q Q Q Q Q Q<|fR Q Q<|nxR () [0,1,2,3,4,5,18,7,8] hG1 Q)<|fun hG1=>sX Q<|kD GK 9 [12] h1 s8 Q Q Q Q Q Q Q<|bkR () [0,1,2,3,4,5,13,7,8] hG1 hr1 Q)<|wm (F:=H6 s b) Q<|eV 0 0 0 10 [] Q Q Q Q Q (fun _=>cY) fun x3 _=>FC () [0,8,1,2,3,4,5,6,7] Q Q
theorem VO{s:List eE}{i j:Int}{s1:AC}:VS prog κ 246 (BX s i j) [.h s1 s.length,I i,I j] [] [ow s1 (s:List eE)] (fun(r:(List eE)) (y:AC)=>.h y r.length) (fun(r:(List eE)) (y:AC)=>[ow y r]):=
 dA tok call246 func246 results246 Q Q<|fun hF=>cpc 0 Q Q fun hc1=>aSH hc1 Q Q Q Q Q Q Q Q hF fun hF h1=>wi hF<|cA [16] Q Q (lY s1 [0] Q Q)<|jY aH [] Q<|fun hF=>aW6 hc1 Q Q Q Q Q Q hF fun hF h2=>aNH hc1 Q Q Q Q Q Q hF fun hF h3=>nd hF fun hab hF=>ap2 0 i.toNat j.toNat ⟨hab,h3.1⟩ Q Q Q Q Q Q Q Q Q fun h4=>a1A 0 (i.toNat+(s.length - j.toNat)) h4.2 (xH h4.1 h4.2) Q Q Q Q Q Q Q Q Q hF fun hF h5=>clr 0 (((((cT s i.toNat (s.drop j.toNat)).take (i.toNat+(s.length - j.toNat))).drop 0).length:Int).toNat) ((s.length:Int).toNat) ((⟨0,0⟩:eE):eE) h5 IH Q (fun _=>(a58 (⟨0,0⟩:eE))) Q Q Q Q Q Q Q Q<|sR Q<|poR 0 0 (i.toNat+(s.length - j.toNat)) Q Q (aSG h4 (tN h5.1 h5.2)) (aNI (SZ (by rw[K7,xH h4.1 h4.2];rfl)) (tN h5.1 h5.2))<|qU (hT:=tok) (AC.sub s1 2 0) [0] hF Q results246 Q Q Q Q
theorem aIJ{l:List bI}{w_ i:Int}{s1:AC}(h1:bS κ s1 l):VS prog κ 218 (KF l w_ i) [.h s1 l.length,I w_,I i] [] [] (fun r (y:AC)=>.t [.h y r.1.length,.b r.2]) (fun r y=>[ow y r.1]):=
 dA tok call218 func218 results218 Q Q<|c1 Q (fun h=>rS (h.a h1)) fun x1 s2=>gY 0 0 (AZ w_ i x1) [1,2,8] 20 [0] Q (c0 Q (fun h=>EX (h.a h1)) fun x5=>gX [13,14] Q Q (cO [0] Q Q)<|c0 Q (fun h=>YN (h.a h1)) fun x6=>cO [0] Q Q) fun x2=>cA [20] Q Q (lY s2 [0] Q Q)<|sG GK 0 Q Q Q fun x3 h2 s3 h3=>fun hF=>nK 0 h3 h2 Q Q Q Q Q<|wi hF<|MT [4] Q Q Q Q (fun _=>VO) fun x4 s4=>fun hF=>nK 0 h3 h2 Q Q Q Q Q<|sR Q<|nR GK 1 [5] [6,8,22,24,35] (⟨x4⟩:bI) s4 Q Q Q Q Q Q Q Q<|qU (hT:=tok) s2 [6] hF Q results218 Q Q Q Q
theorem SG{s:Sub}{b:aC}{w_:Int}{s1 s2 s3 s4 s5 s6 s7:AC}{b0 b1:Nat×Nat}:VS prog κ 173 (pJ s b w_) [.p 0 0,.p 1 0,I w_] [b0,b1] ([.box 0 [I s.Kind,I s.A,I s.Pc,I s.E,I s.Row,I s.B,I s.H,I s.Out,I s.Code,.b s.cJ],.box 1 (gB b s1 s2 s3 s4 s5 s6 s7)]++(oBs b s1 s2 s3 s4 s5 s6 s7 [])) (fun(r:Sub×aC) (y:A5C)=>.t []) (fun(r:Sub×aC) (y:A5C)=>([.box 0 [I r.1.Kind,I r.1.A,I r.1.Pc,I r.1.E,I r.1.Row,I r.1.B,I r.1.H,I r.1.Out,I r.1.Code,.b r.1.cJ],.box 1 (gB r.2 y.1 y.2.1 y.2.2.1 y.2.2.2.1 s5 y.2.2.2.2 s7)]++(oBs r.2 y.1 y.2.1 y.2.2.1 y.2.2.2.1 s5 y.2.2.2.2 s7 []))):=
 dA tok call173 func173 results173 Q Q<|gY 0 2 (gE s b w_) [0,1,2] 6 [0,2,3,4,5,6,7,8,1] Q (jY aH [0,1] Q<|c0 Q (fun h=>YN (h.o 7 Q)) fun x13=>gX [16,17] Q Q (sG GK 7 Q Q Q fun x14 h7 s11 h8=>fun hF=>nK 2 h8 h7 Q Q Q Q Q<|wi hF<|sG aD5 12 Q Q Q fun x15 h9 _ h10=>fun hF=>nK 3 h10 h9 Q Q Q Q Q<|sF Q<|kD aD5 13 [] h9 () Q Q Q Q Q Q Q<|kD GK 9 [16] h7 s11 Q Q Q Q Q Q Q<|fR Q Q<|nJ () [0,2,3,4,5,6,17,8,1] hF Q)<|cO [0,2,3,4,5,6,7,8,1] Q Q) fun x1=>cA [41,46] Q Q (FC (s1,s2,s3,s4,s6) [0,8,1,2,3,4,5,6,7] Q Q)<|cA [61,66] Q Q (aNJ 0 0 0 10 8 1 0 8 [1,2,3,4,5,6,7] Q Q Q Q Q (fun _=>XY) fun x2 _=>FC (s1,s2,s3,s4,s6) [0,8,9,10,11,12,13,14,15] Q Q)<|gY 0 2 (eU s b w_ x1) [0,1,2,6] 71 [0,1,2,3,4,5,6,7,8] Q (gX [76,77] Q Q (c0 Q (fun _=>iO) fun x12=>gX [82,83,84] Q Q (cO [0,1,2,3,4,5,6,7,8] Q Q)<|cO [0,1,2,3,4,5,6,7,8] Q Q)<|cO [0,1,2,3,4,5,6,7,8] Q Q) fun x3=>cA [71] Q Q (jY aH [0,8] Q<|sG oI 7 Q Q Q fun x4 h1 _ h2=>fun hF=>nK 2 h2 h1 Q Q Q Q Q<|wi hF<|cA [101] Q Q (fun hF=>sR Q<|kD oI 9 [] h1 () Q Q Q Q Q Q Q<|qU (hT:=tok) (s1,s2,s3,s4,s6) [0,8,1,2,3,4,5,6,12] hF Q results173 Q Q Q Q)<|cA [124] Q Q (fun hF=>sF Q<|kD oI 9 [] h1 () Q Q Q Q Q Q Q<|qU (hT:=tok) (s1,s2,s3,s4,s6) [0,8,1,2,3,4,5,6,12] hF Q results173 Q Q Q Q)<|fun hF=>sF Q<|kD oI 9 [] h1 () Q Q Q Q Q Q Q<|qU (hT:=tok) (s1,s2,s3,s4,s6) [0,8,1,2,3,4,5,6,12] hF Q results173 Q Q Q Q)<|gY 0 2 (dN s b w_) [0,1,2] 128 [0,1,2,3,4,5,6,7,8] Q (jY aH [0,8] Q<|gX [133,134] Q Q (gX [6,135,136,137] Q Q (sG GK 6 Q Q Q fun x9 h3 s10 h4=>fun hF=>nK 2 h4 h3 Q Q Q Q Q<|wi hF<|sG aD5 12 Q Q Q fun x10 h5 _ h6=>fun hF=>nK 3 h6 h5 Q Q Q Q Q<|wi hF<|c0 Q (fun _=>aD6) fun x11=>fun hF=>sF Q<|kD aD5 13 [] h5 () Q Q Q Q Q Q Q<|kD GK 9 [16] h3 s10 Q Q Q Q Q Q Q<|fR Q Q<|nJ () [0,1,2,3,4,5,17,7,8] hF Q)<|cO [0,1,2,3,4,5,6,7,8] Q Q)<|cO [0,1,2,3,4,5,6,7,8] Q Q) fun x5=>cA [128] Q Q (jY aH [0] Q<|c1 Q (fun h=>aIJ (h.o 6 Q)) fun x6 s8=>jY aH [0] Q<|c1 Q (fun h=>aBC (h.o 1 Q) (h.o 2 Q) (h.o 3 Q) (h.o 4 Q)) fun x7 s9=>FC (t4U s9 (s8)) [0,8,10,11,12,13,5,9,7] Q Q)<|eV 0 0 0 10 [] Q Q Q Q Q (fun _=>cY) fun x8 _=>FC (s1,s2,s3,s4,s6) [0,8,1,2,3,4,5,6,7] Q Q
theorem aBD{c:aA}{w_ e_:Int}{s1:AC}(h1:bS κ s1 c.cH):VS prog κ 219 (RX c w_ e_) [.g [I c.aG,.h s1 c.cH.length],I w_,I e_] [] [] (fun r (y:AC)=>.t [.g [I r.1.aG,.h y r.1.cH.length],.b r.2]) (fun r y=>[ow y r.1.cH]):=
 dA tok call219 func219 results219 Q Q<|c1 Q (fun h=>rR (h.a h1)) fun x1 s2=>gY 0 3 (zV w_ e_ x1) [1,2,6,8] 25 [1,2,3] Q (c0 Q (fun h=>wX (h.a h1)) fun x4=>gX [13,14] Q Q (cO [1,2,3] Q Q)<|c0 Q (fun _=>iO) fun x5=>gX [17,18,19] Q Q (cO [1,2,3] Q Q)<|c0 Q (fun _=>bL) fun x6=>cO [1,2,3] Q Q) fun x2=>cA [25] Q Q (lY s2 [1] Q Q)<|sG XU 1 Q Q Q fun x3 h2 _ h3=>fun hF=>nK 3 h3 h2 Q Q Q Q Q<|sR Q<|nR XU 3 [] [28] (⟨true,e_,false,0⟩:vR) () Q Q Q Q Q Q Q Q<|qV s2 cR.symm [(33,1)] [(0,1),(2,1)] Q Q Q<|fR Q Q<|qU (hT:=tok) s2 [6] hF Q results219 Q Q Q Q
theorem ZL{s:Sub}{b:aC}{w_:Int}{s1 s2 s3 s4 s5 s6 s7:AC}{b0 b1:Nat×Nat}:VS prog κ 174 (xS s b w_) [.p 0 0,.p 1 0,I w_] [b0,b1] ([.box 0 [I s.Kind,I s.A,I s.Pc,I s.E,I s.Row,I s.B,I s.H,I s.Out,I s.Code,.b s.cJ],.box 1 (gB b s1 s2 s3 s4 s5 s6 s7)]++(oBs b s1 s2 s3 s4 s5 s6 s7 [])) (fun(r:Sub×aC) (y:AC)=>.t []) (fun(r:Sub×aC) (y:AC)=>([.box 0 [I r.1.Kind,I r.1.A,I r.1.Pc,I r.1.E,I r.1.Row,I r.1.B,I r.1.H,I r.1.Out,I r.1.Code,.b r.1.cJ],.box 1 (gB r.2 s1 s2 s3 s4 y s6 s7)]++(oBs r.2 s1 s2 s3 s4 y s6 s7 []))):=
 dA tok call174 func174 results174 Q Q<|cA [14,15] Q Q (FC s5 [0,1,2,3,4,5,6,7,8] Q Q)<|cA [27,28] Q Q (eN 0 3 (fun(p:Bool×Int×(List vR))=>yX s b p.1 p.2.1 p.2.2) [0,1] (fun(p:Bool×Int×(List vR)) (s8:AC)=>[(6,.p 2 0),(7,.b p.1)]) [0,2,3,4,5,6,7,8,1] (fun p s8=>[ow s8 (p.2.2:List vR),.box 2 [I p.2.1,.h s8 p.2.2.length]]) Q (jY aH [0,1] Q<|fun hF=>bd hF fun x5 hA1 hF=>cG Q Q (iS hA1 Q (fun h=>aBD (h.o 6 Q)) fun s10=>wi hF<|lZ (p:=(x5.2,x5.1.aG,x5.1.cH)) s10 [9,10,0,2,3,4,5,6,7,8,1] Q Q) (iS hA1 Q (fun h=>aBD (h.o 6 Q)) fun s11=>wi hF<|lZ (p:=(x5.2,x5.1.aG,x5.1.cH)) s11 [10,9,0,2,3,4,5,6,7,8,1] Q Q)) fun⟨x1,x2,x3⟩ s8=>cA [43] Q Q (eV 2 0 0 10 [] Q Q Q Q Q (fun _=>cY) fun x4 _=>lY s5 [2,10,3,4,5,6,7,8,9] Q Q)<|FC s8 [2,10,3,4,5,6,0,8,9] Q Q)<|cA [53,54] Q Q (jY aH [0,1] Q<|cA [64] Q Q (eV 0 0 0 10 [] Q Q Q Q Q (fun _=>cY) fun x6 _=>FC s5 [0,1,2,3,4,5,6,7,8] Q Q)<|FC s5 [0,1,2,3,4,5,6,7,8] Q Q)<|eV 0 0 0 10 [] Q Q Q Q Q (fun _=>cY) fun x7 _=>FC s5 [0,1,2,3,4,5,6,7,8] Q Q
theorem JF{s:Sub}{b:aC}{w_:Int}{s1 s2 s3 s4 s5 s6 s7:AC}{b0 b1:Nat×Nat}:VS prog κ 112 (qA s b w_) [.p 0 0,.p 1 0,I w_] [b0,b1] ([.box 0 [I s.Kind,I s.A,I s.Pc,I s.E,I s.Row,I s.B,I s.H,I s.Out,I s.Code,.b s.cJ],.box 1 (gB b s1 s2 s3 s4 s5 s6 s7)]++(oBs b s1 s2 s3 s4 s5 s6 s7 [])) (fun(r:Sub×aC) (y:A6C)=>.t []) (fun(r:Sub×aC) (y:A6C)=>([.box 0 [I r.1.Kind,I r.1.A,I r.1.Pc,I r.1.E,I r.1.Row,I r.1.B,I r.1.H,I r.1.Out,I r.1.Code,.b r.1.cJ],.box 1 (gB r.2 y.1 y.2.1 y.2.2.1 y.2.2.2.1 y.2.2.2.2.1 y.2.2.2.2.2 s7)]++(oBs r.2 y.1 y.2.1 y.2.2.1 y.2.2.2.1 y.2.2.2.2.1 y.2.2.2.2.2 s7 []))):=
 dA tok call112 func112 results112 Q Q<|cA [9] Q Q (lY (s1,s2,s3,s4,s5,s6) [0,1,2,3,4,5,6,7,8] Q Q)<|cA [16,17] Q Q (aNJ 0 0 0 10 1 1 0 8 [2,3,4,5,6,7,8] Q Q Q Q Q (fun _=>VM) fun x1 s8=>FC (t4U s8 (s5,s6)) [0,1,9,10,11,12,13,14,15] Q Q)<|cA [22,23] Q Q (aNJ 0 0 0 10 1 1 0 8 [2,3,4,5,6,7,8] Q Q Q Q Q (fun _=>T8) fun x2 s9=>FC (s1,s2,s3,s4,s5,s9) [0,1,9,10,11,12,13,14,15] Q Q)<|cA [28,29] Q Q (aNJ 0 0 0 10 1 1 0 8 [2,3,4,5,6,7,8] Q Q Q Q Q (fun _=>SF) fun x3 s10=>FC (s1,s2,s3,s4,s10,s6) [0,1,9,10,11,12,13,14,15] Q Q)<|cA [33,34] Q Q (aNJ 0 0 0 10 1 1 0 8 [2,3,4,5,6,7,8] Q Q Q Q Q (fun _=>SG) fun x4 s11=>FC (s11.1,s11.2.1,s11.2.2.1,s11.2.2.2.1,s5,s11.2.2.2.2) [0,1,9,10,11,12,13,14,15] Q Q)<|cA [39,40] Q Q (aNJ 0 0 0 10 1 1 0 8 [2,3,4,5,6,7,8] Q Q Q Q Q (fun _=>ZL) fun x5 s12=>FC (s1,s2,s3,s4,s12,s6) [0,1,9,10,11,12,13,14,15] Q Q)<|eV 0 0 0 10 [] Q Q Q Q Q (fun _=>cY) fun x6 _=>FC (s1,s2,s3,s4,s5,s6) [0,1,2,3,4,5,6,7,8] Q Q
theorem VQ{t:Table}{w_:Int}{s1 s2 s3 s4 s5 s6 s7 s8 s9 s10 s11:AC}{b0:Nat×Nat}:VS prog κ 49 (sP t w_) [.p 0 0,I w_] [b0] ([.box 0 (IQ t s1 s2 s3 s4 s5 s6 s7 s8 s9 s10 s11)]++(MY t s1 s2 s3 s4 s5 s6 s7 s8 s9 s10 s11 [])) (fun(r:Table) (y:A6C)=>.t []) (fun(r:Table) (y:A6C)=>([.box 0 (IQ r y.1 y.2.1 y.2.2.1 y.2.2.2.1 y.2.2.2.2.1 y.2.2.2.2.2 s7 s8 s9 s10 s11)]++(MY r y.1 y.2.1 y.2.2.1 y.2.2.2.1 y.2.2.2.2.1 y.2.2.2.2.2 s7 s8 s9 s10 s11 []))):=
 dA tok call49 func49 results49 Q Q<|sG aX 9 Q Q Q fun x1 h1 s12 h2=>fun hF=>nK 1 h2 h1 Q Q Q Q Q<|wi hF<|jY aH [14] Q<|aNJ 13 1 16 10 0 0 0 8 [1,2,3,4,5,6,7] Q Q Q Q Q (fun _=>JF) fun x2 s13=>cA [24] Q Q (fun hF=>sR Q<|nR aX 12 [15,16,17,18,19,20,21] [8] ({x1 with Sub:=x2.1}:aE) s12 Q Q Q Q Q Q Q Q<|fR Q Q<|qV s9 cR.symm [] [(0,9)] Q Q Q<|fR Q Q<|qU (hT:=tok) s13 [0,22,23,24,25,26,27,28,8,29,10,11] hF Q results49 Q Q Q Q)<|cA [32,33] Q Q (fun hF=>sF Q<|nR aX 12 [15,16,17,18,19,20,21] [8] ({x1 with Pc:=1,Sub:=x2.1}:aE) s12 Q Q Q Q Q Q Q Q<|fR Q Q<|qV s9 cR.symm [] [(0,9)] Q Q Q<|fR Q Q<|qU (hT:=tok) s13 [0,22,23,24,25,26,27,28,8,29,10,11] hF Q results49 Q Q Q Q)<|cA [37,38] Q Q (c0 Q (fun _=>qB) fun x3=>fun hF=>sF Q<|nR aX 12 [15,16,17,18,19,20,21] [8] ({x1 with Pc:=21,Sub:=x3}:aE) s12 Q Q Q Q Q Q Q Q<|fR Q Q<|qV s9 cR.symm [] [(0,9)] Q Q Q<|fR Q Q<|qU (hT:=tok) s13 [0,22,23,24,25,26,27,28,8,29,10,11] hF Q results49 Q Q Q Q)<|fun hF=>sF Q<|nR aX 12 [15,16,17,18,19,20,21] [8] ({x1 with Pc:=19,Sub:=x2.1}:aE) s12 Q Q Q Q Q Q Q Q<|fR Q Q<|qV s9 cR.symm [] [(0,9)] Q Q Q<|fR Q Q<|qU (hT:=tok) s13 [0,22,23,24,25,26,27,28,8,29,10,11] hF Q results49 Q Q Q Q
theorem JY{j:aE}{s1 s2 s3 s4 s5 s6 s7:AC}{b0:Nat×Nat}:VS prog κ 113 (pK j) [.p 0 0] [b0] [.box 0 [.b j.bX,.b j.Batch.Collect,.h s1 j.Batch.aY.length,I j.aI,I j.Pc,I j.At,I j.K,I j.bY,I j.fX,I j.H,I j.dB,I j.Node.Key,I j.Node.dO,I j.Node.Next,.b j.Found,I j.Code,I j.Sub.Kind,I j.Sub.A,I j.Sub.Pc,I j.Sub.E,I j.Sub.Row,I j.Sub.B,I j.Sub.H,I j.Sub.Out,I j.Sub.Code,.b j.Sub.cJ,.h s2 j.Reads.length,.h s3 j.aB.length,.h s4 j.dJ.length,.h s5 j.dF.length,.h s6 j.aQ.length,.h s7 j.bA.length],ow s1 (j.Batch.aY:List iT),ow s2 (j.Reads:List Seen),ow s3 (j.aB:List aS),ow s4 (j.dJ:List dJ),ow s5 (j.dF:List Int),ow s6 (j.aQ:List Int),ow s7 (j.bA:List Int)] (fun(r:iT×Bool×aE) (y:Unit)=>.t [.g [I r.1.Kind,I r.1.Key,I r.1.dO],.b r.2.1]) (fun(r:iT×Bool×aE) (y:Unit)=>[.box 0 [.b r.2.2.bX,.b r.2.2.Batch.Collect,.h s1 r.2.2.Batch.aY.length,I r.2.2.aI,I r.2.2.Pc,I r.2.2.At,I r.2.2.K,I r.2.2.bY,I r.2.2.fX,I r.2.2.H,I r.2.2.dB,I r.2.2.Node.Key,I r.2.2.Node.dO,I r.2.2.Node.Next,.b r.2.2.Found,I r.2.2.Code,I r.2.2.Sub.Kind,I r.2.2.Sub.A,I r.2.2.Sub.Pc,I r.2.2.Sub.E,I r.2.2.Sub.Row,I r.2.2.Sub.B,I r.2.2.Sub.H,I r.2.2.Sub.Out,I r.2.2.Sub.Code,.b r.2.2.Sub.cJ,.h s2 r.2.2.Reads.length,.h s3 r.2.2.aB.length,.h s4 r.2.2.dJ.length,.h s5 r.2.2.dF.length,.h s6 r.2.2.aQ.length,.h s7 r.2.2.bA.length],ow s1 r.2.2.Batch.aY,ow s2 r.2.2.Reads,ow s3 r.2.2.aB,ow s4 r.2.2.dJ,ow s5 r.2.2.dF,ow s6 r.2.2.aQ,ow s7 r.2.2.bA]):=
 dA tok call113 func113 results113 Q Q<|jY aH [0,8] Q<|c0 Q (fun _=>bL) fun x1=>cA [16] Q Q (lY () [0,1,2,3,4,5,6,7] Q Q)<|jY aH [0] Q<|sG aSU 1 Q Q Q fun x2 h1 _ h2=>fun hF=>nK 2 h2 h1 Q Q Q Q Q<|sR Q<|kD aSU 9 [] h1 () Q Q Q Q Q Q Q<|qU (hT:=tok) () [0,12,2,3,4,5,6,7] hF Q results113 Q Q Q Q
theorem eC{j:aE}{code:Int}{s1 s2 s3 s4 s5 s6 s7:AC}{b0:Nat×Nat}:VS prog κ 61 (cK j code) [.p 0 0,I code] [b0] [.box 0 [.b j.bX,.b j.Batch.Collect,.h s1 j.Batch.aY.length,I j.aI,I j.Pc,I j.At,I j.K,I j.bY,I j.fX,I j.H,I j.dB,I j.Node.Key,I j.Node.dO,I j.Node.Next,.b j.Found,I j.Code,I j.Sub.Kind,I j.Sub.A,I j.Sub.Pc,I j.Sub.E,I j.Sub.Row,I j.Sub.B,I j.Sub.H,I j.Sub.Out,I j.Sub.Code,.b j.Sub.cJ,.h s2 j.Reads.length,.h s3 j.aB.length,.h s4 j.dJ.length,.h s5 j.dF.length,.h s6 j.aQ.length,.h s7 j.bA.length],ow s1 (j.Batch.aY:List iT),ow s2 (j.Reads:List Seen),ow s3 (j.aB:List aS),ow s4 (j.dJ:List dJ),ow s5 (j.dF:List Int),ow s6 (j.aQ:List Int),ow s7 (j.bA:List Int)] (fun(r:aE) (y:Unit)=>.t []) (fun(r:aE) (y:Unit)=>[.box 0 [.b r.bX,.b r.Batch.Collect,.h s1 r.Batch.aY.length,I r.aI,I r.Pc,I r.At,I r.K,I r.bY,I r.fX,I r.H,I r.dB,I r.Node.Key,I r.Node.dO,I r.Node.Next,.b r.Found,I r.Code,I r.Sub.Kind,I r.Sub.A,I r.Sub.Pc,I r.Sub.E,I r.Sub.Row,I r.Sub.B,I r.Sub.H,I r.Sub.Out,I r.Sub.Code,.b r.Sub.cJ,.h s2 r.Reads.length,.h s3 r.aB.length,.h s4 r.dJ.length,.h s5 r.dF.length,.h s6 r.aQ.length,.h s7 r.bA.length],ow s1 r.Batch.aY,ow s2 r.Reads,ow s3 r.aB,ow s4 r.dJ,ow s5 r.dF,ow s6 r.aQ,ow s7 r.bA]):=
 dA tok call61 func61 results61 Q Q<|FC () [0,1,2,3,4,5,6,7] Q Q
theorem qC{s:List aS}{f:(aS->Option Bool)}{s1:AC}{g_f:FuncId}{cap_f:List Value}(h1:bS κ s1 s)(h_f:XL prog κ (L5:FH aS) .b g_f cap_f f):V0 prog κ 177 (cS s f) [.h s1 s.length,.k (.func (.func g_f) #[] cap_f.toArray)] I:=
 dA tok call177 func177 results177 Q Q<|XM 8 [0,1,7] [] Out.brk [] [] Q Q (fun hF1 x2 hr1=>cA [9] Q Q (HU L5 Q h1 Q fun x3 _ _=>fun hG1=>fa1 h_f x3 () Q Q Q Q Q trivial hG1 fun x4 _ hG1=>wi hG1<|cA [16] Q Q (US hr1 hF1<|eD Q Q)<|QC [] Q)<|MS [] Q)<|eD Q Q
theorem M4{s:List aS}{del:(aS->Option Bool)}{s1:AC}{g_del:FuncId}{cap_del:List Value}(h_del:XL prog κ (L5:FH aS) .b g_del cap_del del):VS prog κ 220 (jM s del) [.h s1 s.length,.k (.func (.func g_del) #[] cap_del.toArray)] [] [ow s1 (s:List aS)] (fun(r:(List aS)) (y:AC)=>.h y r.length) (fun(r:(List aS)) (y:AC)=>[ow y r]):=
 dA tok call220 func220 results220 Q Q<|c0 Q (fun h=>qC (h.o 0 Q) (h.u1 h_del)) fun x1=>cA [12] Q Q (lY s1 [0] Q Q)<|W4 () [1] (fun(p:(List aS)×Int×Int) (_:Unit)=>[(0,.h s1 p.1.length),(5,I p.2.1),(6,I p.2.2)]) [0] [] (fun p _=>[ow s1 (p.1:List aS)]) id [] (fun(p:(List aS)×Int) (_:Unit)=>[(0,.h s1 p.1.length),(5,I p.2)]) [] (fun p _=>[ow s1 (p.1:List aS)]) Q Q (fun hF1 ⟨x5,x6,x7⟩ _ hr1=>cA [19] Q Q (eN 2 0 (fun(p:(List aS)×Int)=>iL x7 p.1 p.2) [1,6] (fun(p:(List aS)×Int) (_:Unit)=>[(0,.h s1 p.1.length),(5,I p.2)]) [] (fun p _=>[ow s1 (p.1:List aS)]) Q (sG zD 0 Q Q Q fun x12 h3 _ h4=>fun hG1=>nK 0 h4 h3 Q Q Q Q Q<|fa1 h_del x12 () Q Q Q Q Q trivial hG1 fun x13 _ hG1=>wi hG1<|cA [29] Q Q (fun hG1=>cqS zD 1 [] h3 () Q Q Q Q Q Q Q Q Q<|wi hG1<|sG zD 5 Q Q Q fun x14 h5 _ h6=>fun hG1=>nK 2 h6 h5 Q Q Q Q Q<|sF Q<|nR zD 6 [] [0,17,22,30] x12 () Q Q Q Q Q Q Q Q<|nJ (p:=(x5.set x6.toNat x12,bE (x6+1))) () [9] hG1 Q)<|fun hG1=>sF Q<|kD zD 1 [] h3 () Q Q Q Q Q Q Q<|nJ (p:=(x5,x6)) () [5] hG1 Q) fun⟨x10,x11⟩ _=>QC [0] Q)<|MS [0] Q) fun⟨x8,x9⟩ _=>fun hF=>cpc 0 Q Q fun hc1=>aNH hc1 Q Q Q Q Q Q hF fun hF h1=>clr 0 x9.toNat x8.length ((⟨0,false,0⟩:aS):aS) h1 wT Q (fun _=>(a1W (⟨0,false,0⟩:aS))) Q Q Q Q Q Q Q Q<|rr s1 (fP (xs:=List.replicate (x8.length - x9.toNat) (⟨0,false,0⟩:aS)) (tN h1.1 h1.2)).symm [0,36] [] [] Q Q Q Q<|cpc 0 Q Q fun hc2=>aW6 hc2 Q Q Q Q Q Q hF fun hF h2=>sR Q<|poR 0 0 x9.toNat Q Q h2 Q<|qU (hT:=tok) (AC.sub s1 3 0) [0] hF Q results220 Q Q Q Q
theorem aBE{x k0:aS}{b0:Nat×Nat}:VS prog κ 221 (I3 x k0) [.g [I x.Key,.b x.FR,I x.dO],.p 0 0] [b0] [.ro 0 [I k0.Key,.b k0.FR,I k0.dO]] (fun r (_:Unit)=>.b r) (fun _ _=>[]):=
 dA tok call221 func221 results221 Q Q<|eD Q Q
theorem aBF{x k0:aS}{b0:Nat×Nat}:VS prog κ 222 (A0 x k0) [.g [I x.Key,.b x.FR,I x.dO],.p 0 0] [b0] [.ro 0 [I k0.Key,.b k0.FR,I k0.dO]] (fun r (_:Unit)=>.b r) (fun _ _=>[]):=
 dA tok call222 func222 results222 Q Q<|eD Q Q
theorem T9{s v:List aS}{i:Int}{s1 s2:AC}:VS prog κ 223 (qO s i v) [.h s1 s.length,I i,.h s2 v.length] [] [ow s1 s,.o (cLs s2 v)] (fun(r:(List aS)) (y:AC)=>.h y r.length) (fun(r:(List aS)) (y:AC)=>[ow y r]):=
 bER Q (by decide) (a56 (k:=3) (el:=127) (z:=.agg #[.int .i64 0,.bool false,.int .i64 0]) (by decide) Q aP6 aSQ aXE aSR) call223
theorem aFK{l:List aS}{w_:aS}{s1:AC}(h1:bS κ s1 l):VS prog κ 176 (HE l w_) [.h s1 l.length,.g [I w_.Key,.b w_.FR,I w_.dO]] [] [] (fun r (y:AC)=>.h y r.length) (fun r y=>[ow y r]):=
 dA tok call176 func176 results176 Q Q<|c1 Q (fun h=>dY (h.a h1)) fun x1 s2=>fun hF=>mf [0] Q Q Q<|wi hF<|bEI 0 [1] Q Q Q Q Q Q (fun _=>fun hB=>M4 (bEH call221 hB fun _=>aBE)) fun x2 s3=>fun hF=>mf [0] Q Q Q<|wi hF<|aKE [0] Q Q Q Q (fun h=>fun hB=>qC (h.o 2 Q) (aKD (cs:=[(0,[I w_.Key,.b w_.FR,I w_.dO])]) call222 hB Q fun _ _=>aBF)) fun x3=>eN 0 1 (rL w_ x2) [3,5] (fun(x4:Int) (_:Unit)=>[(6,I x4)]) [2,0] (fun x4 _=>[]) Q (cA [15] Q Q (cO [2,0] Q Q)<|cO [2,0] Q Q) fun x4 _=>fun hF=>ltL zD () w_ wT Q Q Q Q Q Q Q Q (fun _=>Q) fun s4=>wi hF<|MT [0,2] Q Q Q Q (fun _=>T9) fun x5 s5=>lY s5 [3] Q Q
theorem L9{j:aE}{x:aS}{s1 s2 s3 s4 s5 s6 s7:AC}{b0:Nat×Nat}:VS prog κ 114 (rM j x) [.p 0 0,.g [I x.Key,.b x.FR,I x.dO]] [b0] [.box 0 [.b j.bX,.b j.Batch.Collect,.h s1 j.Batch.aY.length,I j.aI,I j.Pc,I j.At,I j.K,I j.bY,I j.fX,I j.H,I j.dB,I j.Node.Key,I j.Node.dO,I j.Node.Next,.b j.Found,I j.Code,I j.Sub.Kind,I j.Sub.A,I j.Sub.Pc,I j.Sub.E,I j.Sub.Row,I j.Sub.B,I j.Sub.H,I j.Sub.Out,I j.Sub.Code,.b j.Sub.cJ,.h s2 j.Reads.length,.h s3 j.aB.length,.h s4 j.dJ.length,.h s5 j.dF.length,.h s6 j.aQ.length,.h s7 j.bA.length],ow s1 (j.Batch.aY:List iT),ow s2 (j.Reads:List Seen),ow s3 (j.aB:List aS),ow s4 (j.dJ:List dJ),ow s5 (j.dF:List Int),ow s6 (j.aQ:List Int),ow s7 (j.bA:List Int)] (fun(r:Bool×aE) (y:AC)=>.b r.1) (fun(r:Bool×aE) (y:AC)=>[.box 0 [.b r.2.bX,.b r.2.Batch.Collect,.h s1 r.2.Batch.aY.length,I r.2.aI,I r.2.Pc,I r.2.At,I r.2.K,I r.2.bY,I r.2.fX,I r.2.H,I r.2.dB,I r.2.Node.Key,I r.2.Node.dO,I r.2.Node.Next,.b r.2.Found,I r.2.Code,I r.2.Sub.Kind,I r.2.Sub.A,I r.2.Sub.Pc,I r.2.Sub.E,I r.2.Sub.Row,I r.2.Sub.B,I r.2.Sub.H,I r.2.Sub.Out,I r.2.Sub.Code,.b r.2.Sub.cJ,.h s2 r.2.Reads.length,.h y r.2.aB.length,.h s4 r.2.dJ.length,.h s5 r.2.dF.length,.h s6 r.2.aQ.length,.h s7 r.2.bA.length],ow s1 r.2.Batch.aY,ow s2 r.2.Reads,ow y r.2.aB,ow s4 r.2.dJ,ow s5 r.2.dF,ow s6 r.2.aQ,ow s7 r.2.bA]):=
 dA tok call114 func114 results114 Q Q<|jY aH [0,8] Q<|c1 Q (fun h=>aFK (h.o 3 Q)) fun x1 s8=>cA [14] Q Q (eV 0 0 0 32 [1,2,3,4,5,6,7] Q Q Q Q Q (fun _=>eC) fun x2 _=>lY s3 [0,10,11,12,13,14,15,16] Q Q)<|lY s8 [0,1,2,9,4,5,6,7] Q Q
theorem aDB{x:aS}{k0:Int}{b0:Nat×Nat}:VS prog κ 178 (EA x k0) [.g [I x.Key,.b x.FR,I x.dO],.p 0 0] [b0] [.ro 0 [I k0]] (fun r (_:Unit)=>.b r) (fun _ _=>[]):=
 dA tok call178 func178 results178 Q Q<|eD Q Q
theorem aIK{l:List aS}{key:Int}{s1:AC}(h1:bS κ s1 l):V0 prog κ 115 (KG l key) [.h s1 l.length,I key] (fun r=>.t [.g [I r.1.Key,.b r.1.FR,I r.1.dO],.b r.2]):=
 dA tok call115 func115 results115 Q Q<|fun hF=>mf [0] Q Q Q<|wi hF<|aKE [0] Q Q Q Q (fun h=>fun hB=>qC (h.a h1) (aKD (cs:=[(0,[I key])]) call178 hB Q fun _ _=>aDB)) fun x1=>cA [11] Q Q (eD Q Q)<|HU L5 Q h1 Q fun x2 _ _=>eD Q Q
theorem aNT{a_ b:Int}:V0 prog κ 179 (Y9 a_ b) [I a_,I b] I:=
 dA tok call179 func179 results179 Q Q<|eD Q Q
theorem MA{j:aE}{c:iT}{val:Int}{is:Bool}{s1 s2 s3 s4 s5 s6 s7:AC}{b0:Nat×Nat}:VS prog κ 116 (rN j c val is) [.p 0 0,.g [I c.Kind,I c.Key,I c.dO],I val,.b is] [b0] [.box 0 [.b j.bX,.b j.Batch.Collect,.h s1 j.Batch.aY.length,I j.aI,I j.Pc,I j.At,I j.K,I j.bY,I j.fX,I j.H,I j.dB,I j.Node.Key,I j.Node.dO,I j.Node.Next,.b j.Found,I j.Code,I j.Sub.Kind,I j.Sub.A,I j.Sub.Pc,I j.Sub.E,I j.Sub.Row,I j.Sub.B,I j.Sub.H,I j.Sub.Out,I j.Sub.Code,.b j.Sub.cJ,.h s2 j.Reads.length,.h s3 j.aB.length,.h s4 j.dJ.length,.h s5 j.dF.length,.h s6 j.aQ.length,.h s7 j.bA.length],ow s1 (j.Batch.aY:List iT),ow s2 (j.Reads:List Seen),ow s3 (j.aB:List aS),ow s4 (j.dJ:List dJ),ow s5 (j.dF:List Int),ow s6 (j.aQ:List Int),ow s7 (j.bA:List Int)] (fun(r:aE) (y:AC×AC)=>.t []) (fun(r:aE) (y:AC×AC)=>[.box 0 [.b r.bX,.b r.Batch.Collect,.h s1 r.Batch.aY.length,I r.aI,I r.Pc,I r.At,I r.K,I r.bY,I r.fX,I r.H,I r.dB,I r.Node.Key,I r.Node.dO,I r.Node.Next,.b r.Found,I r.Code,I r.Sub.Kind,I r.Sub.A,I r.Sub.Pc,I r.Sub.E,I r.Sub.Row,I r.Sub.B,I r.Sub.H,I r.Sub.Out,I r.Sub.Code,.b r.Sub.cJ,.h s2 r.Reads.length,.h y.1 r.aB.length,.h y.2 r.dJ.length,.h s5 r.dF.length,.h s6 r.aQ.length,.h s7 r.bA.length],ow s1 r.Batch.aY,ow s2 r.Reads,ow y.1 r.aB,ow y.2 r.dJ,ow s5 r.dF,ow s6 r.aQ,ow s7 r.bA]):=
 dA tok call116 func116 results116 Q Q<|eN 0 2 (mV j c is) [0,3,5] (fun(x1:Int) (_:Unit)=>[(2,I x1)]) [1,2,3,4,5,6,7,0,8] (fun x1 _=>[]) Q (cA [10] Q Q (cO [1,2,3,4,5,6,7,0,8] Q Q)<|cO [1,2,3,4,5,6,7,0,8] Q Q) fun x1 _=>eN 0 3 (fun(p:aE×Bool×Int)=>mU p.1 p.2.1 p.2.2) [0,8] (fun(p:aE×Bool×Int) (s8:AC)=>[]) [] (fun p s8=>[ow s1 (p.1.Batch.aY:List iT),ow s2 (p.1.Reads:List Seen),ow s8 (p.1.aB:List aS),ow s4 (p.1.dJ:List dJ),ow s5 (p.1.dF:List Int),ow s6 (p.1.aQ:List Int),ow s7 (p.1.bA:List Int),.box 0 [.b p.1.bX,.b p.1.Batch.Collect,.h s1 p.1.Batch.aY.length,I p.1.aI,I p.1.Pc,I p.1.At,I p.1.K,I p.1.bY,I p.1.fX,I p.1.H,I p.1.dB,I p.1.Node.Key,I p.1.Node.dO,I p.1.Node.Next,.b p.1.Found,I p.1.Code,I p.1.Sub.Kind,I p.1.Sub.A,I p.1.Sub.Pc,I p.1.Sub.E,I p.1.Sub.Row,I p.1.Sub.B,I p.1.Sub.H,I p.1.Sub.Out,I p.1.Sub.Code,.b p.1.Sub.cJ,.h s2 p.1.Reads.length,.h s8 p.1.aB.length,.h s4 p.1.dJ.length,.h s5 p.1.dF.length,.h s6 p.1.aQ.length,.h s7 p.1.bA.length],.box 2 [.b p.2.1,I p.2.2]]) Q (cA [16] Q Q (c0 Q (fun _=>aNT) fun x6=>eV 7 0 0 32 [0,1,2,3,4,5,6] Q Q Q Q Q (fun _=>L9) fun x7 s16=>cA [29] Q Q (lY (s16,s4) [7,10,11,12,13,14,15,16] Q Q)<|lZ (p:=(x7.2,true,x6)) s16 [10,11,12,13,14,15,16,7,9] Q Q)<|lZ (p:=(j,is,x1)) s3 [0,1,2,3,4,5,6,7,9] Q Q) fun⟨x2,x3,x4⟩ s8=>eN 0 3 qP [0] (fun(x5:aE) (s9:AC)=>[]) [] (fun x5 s9=>[ow s1 (x5.Batch.aY:List iT),ow s2 (x5.Reads:List Seen),ow s8 (x5.aB:List aS),ow s9 (x5.dJ:List dJ),ow s5 (x5.dF:List Int),ow s6 (x5.aQ:List Int),ow s7 (x5.bA:List Int),.box 0 [.b x5.bX,.b x5.Batch.Collect,.h s1 x5.Batch.aY.length,I x5.aI,I x5.Pc,I x5.At,I x5.K,I x5.bY,I x5.fX,I x5.H,I x5.dB,I x5.Node.Key,I x5.Node.dO,I x5.Node.Next,.b x5.Found,I x5.Code,I x5.Sub.Kind,I x5.Sub.A,I x5.Sub.Pc,I x5.Sub.E,I x5.Sub.Row,I x5.Sub.B,I x5.Sub.H,I x5.Sub.Out,I x5.Sub.Code,.b x5.Sub.cJ,.h s2 x5.Reads.length,.h s8 x5.aB.length,.h s9 x5.dJ.length,.h s5 x5.dF.length,.h s6 x5.aQ.length,.h s7 x5.bA.length]]) Q (jY aH [8] Q<|fun hF=>nd hF fun hA1 hF=>(by refine cG Q Q ?_ ?_<;>exact RO bCO [] ((⟨x3,x4⟩:dJ)) () CU Q Q Q Q Q Q Q Q Q Q Q Q Q fun s12=>have hq1:=rn hA1;ap 3 CU Q Q Q Q Q Q Q (fun h=>(h.o 9 Q)) Q Q hq1 fun hq1 s13=>wi hF<|lZ (p:=(({x2 with dJ:=x2.dJ++([(⟨x3,x4⟩:dJ)])}:aE))) s13 [0,1,2,3,4,5,6,7] Q Q)) fun x5 s9=>FC (s8,s9) [7,0,1,2,3,4,5,6] Q Q
theorem SH{key:Int}:V0 prog κ 117 (GC key) [I key] I:=
 dA tok call117 func117 results117 Q Q<|c0 Q (fun _=>bL) fun x1=>cA [5] Q Q (eD Q Q)<|eD Q Q
theorem aDC{j:aE}{s1 s2 s3 s4 s5 s6 s7:AC}{b0:Nat×Nat}:VS prog κ 50 (EC j) [.p 0 0] [b0] [.box 0 [.b j.bX,.b j.Batch.Collect,.h s1 j.Batch.aY.length,I j.aI,I j.Pc,I j.At,I j.K,I j.bY,I j.fX,I j.H,I j.dB,I j.Node.Key,I j.Node.dO,I j.Node.Next,.b j.Found,I j.Code,I j.Sub.Kind,I j.Sub.A,I j.Sub.Pc,I j.Sub.E,I j.Sub.Row,I j.Sub.B,I j.Sub.H,I j.Sub.Out,I j.Sub.Code,.b j.Sub.cJ,.h s2 j.Reads.length,.h s3 j.aB.length,.h s4 j.dJ.length,.h s5 j.dF.length,.h s6 j.aQ.length,.h s7 j.bA.length],ow s1 (j.Batch.aY:List iT),ow s2 (j.Reads:List Seen),ow s3 (j.aB:List aS),ow s4 (j.dJ:List dJ),ow s5 (j.dF:List Int),ow s6 (j.aQ:List Int),ow s7 (j.bA:List Int)] (fun(r:aE) (y:AC×AC)=>.t []) (fun(r:aE) (y:AC×AC)=>[.box 0 [.b r.bX,.b r.Batch.Collect,.h s1 r.Batch.aY.length,I r.aI,I r.Pc,I r.At,I r.K,I r.bY,I r.fX,I r.H,I r.dB,I r.Node.Key,I r.Node.dO,I r.Node.Next,.b r.Found,I r.Code,I r.Sub.Kind,I r.Sub.A,I r.Sub.Pc,I r.Sub.E,I r.Sub.Row,I r.Sub.B,I r.Sub.H,I r.Sub.Out,I r.Sub.Code,.b r.Sub.cJ,.h s2 r.Reads.length,.h y.1 r.aB.length,.h y.2 r.dJ.length,.h s5 r.dF.length,.h s6 r.aQ.length,.h s7 r.bA.length],ow s1 r.Batch.aY,ow s2 r.Reads,ow y.1 r.aB,ow y.2 r.dJ,ow s5 r.dF,ow s6 r.aQ,ow s7 r.bA]):=
 dA tok call50 func50 results50 Q Q<|eV 0 0 0 32 [1,2,3,4,5,6,7] Q Q Q Q Q (fun _=>JY) fun x1 _=>cA [39,41] Q Q (c0 Q (fun _=>qB) fun x2=>FC (s3,s4) [0,8,9,10,11,12,13,14] Q Q)<|eN 0 2 (fun(p:Bool×aE)=>j6 x1 p.1 p.2) [0,2] (fun(p:Bool×aE) (_:Unit)=>[(52,.b p.1)]) [15] (fun p _=>[ow s1 (p.2.Batch.aY:List iT),ow s2 (p.2.Reads:List Seen),ow s3 (p.2.aB:List aS),ow s4 (p.2.dJ:List dJ),ow s5 (p.2.dF:List Int),ow s6 (p.2.aQ:List Int),ow s7 (p.2.bA:List Int),.box 0 [.b p.2.bX,.b p.2.Batch.Collect,.h s1 p.2.Batch.aY.length,I p.2.aI,I p.2.Pc,I p.2.At,I p.2.K,I p.2.bY,I p.2.fX,I p.2.H,I p.2.dB,I p.2.Node.Key,I p.2.Node.dO,I p.2.Node.Next,.b p.2.Found,I p.2.Code,I p.2.Sub.Kind,I p.2.Sub.A,I p.2.Sub.Pc,I p.2.Sub.E,I p.2.Sub.Row,I p.2.Sub.B,I p.2.Sub.H,I p.2.Sub.Out,I p.2.Sub.Code,.b p.2.Sub.cJ,.h s2 p.2.Reads.length,.h s3 p.2.aB.length,.h s4 p.2.dJ.length,.h s5 p.2.dF.length,.h s6 p.2.aQ.length,.h s7 p.2.bA.length]]) Q (gX [55,56] Q Q (cO (p:=(true,x1.2.2)) [8,9,10,11,12,13,14,0,15] Q Q)<|cO (p:=(x1.1.Kind == 3,x1.2.2)) [8,9,10,11,12,13,14,0,15] Q Q) fun⟨x3,x4⟩ _=>cA [52] Q Q (eV 7 0 0 32 [0,1,2,3,4,5,6] Q Q Q Q Q (fun _=>L9) fun x5 s8=>cA [70] Q Q (fun hF=>RO bCO [] ((⟨false,0⟩:dJ)) () CU Q Q Q Q Q Q Q Q Q Q Q Q Q fun s9=>ap 12 CU Q Q Q Q Q Q Q (fun h=>(h.o 16 Q)) Q Q hF fun hF s10=>wi hF<|FC (s8,s10) [7,9,10,11,12,13,14,15] Q Q)<|FC (s8,s4) [7,9,10,11,12,13,14,15] Q Q)<|eN 0 3 (fun(p:Bool×aE×Int×Bool×Int)=>EB x1 p.1 p.2.1 p.2.2.1 p.2.2.2.1 p.2.2.2.2) [0,2] (fun(p:Bool×aE×Int×Bool×Int) (_:Unit)=>[(4,.p 2 0),(5,.b p.1)]) [8] (fun p _=>[ow s1 (p.2.1.Batch.aY:List iT),ow s2 (p.2.1.Reads:List Seen),ow s3 (p.2.1.aB:List aS),ow s4 (p.2.1.dJ:List dJ),ow s5 (p.2.1.dF:List Int),ow s6 (p.2.1.aQ:List Int),ow s7 (p.2.1.bA:List Int),.box 0 [.b p.2.1.bX,.b p.2.1.Batch.Collect,.h s1 p.2.1.Batch.aY.length,I p.2.1.aI,I p.2.1.Pc,I p.2.1.At,I p.2.1.K,I p.2.1.bY,I p.2.1.fX,I p.2.1.H,I p.2.1.dB,I p.2.1.Node.Key,I p.2.1.Node.dO,I p.2.1.Node.Next,.b p.2.1.Found,I p.2.1.Code,I p.2.1.Sub.Kind,I p.2.1.Sub.A,I p.2.1.Sub.Pc,I p.2.1.Sub.E,I p.2.1.Sub.Row,I p.2.1.Sub.B,I p.2.1.Sub.H,I p.2.1.Sub.Out,I p.2.1.Sub.Code,.b p.2.1.Sub.cJ,.h s2 p.2.1.Reads.length,.h s3 p.2.1.aB.length,.h s4 p.2.1.dJ.length,.h s5 p.2.1.dF.length,.h s6 p.2.1.aQ.length,.h s7 p.2.1.bA.length],.box 2 [I p.2.2.1,.b p.2.2.2.1,I p.2.2.2.2]]) Q (jY aH [7,8] Q<|fun hF=>bd hF fun x13 hA1 hF=>(by refine cG Q Q ?_ ?_<;>exact FM hA1 Q (fun h=>aIK (h.o 2 Q))<|wi hF<|cO (p:=(x13.2,x4,x13.1.Key,x13.1.FR,x13.1.dO)) [0,1,2,3,4,5,6,7,9,8] Q Q)) fun⟨x6,x7,x8,x9,x10⟩ _=>cA [5,21] Q Q (eV 7 0 0 32 [0,1,2,3,4,5,6] Q Q Q Q Q (fun _=>MA) fun x11 s11=>lY (s11.1,s11.2) [7,10,11,12,13,14,15,16] Q Q)<|c0 Q (fun _=>SH) fun x12=>FC (s3,s4) [7,0,1,2,3,4,5,6] Q Q
theorem VR{h:Heap}{slot:Int}{s1 s2:AC}(h1:bS κ s1 h.Bytes)(h2:bS κ s2 h.Class):V0 prog κ 181 (ED h slot) [.g [.h s1 h.Bytes.length,.h s2 h.Class.length],I slot] .b:=
 dA tok call181 func181 results181 Q Q<|c0 Q (fun h=>oE (h.a h1) (h.a h2)) fun x1=>c0 Q (fun _=>O8) fun x2=>eD Q Q
theorem aIL{slot c:Int}:V0 prog κ 227 (KH slot c) [I slot,I c] I:=
 dA tok call227 func227 results227 Q Q<|c0 Q (fun _=>tJ) fun x1=>cA [10] Q Q (eD Q Q)<|eD Q Q
theorem xA{h:Heap}{slot:Int}{s1 s2:AC}(h1:bS κ s1 h.Bytes)(h2:bS κ s2 h.Class):V0 prog κ 188 (xT h slot) [.g [.h s1 h.Bytes.length,.h s2 h.Class.length],I slot] I:=
 dA tok call188 func188 results188 Q Q<|c0 Q (fun h=>oE (h.a h1) (h.a h2)) fun x1=>c0 Q (fun _=>aIL) fun x2=>eD Q Q
theorem aK4{h:Heap}{slot:Int}{s1 s2:AC}(h1:bS κ s1 h.Bytes)(h2:bS κ s2 h.Class):V0 prog κ 182 (NY h slot) [.g [.h s1 h.Bytes.length,.h s2 h.Class.length],I slot] (fun r=>.g [I r.Key,I r.dO,I r.Next]):=
 dA tok call182 func182 results182 Q Q<|c0 Q (fun h=>xA (h.a h1) (h.a h2)) fun x1=>jY aH [0] Q<|c0 Q (fun h=>wW (h.a h1)) fun x2=>c0 Q (fun h=>wW (h.a h1)) fun x3=>c0 Q (fun h=>wW (h.a h1)) fun x4=>eD Q Q
theorem YO{m:Mem}{h:Int}{s1 s2 s3 s4:AC}(h1:bS κ s1 m.Heap.Bytes)(h2:bS κ s2 m.Heap.Class)(h3:bS κ s3 m.aD.Global)(h4:bS κ s4 m.aD.Own):V0 prog κ 118 (H7 m h) [.g (gM m s1 s2 s3 s4),I h] (fun r=>.t [.g [I r.1.Key,I r.1.dO,I r.1.Next],I r.2]):=
 dA tok call118 func118 results118 Q Q<|gY 0 2 (EE m h) [1,2,4] 6 [0,1] Q (c0 Q (fun _=>kK) fun x4=>gX [9,10] Q Q (cO [0,1] Q Q)<|c0 Q (fun h=>oE (h.a h1) (h.a h2)) fun x5=>cO [0,1] Q Q) fun x1=>cA [6] Q Q (eD Q Q)<|c0 Q (fun h=>VR (h.a h1) (h.a h2)) fun x2=>cA [19,25] Q Q (eD Q Q)<|c0 Q (fun h=>aK4 (h.a h1) (h.a h2)) fun x3=>eD Q Q
theorem VT{p:vR}:V0 prog κ 119 (BY p) [.g [.b p.On,I p.aG,.b p.fU,I p.Seen]] .b:=
 dA tok call119 func119 results119 Q Q<|gY 0 1 oH [] 2 [] Q (gX [4,5] Q Q (cO [] Q Q)<|cO [] Q Q) fun x1=>eD Q Q
theorem cQ{n:gW}:V0 prog κ 120 (iA n) [.g [I n.Key,I n.dO,I n.Next]] I:=
 dA tok call120 func120 results120 Q Q<|c0 Q (fun _=>kK) fun x1=>cA [6] Q Q (eD Q Q)<|eD Q Q
theorem aDD{s:Seen}{k0:Int}{b0:Nat×Nat}:VS prog κ 183 (EF s k0) [.g [I s.bY,I s.fX],.p 0 0] [b0] [.ro 0 [I k0]] (fun r (_:Unit)=>.b r) (fun _ _=>[]):=
 dA tok call183 func183 results183 Q Q<|eD Q Q
theorem MB{l:List Seen}{b v:Int}{s1:AC}(h1:bS κ s1 l):VS prog κ 121 (KI l b v) [.h s1 l.length,I b,I v] [] [] (fun r (y:AC)=>.t [.h y r.1.length,.b r.2]) (fun r y=>[ow y r.1]):=
 dA tok call121 func121 results121 Q Q<|c1 Q (fun h=>eX (h.a h1)) fun x1 s2=>fun hF=>mf [0] Q Q Q<|wi hF<|aKE [0] Q Q Q Q (fun h=>fun hB=>CV (h.a h1) (aKD (cs:=[(0,[I b])]) call183 hB Q fun _ _=>aDD)) fun x2=>cA [16] Q Q (fun hF=>RO VG [] ((⟨b,v⟩:Seen)) () N6 Q Q Q Q Q Q Q Q Q Q Q Q Q fun s3=>ap 1 N6 Q Q Q Q Q Q Q (fun h=>(h.o 2 Q)) Q Q hF fun hF s4=>wi hF<|lY s4 [1] Q Q)<|jY aH [0] Q<|HU aH6 Q h1 Q fun x3 _ _=>lY s2 [1] Q Q
theorem aBG{t:Table}{w_:Int}{s1 s2 s3 s4 s5 s6 s7 s8 s9 s10 s11:AC}{b0:Nat×Nat}:VS prog κ 51 (A1 t w_) [.p 0 0,I w_] [b0] ([.box 0 (IQ t s1 s2 s3 s4 s5 s6 s7 s8 s9 s10 s11)]++(MY t s1 s2 s3 s4 s5 s6 s7 s8 s9 s10 s11 [])) (fun(r:Table) (y:Unit)=>.t []) (fun(r:Table) (y:Unit)=>([.box 0 (IQ r s1 s2 s3 s4 s5 s6 s7 s8 s9 s10 s11)]++(MY r s1 s2 s3 s4 s5 s6 s7 s8 s9 s10 s11 []))):=
 dA tok call51 func51 results51 Q Q<|sG aX 9 Q Q Q fun x1 h1 s12 h2=>fun hF=>nK 1 h2 h1 Q Q Q Q Q<|wi hF<|eN 0 4 (fun(p:Int×Int×Int)=>B5 t w_ p.1 p.2.1 p.2.2) [0,1,4] (fun(p:Int×Int×Int) (_:Unit)=>[(5,.p 3 0)]) [1,2,3,4,5,6,7,8,10,11,0,14] (fun p _=>[ow s9 (t.aO:List aE),.box 3 [I p.1,I p.2.1,I p.2.2]]) Q (fun hF=>cqS aX 12 [15,16,17,18,19,20,21] h1 s12 Q Q Q Q Q Q Q Q Q<|wi hF<|jY aH [0,14] Q<|fun hF=>bd hF fun x30 hA5 hF=>cG Q Q (have hq15:=rb h1;ro aX 22 14 1 Q Q Q Q hq15 fun u15 h27 hq15 s34=>match u15,hq15 with | _,rfl=>have hq16:=rb hA5;wi hq16<|sG AE 8 Q Q Q fun u16 h29 _ h30=>fun hq16=>nK 2 h30 h29 Q Q Q Q Q<|match u16,hq16 with | _,rfl=>(by refine cG Q Q ?_ ?_<;>exact sF Q<|kD AE 33 [] h29 () Q Q Q Q Q Q Q<|fR Q Q<|kD aX 23 [26,27,28,29,30,31,32] h27 s34 Q Q Q Q Q Q Q<|fR Q Q<|nJ (p:=(x30.Head,x30.fX,x30.gP)) () [38,36,1,2,3,4,5,6,7,37,10,11,0,14] hF Q)) (have hq17:=rb h1;ro aX 22 14 1 Q Q Q Q hq17 fun u17 h31 hq17 s35=>match u17,hq17 with | _,rfl=>have hq18:=rb hA5;wi hq18<|sG AE 8 Q Q Q fun u18 h33 _ h34=>fun hq18=>nK 3 h34 h33 Q Q Q Q Q<|match u18,hq18 with | _,rfl=>sF Q<|swR 3 2 Q<|fD Q Q<|kD AE 34 [] h33 () Q Q Q Q Q Q Q<|fR Q Q<|kD aX 24 [27,28,29,30,31,32,33] h31 s35 Q Q Q Q Q Q Q<|fR Q Q<|nJ (p:=(x30.Head,x30.fX,x30.gP)) () [38,23,1,2,3,4,5,6,7,37,10,11,0,14] hF Q)) fun⟨x2,x3,x4⟩ _=>fun hF=>ro aX 0 13 1 Q Q Q Q hF fun x5 h3 hF s13=>wi hF<|eV 15 1 0 32 [17,18,19,20,21,22,23] Q Q Q Q Q (fun _=>JY) fun x6 _=>cA [91,92] Q Q (cA [95] Q Q (eV 15 1 0 32 [24,25,26,27,28,29,30] Q Q Q Q Q (fun _=>eC) fun x7 _=>fun hF=>sR Q<|nR aX 14 [32,33,34,35,36,37,38] [] x7 s13 Q Q Q Q Q Q Q Q<|fR Q Q<|qV s9 cR.symm [] [(12,9)] Q Q Q<|fR Q Q<|qU (hT:=tok) () [12,2,3,4,5,6,7,8,9,39,10,11] hF Q results51 Q Q Q Q)<|jY aH [1,12,13,16,31] Q<|cA [122] Q Q (fun hF=>sF Q<|nR aX 14 [24,25,26,27,28,29,30] [] (⟨x6.2.2.bX,x6.2.2.Batch,x6.2.2.aI,5,x6.2.2.At,x6.2.2.K,x6.2.2.bY,x3,x2,x6.2.2.dB,(⟨0,0,0⟩:gW),false,x6.2.2.Code,x6.2.2.Sub,x6.2.2.Reads,x6.2.2.aB,x6.2.2.dJ,x6.2.2.dF,x6.2.2.aQ,x6.2.2.bA⟩:aE) s13 Q Q Q Q Q Q Q Q<|fR Q Q<|qV s9 cR.symm [] [(12,9)] Q Q Q<|fR Q Q<|qU (hT:=tok) () [12,2,3,4,5,6,7,8,9,32,10,11] hF Q results51 Q Q Q Q)<|fun hF=>sF Q<|nR aX 14 [24,25,26,27,28,29,30] [] (⟨x6.2.2.bX,x6.2.2.Batch,x6.2.2.aI,3,x6.2.2.At,x6.2.2.K,x6.2.2.bY,x3,x2,x6.2.2.dB,(⟨0,0,0⟩:gW),false,x6.2.2.Code,x6.2.2.Sub,x6.2.2.Reads,x6.2.2.aB,x6.2.2.dJ,x6.2.2.dF,x6.2.2.aQ,x6.2.2.bA⟩:aE) s13 Q Q Q Q Q Q Q Q<|fR Q Q<|qV s9 cR.symm [] [(12,9)] Q Q Q<|fR Q Q<|qU (hT:=tok) () [12,2,3,4,5,6,7,8,9,32,10,11] hF Q results51 Q Q Q Q)<|cA [126,127] Q Q (jY aH [1,12,13,16,31] Q<|c0 Q (fun h=>YO (h.o 2 Q) (h.o 3 Q) (h.o 4 Q) (h.o 5 Q)) fun x8=>fun hF=>sF Q<|nR aX 14 [24,25,26,27,28,29,30] [] (⟨x6.2.2.bX,x6.2.2.Batch,x6.2.2.aI,4,x6.2.2.At,x6.2.2.K,x6.2.2.bY,x6.2.2.fX,x6.2.2.H,x6.2.2.dB,x8.1,x6.2.2.Found,x6.2.2.Code,x6.2.2.Sub,x6.2.2.Reads,x6.2.2.aB,x6.2.2.dJ,x6.2.2.dF,x6.2.2.aQ,x6.2.2.bA⟩:aE) s13 Q Q Q Q Q Q Q Q<|fR Q Q<|qV s9 cR.symm [] [(12,9)] Q Q Q<|fR Q Q<|qU (hT:=tok) () [12,2,3,4,5,6,7,8,9,32,10,11] hF Q results51 Q Q Q Q)<|cA [147,148] Q Q (sG XU 6 Q Q Q fun x9 h5 _ h6=>fun hF=>nK 5 h6 h5 Q Q Q Q Q<|wi hF<|c0 Q (fun _=>VT) fun x10=>cA [149,160] Q Q (eV 15 1 0 32 [24,25,26,27,28,29,30] Q Q Q Q Q (fun _=>eC) fun x11 _=>fun hF=>sR Q<|kD XU 32 [] h5 () Q Q Q Q Q Q Q<|fR Q Q<|nR aX 14 [35,36,37,38,39,40,41] [] x11 s13 Q Q Q Q Q Q Q Q<|fR Q Q<|qV s9 cR.symm [] [(12,9)] Q Q Q<|fR Q Q<|qU (hT:=tok) () [12,2,3,4,5,42,7,8,9,43,10,11] hF Q results51 Q Q Q Q)<|cA [163,165] Q Q (eV 15 1 0 32 [24,25,26,27,28,29,30] Q Q Q Q Q (fun _=>eC) fun x12 _=>fun hF=>sR Q<|kD XU 32 [] h5 () Q Q Q Q Q Q Q<|fR Q Q<|nR aX 14 [35,36,37,38,39,40,41] [] x12 s13 Q Q Q Q Q Q Q Q<|fR Q Q<|qV s9 cR.symm [] [(12,9)] Q Q Q<|fR Q Q<|qU (hT:=tok) () [12,2,3,4,5,42,7,8,9,43,10,11] hF Q results51 Q Q Q Q)<|eN 0 6 (BZ t w_) [0,4] (fun(x13:(List aE)) (_:Unit)=>[]) [2,3,4,5,7,8,9,10,11,13] (fun x13 _=>[ow s5 (t.aC.aA.cH:List vR),ow s9 (x13:List aE),.box 0 [.h s1 t.aC.Mem.Heap.Bytes.length,.h s2 t.aC.Mem.Heap.Class.length,.h s3 t.aC.Mem.aD.Global.length,.h s4 t.aC.Mem.aD.Own.length,I t.aC.aA.aG,.h s5 t.aC.aA.cH.length,.h s6 t.aC.aN.length,.h s7 t.aC.qH.length,.h s8 t.b8.length,.h s9 x13.length,.h s10 t.dU.length,.h s11 t.Log.length,I t.aI]]) Q (jY aH [1,12,13,16,31,34] Q<|fun hF=>bd hF fun x17 hA1 hF=>cG Q Q (FM hA1 Q (fun _=>cQ)<|sF Q<|kD XU 32 [] h5 () Q Q Q Q Q Q Q<|fR Q Q<|nR aX 14 [24,25,26,27,28,29,30] [] (⟨x6.2.2.bX,x6.2.2.Batch,x6.2.2.aI,3,x6.2.2.At,x6.2.2.K,x6.2.2.bY,x6.2.2.fX,x17,x6.2.2.dB,x6.2.2.Node,x6.2.2.Node.Key == x6.1.Key,x6.2.2.Code,x6.2.2.Sub,x6.2.2.Reads,x6.2.2.aB,x6.2.2.dJ,x6.2.2.dF,x6.2.2.aQ,x6.2.2.bA⟩:aE) s13 Q Q Q Q Q Q Q Q<|fR Q Q<|qV s9 cR.symm [] [(12,9)] Q Q Q<|fR Q Q<|nJ (p:=(t.aO.set w_.toNat (⟨x6.2.2.bX,x6.2.2.Batch,x6.2.2.aI,3,x6.2.2.At,x6.2.2.K,x6.2.2.bY,x6.2.2.fX,x17,x6.2.2.dB,x6.2.2.Node,x6.2.2.Node.Key == x6.1.Key,x6.2.2.Code,x6.2.2.Sub,x6.2.2.Reads,x6.2.2.aB,x6.2.2.dJ,x6.2.2.dF,x6.2.2.aQ,x6.2.2.bA⟩:aE))) () [35,36,12,2,3,4,5,7,8,9,10,11,13] hF Q) ((by refine cG Q Q ?_ ?_<;>exact FM hA1 Q (fun _=>cQ)<|sF Q<|kD XU 32 [] h5 () Q Q Q Q Q Q Q<|fR Q Q<|nR aX 14 [24,25,26,27,28,29,30] [] (⟨x6.2.2.bX,x6.2.2.Batch,x6.2.2.aI,3,x6.2.2.At,x6.2.2.K,x6.2.2.bY,x6.2.2.fX,x17,x6.2.2.dB,x6.2.2.Node,x6.2.2.Node.Key == x6.1.Key,x6.2.2.Code,x6.2.2.Sub,x6.2.2.Reads,x6.2.2.aB,x6.2.2.dJ,x6.2.2.dF,x6.2.2.aQ,x6.2.2.bA⟩:aE) s13 Q Q Q Q Q Q Q Q<|fR Q Q<|qV s9 cR.symm [] [(12,9)] Q Q Q<|fR Q Q<|nJ (p:=(t.aO.set w_.toNat (⟨x6.2.2.bX,x6.2.2.Batch,x6.2.2.aI,3,x6.2.2.At,x6.2.2.K,x6.2.2.bY,x6.2.2.fX,x17,x6.2.2.dB,x6.2.2.Node,x6.2.2.Node.Key == x6.1.Key,x6.2.2.Code,x6.2.2.Sub,x6.2.2.Reads,x6.2.2.aB,x6.2.2.dJ,x6.2.2.dF,x6.2.2.aQ,x6.2.2.bA⟩:aE))) () [35,36,12,2,3,4,5,7,8,9,10,11,13] hF Q))) fun x13 _=>gY 0 6 (sQ t w_ x13) [0,4] 200 [3,4,5,6,0,7,8,9,1,10,11,2,12] Q (fun hF=>ro aX 1 12 1 Q Q Q Q hF fun x16 h9 hF s15=>wi hF<|gX [193,194] Q Q (fun hF=>sF Q<|kD aX 13 [16,17,18,19,20,21,22] h9 s15 Q Q Q Q Q Q Q<|fR Q Q<|nJ () [3,4,5,6,0,7,8,9,23,10,11,2,12] hF Q)<|fun hF=>sF Q<|kD aX 13 [16,17,18,19,20,21,22] h9 s15 Q Q Q Q Q Q Q<|fR Q Q<|nJ () [3,4,5,6,0,7,8,9,23,10,11,2,12] hF Q) fun x14=>cA [200] Q Q (fun hF=>ro aX 8 12 1 Q Q Q Q hF fun x15 h7 hF s14=>sF Q<|nR aX 13 [16,17,18,19,20,21,22] [] ({x15 with Pc:=5}:aE) s14 Q Q Q Q Q Q Q Q<|fR Q Q<|qV s9 cR.symm [] [(11,9)] Q Q Q<|fR Q Q<|qU (hT:=tok) () [11,0,1,2,3,4,5,6,7,23,9,10] hF Q results51 Q Q Q Q)<|FC () [11,0,1,2,3,4,5,6,7,8,9,10] Q Q)<|eN 0 5 (jD t w_ x6) [0,4,6,7] (fun(x18:Bool) (_:Unit)=>[(46,.b x18)]) [2,3,4,5,6,7,8,9,10,11,13,31] (fun x18 _=>[ow s9 (t.aO.set w_.toNat x6.2.2:List aE),.box 0 [.h s1 t.aC.Mem.Heap.Bytes.length,.h s2 t.aC.Mem.Heap.Class.length,.h s3 t.aC.Mem.aD.Global.length,.h s4 t.aC.Mem.aD.Own.length,I t.aC.aA.aG,.h s5 t.aC.aA.cH.length,.h s6 t.aC.aN.length,.h s7 t.aC.qH.length,.h s8 t.b8.length,.h s9 (t.aO.set w_.toNat x6.2.2).length,.h s10 t.dU.length,.h s11 t.Log.length,I t.aI]]) Q (jY aH [1,12,13,16,31] Q<|gX [37,38] Q Q (fun hF=>sF Q<|nR aX 14 [24,25,26,27,28,29,30] [] x6.2.2 s13 Q Q Q Q Q Q Q Q<|fR Q Q<|qV s9 cR.symm [] [(12,9)] Q Q Q<|fR Q Q<|nJ () [32,12,2,3,4,5,6,7,8,9,10,11,13,31] hF Q)<|fun hF=>sF Q<|nR aX 14 [24,25,26,27,28,29,30] [] x6.2.2 s13 Q Q Q Q Q Q Q Q<|fR Q Q<|qV s9 cR.symm [] [(12,9)] Q Q Q<|fR Q Q<|nJ () [32,12,2,3,4,5,6,7,8,9,10,11,13,31] hF Q) fun x18 _=>cA [46] Q Q (fun hF=>ro aX 0 12 1 Q Q Q Q hF fun x19 h11 hF s16=>wi hF<|eV 15 1 0 32 [17,18,19,20,21,22,23] Q Q Q Q Q (fun _=>eC) fun x20 _=>fun hF=>sR Q<|nR aX 14 [24,25,26,27,28,29,30] [] x20 s16 Q Q Q Q Q Q Q Q<|fR Q Q<|qV s9 cR.symm [] [(1,9)] Q Q Q<|fR Q Q<|qU (hT:=tok) () [1,2,3,4,5,6,7,8,9,31,10,11] hF Q results51 Q Q Q Q)<|eN 0 5 (fun(p:(List Seen)×Bool)=>B4 t w_ x6 p.1 p.2) [0,4,6,7] (fun(p:(List Seen)×Bool) (s17:AC)=>[(8,.h s17 p.1.length),(9,.b p.2)]) [2,3,4,5,6,7,8,9,0,10,11,1,12,13] (fun p s17=>[ow s17 (p.1:List Seen)]) Q (jY aH [1,12,13] Q<|fun hF=>bd hF fun x28 hA3 hF=>bd hF fun x29 hA4 hF=>aAG Q Q (have hq6:=rb hA3;ro aX 0 12 1 Q Q Q Q hq6 fun u6 h17 hq6 s24=>match u6,hq6 with | _,rfl=>(by refine cG Q Q ?_ ?_<;>exact iS hA4 Q (fun h=>MB (h.o 18 Q)) fun s25=>sF Q<|kD aX 14 [17,18,19,20,21,22,23] h17 s24 Q Q Q Q Q Q Q<|fR Q Q<|nJ (p:=(x29.1,x29.2)) s25 [24,2,3,4,5,6,7,8,9,25,10,11,1,12,13] hF Q)) (have hq9:=rb hA3;ro aX 0 12 1 Q Q Q Q hq9 fun u9 h19 hq9 s27=>match u9,hq9 with | _,rfl=>(by refine cG Q Q ?_ ?_<;>exact iS hA4 Q (fun h=>MB (h.o 18 Q)) fun s28=>sF Q<|kD aX 14 [17,18,19,20,21,22,23] h19 s27 Q Q Q Q Q Q Q<|fR Q Q<|nJ (p:=(x29.1,x29.2)) s28 [24,2,3,4,5,6,7,8,9,25,10,11,1,12,13] hF Q)) (have hq12:=rb hA3;ro aX 0 12 1 Q Q Q Q hq12 fun u12 h21 hq12 s30=>match u12,hq12 with | _,rfl=>(by refine cG Q Q ?_ ?_<;>exact iS hA4 Q (fun h=>MB (h.o 18 Q)) fun s31=>sF Q<|kD aX 14 [17,18,19,20,21,22,23] h21 s30 Q Q Q Q Q Q Q<|fR Q Q<|nJ (p:=(x29.1,x29.2)) s31 [24,2,3,4,5,6,7,8,9,25,10,11,1,12,13] hF Q))) fun⟨x21,x22⟩ s17=>fun hF=>ro aX 9 13 1 Q Q Q Q hF fun x23 h13 hF s18=>wi hF<|cA [81,83] Q Q (eV 16 1 0 32 [18,0,20,21,22,23,24] Q Q Q Q Q (fun _=>eC (j:=({x23 with Reads:=x21}:aE))) fun x24 _=>fun hF=>sF Q<|nR aX 15 [25,26,27,28,29,30,31] [] x24 (s18.1,s17,s18.2.2.1,s18.2.2.2.1,s18.2.2.2.2.1,s18.2.2.2.2.2.1,s18.2.2.2.2.2.2) Q Q Q Q Q Q Q Q<|fR Q Q<|qV s9 cR.symm [] [(12,9)] Q Q Q<|fR Q Q<|qU (hT:=tok) () [12,1,2,3,4,5,6,7,8,32,10,11] hF Q results51 Q Q Q Q)<|cA [86,88] Q Q (eV 16 1 0 32 [18,0,20,21,22,23,24] Q Q Q Q Q (fun _=>eC (j:=({x23 with Reads:=x21}:aE))) fun x25 _=>fun hF=>sF Q<|nR aX 15 [25,26,27,28,29,30,31] [] x25 (s18.1,s17,s18.2.2.1,s18.2.2.2.1,s18.2.2.2.2.1,s18.2.2.2.2.2.1,s18.2.2.2.2.2.2) Q Q Q Q Q Q Q Q<|fR Q Q<|qV s9 cR.symm [] [(12,9)] Q Q Q<|fR Q Q<|qU (hT:=tok) () [12,1,2,3,4,5,6,7,8,32,10,11] hF Q results51 Q Q Q Q)<|eN 0 5 (LS t) [0] (fun(x26:(List aE)) (_:Unit)=>[]) [1,2,3,4,5,6,7,8,10,11] (fun x26 _=>[ow s9 (x26:List aE),.box 0 [.h s1 t.aC.Mem.Heap.Bytes.length,.h s2 t.aC.Mem.Heap.Class.length,.h s3 t.aC.Mem.aD.Global.length,.h s4 t.aC.Mem.aD.Own.length,I t.aC.aA.aG,.h s5 t.aC.aA.cH.length,.h s6 t.aC.aN.length,.h s7 t.aC.qH.length,.h s8 t.b8.length,.h s9 x26.length,.h s10 t.dU.length,.h s11 t.Log.length,I t.aI]]) Q (jY aH [12,13,14,17] Q<|fun hF=>bd hF fun x27 hA2 hF=>(by refine cG Q Q ?_ ?_<;>exact have hq4:=rb hA2;wi hq4<|eV 16 1 0 32 [18,0,20,21,22,23,24] Q Q Q Q Q (fun _=>MA (j:=({x23 with Reads:=x21}:aE))) fun u4 s20=>fun hq4=>match u4,hq4 with | _,rfl=>sF Q<|nR aX 15 [25,26,27,28,29,30,31] [] x27 (s18.1,s17,s20.1,s20.2,s18.2.2.2.2.1,s18.2.2.2.2.2.1,s18.2.2.2.2.2.2) Q Q Q Q Q Q Q Q<|fR Q Q<|qV s9 cR.symm [] [(12,9)] Q Q Q<|fR Q Q<|nJ (p:=((t.aO.set w_.toNat x6.2.2).set w_.toNat x27)) () [32,12,1,2,3,4,5,6,7,8,10,11] hF Q)) fun x26 _=>FC () [1,2,3,4,5,6,7,8,9,0,10,11] Q Q
theorem CX{l:List aS}{n:Int}{s1:AC}(h1:bS κ s1 l):V0 prog κ 122 (QT l n) [.h s1 l.length,I n] I:=
 dA tok call122 func122 results122 Q Q<|fun hF=>a9X Q Q Q Q<|bB3 Q Q Q Q<|a0X Q Q Q Q Q h1 Q Q hF fun hF s2 h2=>wi hF<|W4 () [14,15] (fun(p:Int×Int) (_:Unit)=>[(5,I p.1),(16,I p.2)]) [] [] (fun p _=>[]) id [] (fun(x5:Int) (_:Unit)=>[(5,I x5)]) [] (fun x5 _=>[]) Q Q (fun hF1 ⟨x3,x4⟩ _ hr1=>cA [17] Q Q (eN 2 0 (EG x4) [14,15,16] (fun(x6:Int) (_:Unit)=>[(5,I x6)]) [] (fun x6 _=>[]) Q (HU L5 Q h2 Q fun x7 _ _=>cA [22] Q Q (cO [] Q Q)<|cO [] Q Q) fun x6 _=>QC [] Q)<|MS [] Q) fun x5 _=>eD Q Q
theorem ZM{t:Table}{w_:Int}{s1 s2 s3 s4 s5 s6 s7 s8 s9 s10 s11:AC}{b0:Nat×Nat}:VS prog κ 52 (xU t w_) [.p 0 0,I w_] [b0] ([.box 0 (IQ t s1 s2 s3 s4 s5 s6 s7 s8 s9 s10 s11)]++(MY t s1 s2 s3 s4 s5 s6 s7 s8 s9 s10 s11 [])) (fun(r:Table) (y:A6C)=>.t []) (fun(r:Table) (y:A6C)=>([.box 0 (IQ r y.1 y.2.1 y.2.2.1 y.2.2.2.1 y.2.2.2.2.1 y.2.2.2.2.2 s7 s8 s9 s10 s11)]++(MY r y.1 y.2.1 y.2.2.1 y.2.2.2.1 y.2.2.2.2.1 y.2.2.2.2.2 s7 s8 s9 s10 s11 []))):=
 dA tok call52 func52 results52 Q Q<|sG aX 9 Q Q Q fun x1 h1 s12 h2=>fun hF=>nK 1 h2 h1 Q Q Q Q Q<|wi hF<|eN 0 2 (y5 t w_) [0,1,4] (fun(x2:Bool) (_:Unit)=>[(25,.b x2)]) [1,2,3,4,5,6,7,8,10,11,0,14] (fun x2 _=>[ow s9 (t.aO:List aE)]) Q (jY aH [0,14] Q<|fun hF=>bd hF fun x16 hA5 hF=>aAG Q Q ((by refine cG Q Q ?_ ?_<;>exact FM hA5 Q (fun h=>CX (h.o 17 Q))<|sF Q<|kD aX 12 [15,16,17,18,19,20,21] h1 s12 Q Q Q Q Q Q Q<|fR Q Q<|nJ (p:=(decide (x16<=x1.K))) () [22,1,2,3,4,5,6,7,8,10,11,0,14] hF Q)) (cG Q Q (FM hA5 Q (fun h=>CX (h.o 17 Q))<|sF Q<|kD aX 12 [15,16,17,18,19,20,21] h1 s12 Q Q Q Q Q Q Q<|fR Q Q<|nJ (p:=(decide (x16<=x1.K))) () [22,1,2,3,4,5,6,7,8,10,11,0,14] hF Q) ((by refine cG Q Q ?_ ?_<;>exact FM hA5 Q (fun h=>CX (h.o 17 Q))<|sF Q<|kD aX 12 [15,16,17,18,19,20,21] h1 s12 Q Q Q Q Q Q Q<|fR Q Q<|nJ (p:=(decide (x16<=x1.K))) () [22,1,2,3,4,5,6,7,8,10,11,0,14] hF Q))) (cG Q Q (FM hA5 Q (fun h=>CX (h.o 17 Q))<|sF Q<|kD aX 12 [15,16,17,18,19,20,21] h1 s12 Q Q Q Q Q Q Q<|fR Q Q<|nJ (p:=(decide (x16<=x1.K))) () [22,1,2,3,4,5,6,7,8,10,11,0,14] hF Q) ((by refine cG Q Q ?_ ?_<;>exact FM hA5 Q (fun h=>CX (h.o 17 Q))<|sF Q<|kD aX 12 [15,16,17,18,19,20,21] h1 s12 Q Q Q Q Q Q Q<|fR Q Q<|nJ (p:=(decide (x16<=x1.K))) () [22,1,2,3,4,5,6,7,8,10,11,0,14] hF Q)))) fun x2 _=>cA [25] Q Q (fun hF=>ro aX 0 12 1 Q Q Q Q hF fun x3 h3 hF s13=>sR Q<|nR aX 13 [16,17,18,19,20,21,22] [] ({x3 with Pc:=7,K:=0}:aE) s13 Q Q Q Q Q Q Q Q<|fR Q Q<|qV s9 cR.symm [] [(11,9)] Q Q Q<|fR Q Q<|qU (hT:=tok) (s1,s2,s3,s4,s5,s6) [11,1,2,3,4,5,6,7,8,23,9,10] hF Q results52 Q Q Q Q)<|jY aH [12] Q<|fun hF=>ro aX 0 12 1 Q Q Q Q hF fun x4 h5 hF s14=>wi hF<|aNJ 14 1 16 10 11 0 0 8 [1,2,3,4,5,6,7] Q Q Q Q Q (fun _=>JF) fun x5 s15=>cA [66,72] Q Q (fun hF=>sF Q<|nR aX 13 [16,17,18,19,20,21,22] [] ({x4 with Sub:=x5.1}:aE) s14 Q Q Q Q Q Q Q Q<|fR Q Q<|qV s9 cR.symm [] [(11,9)] Q Q Q<|fR Q Q<|qU (hT:=tok) s15 [11,23,24,25,26,27,28,29,8,30,9,10] hF Q results52 Q Q Q Q)<|eN 0 2 (fun(p:Bool×Table)=>iB w_ p.1 p.2) [0,4] (fun(p:Bool×Table) (_:Unit)=>[(73,.b p.1)]) [12] (fun p _=>(MY p.2 s15.1 s15.2.1 s15.2.2.1 s15.2.2.2.1 s15.2.2.2.2.1 s15.2.2.2.2.2 s7 s8 s9 s10 s11 [.box 0 (IQ p.2 s15.1 s15.2.1 s15.2.2.1 s15.2.2.2.1 s15.2.2.2.2.1 s15.2.2.2.2.2 s7 s8 s9 s10 s11)])) Q (gX [79,80] Q Q (fun hF=>sF Q<|nR aX 13 [16,17,18,19,20,21,22] [] ({x4 with Sub:=x5.1}:aE) s14 Q Q Q Q Q Q Q Q<|fR Q Q<|qV s9 cR.symm [] [(11,9)] Q Q Q<|fR Q Q<|nJ (p:=(true,({t with aC:=x5.2,aO:=t.aO.set w_.toNat ({x4 with Sub:=x5.1}:aE)}:Table))) () [23,24,25,26,27,28,29,8,30,9,10,11,12] hF Q)<|c0 Q (fun _=>kK) fun x15=>gX [87,88,89] Q Q (fun hF=>sF Q<|nR aX 13 [16,17,18,19,20,21,22] [] ({x4 with Sub:=x5.1}:aE) s14 Q Q Q Q Q Q Q Q<|fR Q Q<|qV s9 cR.symm [] [(11,9)] Q Q Q<|fR Q Q<|nJ (p:=(true,({t with aC:=x5.2,aO:=t.aO.set w_.toNat ({x4 with Sub:=x5.1}:aE)}:Table))) () [23,24,25,26,27,28,29,8,30,9,10,11,12] hF Q)<|fun hF=>sF Q<|nR aX 13 [16,17,18,19,20,21,22] [] ({x4 with Sub:=x5.1}:aE) s14 Q Q Q Q Q Q Q Q<|fR Q Q<|qV s9 cR.symm [] [(11,9)] Q Q Q<|fR Q Q<|nJ (p:=(decide (6<=(x4.dF.length:Int)),({t with aC:=x5.2,aO:=t.aO.set w_.toNat ({x4 with Sub:=x5.1}:aE)}:Table))) () [23,24,25,26,27,28,29,8,30,9,10,11,12] hF Q) fun⟨x6,x7⟩ _=>cA [73] Q Q (fun hF=>ro aX 8 12 1 Q Q Q Q hF fun x8 h7 hF s16=>wi hF<|eV 14 1 0 32 [16,17,18,19,20,21,22] Q Q Q Q Q (fun _=>eC) fun x9 _=>fun hF=>sF Q<|nR aX 13 [23,24,25,26,27,28,29] [] x9 s16 Q Q Q Q Q Q Q Q<|fR Q Q<|qV s9 cR.symm [] [(11,9)] Q Q Q<|fR Q Q<|qU (hT:=tok) s15 [11,0,1,2,3,4,5,6,7,30,9,10] hF Q results52 Q Q Q Q)<|eN 0 2 (yZ w_) [0,4] (fun(x10:Table) (_:Unit)=>[]) [12] (fun x10 _=>(MY x10 s15.1 s15.2.1 s15.2.2.1 s15.2.2.2.1 s15.2.2.2.2.1 s15.2.2.2.2.2 s7 s8 s9 s10 s11 [.box 0 (IQ x10 s15.1 s15.2.1 s15.2.2.1 s15.2.2.2.1 s15.2.2.2.2.1 s15.2.2.2.2.2 s7 s8 s9 s10 s11)])) Q (jY aH [11,12] Q<|fun hF=>bd hF fun x14 hA3 hF=>nd hF fun hA4 hF=>cG Q Q (have hq5:=rb hA3;ro aX 8 12 1 Q Q Q Q hq5 fun u5 h17 hq5 s23=>match u5,hq5 with | _,rfl=>lt1 Q bW Q Q Q Q fun s24=>have hq6:=rn hA4;ap 20 bW Q Q Q Q Q Q Q (fun h=>(h.o 23 Q)) Q Q hq6 fun hq6 s25=>sF Q<|nR aX 13 [16,17,18,19,20,21,22] [] ({x14 with dF:=x14.dF++([x14.Sub.Out])}:aE) (s23.1,s23.2.1,s23.2.2.1,s23.2.2.2.1,s25,s23.2.2.2.2.2.1,s23.2.2.2.2.2.2) Q Q Q Q Q Q Q Q<|fR Q Q<|qV s9 cR.symm [] [(11,9)] Q Q Q<|fR Q Q<|nJ (p:=(({x7 with aO:=x7.aO.set w_.toNat ({x14 with dF:=x14.dF++([x14.Sub.Out])}:aE)}:Table))) () [0,1,2,3,4,5,6,7,24,9,10,11,12] hF Q) (have hq7:=rb hA3;ro aX 8 12 1 Q Q Q Q hq7 fun u6 h19 hq7 s26=>match u6,hq7 with | _,rfl=>(by refine cG Q Q ?_ ?_<;>exact lt1 Q bW Q Q Q Q fun s27=>have hq8:=rn hA4;ap 20 bW Q Q Q Q Q Q Q (fun h=>(h.o 23 Q)) Q Q hq8 fun hq8 s28=>sF Q<|nR aX 13 [16,17,18,19,20,21,22] [] ({x14 with dF:=x14.dF++([x14.Sub.Out])}:aE) (s26.1,s26.2.1,s26.2.2.1,s26.2.2.2.1,s28,s26.2.2.2.2.2.1,s26.2.2.2.2.2.2) Q Q Q Q Q Q Q Q<|fR Q Q<|qV s9 cR.symm [] [(11,9)] Q Q Q<|fR Q Q<|nJ (p:=(({x7 with aO:=x7.aO.set w_.toNat ({x14 with dF:=x14.dF++([x14.Sub.Out])}:aE)}:Table))) () [0,1,2,3,4,5,6,7,24,9,10,11,12] hF Q))) fun x10 _=>eN 0 2 yY [0] (fun(x11:Table) (_:Unit)=>[]) [] (fun x11 _=>(MY x11 s15.1 s15.2.1 s15.2.2.1 s15.2.2.2.1 s15.2.2.2.2.1 s15.2.2.2.2.2 s7 s8 s9 s10 s11 [.box 0 (IQ x11 s15.1 s15.2.1 s15.2.2.1 s15.2.2.2.1 s15.2.2.2.2.1 s15.2.2.2.2.2 s7 s8 s9 s10 s11)])) Q (jY aH [11,12] Q<|fun hF=>bd hF fun x12 hA1 hF=>bd hF fun x13 hA2 hF=>cG Q Q (have hq1:=rb hA1;ro aX 8 12 1 Q Q Q Q hq1 fun u1 h11 hq1 s18=>match u1,hq1 with | _,rfl=>FM hA2 Q (fun _=>qB)<|sF Q<|nR aX 13 [16,17,18,19,20,21,22] [] ({x12 with K:=bE (x12.K+1),Sub:=x13}:aE) s18 Q Q Q Q Q Q Q Q<|fR Q Q<|qV s9 cR.symm [] [(11,9)] Q Q Q<|fR Q Q<|nJ (p:=(({x10 with aO:=x10.aO.set w_.toNat ({x12 with K:=bE (x12.K+1),Sub:=x13}:aE)}:Table))) () [0,1,2,3,4,5,6,7,23,9,10,11] hF Q) (FM hA2 Q (fun _=>qB)<|have hq4:=rb hA1;ro aX 8 12 1 Q Q Q Q hq4 fun u4 h13 hq4 s19=>match u4,hq4 with | _,rfl=>sF Q<|nR aX 13 [16,17,18,19,20,21,22] [] ({x12 with K:=bE (x12.K+1),Sub:=x13}:aE) s19 Q Q Q Q Q Q Q Q<|fR Q Q<|qV s9 cR.symm [] [(11,9)] Q Q Q<|fR Q Q<|nJ (p:=(({x10 with aO:=x10.aO.set w_.toNat ({x12 with K:=bE (x12.K+1),Sub:=x13}:aE)}:Table))) () [0,1,2,3,4,5,6,7,23,9,10,11] hF Q)) fun x11 _=>FC s15 [11,0,1,2,3,4,5,6,7,8,9,10] Q Q
theorem TS{x:Int}:V0 prog κ 273 (cmp_isNaN_int x) [I x] .b:=
 dA tok call273 func273 results273 Q Q<|eD Q Q
theorem VU{x y:Int}:V0 prog κ 255 (cmp_Less_int x y) [I x,I y] .b:=
 dA tok call255 func255 results255 Q Q<|gY 0 0 tV [] 4 [] Q (c0 Q (fun _=>TS) fun x2=>gX [6,7] Q Q (c0 Q (fun _=>TS) fun x3=>gX [10,11,12] Q Q (cO [] Q Q)<|cO [] Q Q)<|cO [] Q Q) fun x1=>eD Q Q
theorem C0{data:List Int}{a_ b:Int}{s1:AC}:VS prog κ 249 (iG data a_ b) [.h s1 data.length,I a_,I b] [] [ow s1 (data:List Int)] (fun(r:(List Int)) (y:Unit)=>.t []) (fun(r:(List Int)) (y:Unit)=>[.o (bH [AC.v s1 data.length] r)]):=
 dA tok call249 func249 results249 Q Q<|W4 () [1,2] (fun(p:(List Int)×Int) (_:Unit)=>[(0,.h s1 p.1.length),(6,I p.2)]) [0] [] (fun p _=>[ow s1 (p.1:List Int)]) id [] (fun(x5:(List Int)) (_:Unit)=>[(0,.h s1 x5.length)]) [] (fun x5 _=>[ow s1 (x5:List Int)]) Q Q (fun hF1 ⟨x3,x4⟩ _ hr1=>fun hG1=>nd hG1 fun hl3 hG1=>wi hG1<|cA [12] Q Q (W4 () [1,2,6] (fun(p:(List Int)×Int) (_:Unit)=>[(0,.h s1 p.1.length),(7,I p.2)]) [0] [] (fun p _=>[ow s1 (p.1:List Int)]) id [1,2,6] (fun(x10:(List Int)) (_:Unit)=>[(0,.h s1 x10.length)]) [] (fun x10 _=>[ow s1 (x10:List Int)]) Q Q (fun hF2 ⟨x8,x9⟩ _ hr2=>fun hG2=>nd hG2 fun hl6 hG2=>wi hG2<|gY 0 0 (dR data x8 x9) [0,1,2,6,7] 30 [0] Q (jY aH [] Q<|gX [18,19] Q Q (sG oI 0 Q Q Q fun x16 h27 _ h28=>fun hG2=>nK 0 h28 h27 Q Q Q Q Q<|cqS oI 1 [] h27 () Q Q Q Q Q Q Q Q Q<|wi hG2<|sG oI 4 Q Q Q fun x17 h29 _ h30=>fun hG2=>nK 1 h30 h29 Q Q Q Q Q<|bd hG2 fun x18 hA2 hG2=>cG Q Q (cqS oI 5 [] h29 () Q Q Q Q Q Q Q Q Q<|have hq8:=rb h27;ro oI 8 3 0 Q Q Q Q hq8 fun u8 h35 hq8 _=>match u8,hq8 with | _,rfl=>cqS oI 9 [] h35 () Q Q Q Q Q Q Q Q Q<|have hq9:=rb h29;ro oI 12 7 1 Q Q Q Q hq9 fun u9 h37 hq9 _=>match u9,hq9 with | _,rfl=>FM hA2 Q (fun _=>VU)<|sF Q<|kD oI 13 [] h37 () Q Q Q Q Q Q Q<|nJ (p:=(x18)) () [16] hG2 Q) (cqS oI 5 [] h29 () Q Q Q Q Q Q Q Q Q<|have hq11:=rb h27;ro oI 8 3 0 Q Q Q Q hq11 fun u11 h39 hq11 _=>match u11,hq11 with | _,rfl=>FM hA2 Q (fun _=>VU)<|sF Q<|kD oI 9 [] h39 () Q Q Q Q Q Q Q<|nJ (p:=(x18)) () [12] hG2 Q))<|cO (p:=(false)) [0] Q Q) fun x11=>fun hG2=>nd hG2 fun hl7 hG2=>wi hG2<|cA [30] Q Q (eN 0 0 (jF data x9) [1,2,6,7] (fun(x12:(List Int)) (_:Unit)=>[(0,.h s1 x12.length)]) [] (fun x12 _=>[ow s1 (x12:List Int)]) Q (jY aH [] Q<|sG oI 0 Q Q Q fun x13 h1 _ h2=>fun hG2=>nK 0 h2 h1 Q Q Q Q Q<|cqS oI 1 [] h1 () Q Q Q Q Q Q Q Q Q<|wi hG2<|sG oI 4 Q Q Q fun x14 h3 _ h4=>fun hG2=>nK 1 h4 h3 Q Q Q Q Q<|bd hG2 fun x15 hA1 hG2=>cG Q Q (cqS oI 5 [] h3 () Q Q Q Q Q Q Q Q Q<|have hq1:=rb h1;ro oI 8 3 0 Q Q Q Q hq1 fun u1 h13 hq1 _=>match u1,hq1 with | _,rfl=>cqS oI 9 [] h13 () Q Q Q Q Q Q Q Q Q<|have hq2:=rb h3;ro oI 12 7 1 Q Q Q Q hq2 fun u2 h15 hq2 _=>match u2,hq2 with | _,rfl=>cqS oI 13 [] h15 () Q Q Q Q Q Q Q Q Q<|have hq3:=rb h3;wi hq3<|sG oI 16 Q Q Q fun u3 h17 _ h18=>fun hq3=>nK 2 h18 h17 Q Q Q Q Q<|match u3,hq3 with | _,rfl=>ceS oI 17 [] [0,33,35,38,43] x13 () Q Q Q Q Q Q Q Q Q Q<|have hq4:=rb hA1;wi hq4<|sG oI 20 Q Q Q fun u4 h19 _ h20=>fun hq4=>nK 3 h20 h19 Q Q Q Q Q<|match u4,hq4 with | _,rfl=>sF Q<|nR oI 21 [] [0,33,35,38,43] x14 () Q Q Q Q Q Q Q Q<|nJ (p:=((x8.set x9.toNat x13).set ((bE (x9 - 1)).toNat) x14)) () [24] hG2 Q) (cqS oI 5 [] h3 () Q Q Q Q Q Q Q Q Q<|have hq5:=rb h1;ro oI 8 3 0 Q Q Q Q hq5 fun u5 h21 hq5 _=>match u5,hq5 with | _,rfl=>cqS oI 9 [] h21 () Q Q Q Q Q Q Q Q Q<|have hq6:=rb h3;wi hq6<|sG oI 12 Q Q Q fun u6 h23 _ h24=>fun hq6=>nK 2 h24 h23 Q Q Q Q Q<|match u6,hq6 with | _,rfl=>ceS oI 13 [] [0,33,35,38,43] x13 () Q Q Q Q Q Q Q Q Q Q<|have hq7:=rb hA1;wi hq7<|sG oI 16 Q Q Q fun u7 h25 _ h26=>fun hq7=>nK 3 h26 h25 Q Q Q Q Q<|match u7,hq7 with | _,rfl=>sF Q<|nR oI 17 [] [0,33,35,38,43] x14 () Q Q Q Q Q Q Q Q<|nJ (p:=((x8.set x9.toNat x13).set ((bE (x9 - 1)).toNat) x14)) () [20] hG2 Q)) fun x12 _=>fun hG2=>nd hG2 fun hl8 hG2=>wi hG2<|QC [0] Q)<|MS [0] Q) fun x10 _=>fun hG1=>nd hG1 fun hl5 hG1=>wi hG1<|QC [0] Q)<|MS [0] Q) fun x5 _=>fun hF=>nd hF fun hl2 hF=>sF Q<|pnR 0 hl2 Q<|qU (hT:=tok) () [0] hF Q results249 Q Q Q Q
theorem KT{data:List Int}{a_ b limit:Int}{s1:AC}:VS prog κ 225 (oR data a_ b limit) [.h s1 data.length,I a_,I b,I limit] [] [ow s1 (data:List Int)] (fun(r:(List Int)) (y:Unit)=>.t []) (fun(r:(List Int)) (y:Unit)=>[.o (bH [AC.v s1 data.length] r)]):=
 dA tok call225 func225 results225 Q Q<|lrW () [0,1,2,3,8,9] (fun(_:Unit) (_:Unit)=>[]) [0] [0] (fun _ _=>[]) Q Q (fun hF1 _ _ hr1=>cA [23] Q Q (MT [0] Q Q Q Q (fun _=>C0) fun x1 _=>fun hG1=>un 1 [0,24] [] [] Q Q Q Q Q Q fun hl2=>sR Q<|pnR 1 hl2 Q<|qU (hT:=tok) () [1] (re hG1 Q hr1 hF1) Q results225 Q Q Q Q)<|cA [29] Q Q (fun hG1=>nomatch hG1)<|fun hG1=>nomatch hG1)
theorem aBH{x:Int}:V0 prog κ 259 (TC x) [.i .u64 x] I:=
 dA tok call259 func259 results259 Q Q<|eN 0 0 (fun(p:Int×Int)=>B8 p.1 p.2) [] (fun(p:Int×Int) (_:Unit)=>[(0,.i .u64 p.1),(2,I p.2)]) [] (fun p _=>[]) Q (cA [4] Q Q (cO (p:=(o9 .u64 x 32,32)) [] Q Q)<|cO (p:=(x,0)) [] Q Q) fun⟨x1,x2⟩ _=>eN 0 0 (fun(p:Int×Int)=>B7 p.1 p.2) [] (fun(p:Int×Int) (_:Unit)=>[(0,.i .u64 p.1),(2,I p.2)]) [] (fun p _=>[]) Q (cA [8] Q Q (cO (p:=(o9 .u64 x1 16,bE (x2+16))) [] Q Q)<|cO (p:=(x1,x2)) [] Q Q) fun⟨x3,x4⟩ _=>eN 0 0 (fun(p:Int×Int)=>B6 p.1 p.2) [] (fun(p:Int×Int) (_:Unit)=>[(0,.i .u64 p.1),(2,I p.2)]) [] (fun p _=>[]) Q (cA [14] Q Q (cO (p:=(o9 .u64 x3 8,bE (x4+8))) [] Q Q)<|cO (p:=(x3,x4)) [] Q Q) fun⟨x5,x6⟩ _=>fun hF=>qsi Q Q Q Q Q hF fun x7 _ hF=>wi hF<|eD Q Q
theorem aFL{x:Int}:V0 prog κ 226 (zW x) [.i .u64 x] I:=
 dA tok call226 func226 results226 Q Q<|c0 Q (fun _=>aBH) fun x1=>eD Q Q
theorem aBI{x:List Int}{s1:AC}:VS prog κ 184 (A2 x) [.h s1 x.length] [] [ow s1 (x:List Int)] (fun(r:(List Int)) (y:Unit)=>.t []) (fun(r:(List Int)) (y:Unit)=>[.o (bH [AC.v s1 x.length] r)]):=
 dA tok call184 func184 results184 Q Q<|c0 Q (fun _=>aFL) fun x1=>MT [0] Q Q Q Q (fun _=>KT) fun x2 _=>fun hF=>un 1 [0,3,5] [] [] Q Q Q Q Q Q fun hl1=>sF Q<|pnR 1 hl1 Q<|qU (hT:=tok) () [1] hF Q results184 Q Q Q Q
theorem VV{s:List Int}{s1:AC}:VS prog κ 185 (slices_Compact_int s) [.h s1 s.length] [] [ow s1 s] (fun r (y:AC)=>.h y r.length) (fun r y=>[ow y r]):=
 bEK bCP call185
theorem aIM{l:List aS}{s1:AC}(h1:bS κ s1 l):VS prog κ 124 (KJ l) [.h s1 l.length] [] [] (fun r (y:AC)=>.h y r.length) (fun r y=>[ow y r]):=
 dA tok call124 func124 results124 Q Q<|fun hF=>lt0 (α:=Int) bW Q Q Q Q fun s2=>wi hF<|W4 s2 [8,9] (fun(p:(List Int)×Int) (s4:AC)=>[(3,.h s4 p.1.length),(10,I p.2)]) [0] [] (fun p s4=>[ow s4 (p.1:List Int)]) id [] (fun(x5:(List Int)) (s5:AC)=>[(3,.h s5 x5.length)]) [] (fun x5 s5=>[ow s5 (x5:List Int)]) Q Q (fun hF1 ⟨x3,x4⟩ s4 hr1=>cA [11] Q Q (eN 2 0 (A3 x4) [8,9,10] (fun(x8:(List Int)) (s7:AC)=>[(3,.h s7 x8.length)]) [] (fun x8 s7=>[ow s7 (x8:List Int)]) Q (HU L5 Q h1 Q fun x9 _ _=>c0 Q (fun _=>SH) fun x10=>cA [18] Q Q (fun hG1=>lt1 Q bW Q Q Q Q fun s8=>ap 0 bW Q Q Q Q Q Q Q (fun h=>(h.o 3 Q)) Q Q hG1 fun hG1 s9=>wi hG1<|lZ s9 [0] Q Q)<|lZ s4 [0] Q Q) fun x8 s7=>nxW s7 [0] Q)<|bkW s4 [0] Q) fun x5 s5=>wm (F:=I5 x5) Q<|MT [0] Q Q Q Q (fun _=>aBI) fun x6 _=>fun hF=>un 1 [3,24] [] [] Q Q Q Q Q Q fun hl2=>wi hF<|MT [1] Q Q Q Q (fun _=>VV) fun x7 s6=>lY s6 [2] Q Q
theorem XZ{s:Seen}{k0:Int}{k1:bY}{b0 b1 b2:Nat×Nat}:VS prog κ 125 (vI s k0 k1) [.g [I s.bY,I s.fX],.p 0 0,.p 1 0] [b0,b1,b2] [.ro 0 [I k0],.ro 1 [.p 2 0],.ro 2 [I k1.Head,I k1.fX,I k1.gP]] (fun r (_:Unit)=>.b r) (fun _ _=>[]):=
 dA tok call125 func125 results125 Q Q<|gY 0 4 pL [] 4 [] Q (jY aH [0,1,2,3] Q<|gX [8,9] Q Q (cO [] Q Q)<|cO [] Q Q) fun x1=>eD Q Q
theorem aBJ{t:Table}{w_:Int}{s1 s2 s3 s4 s5 s6 s7 s8 s9 s10 s11:AC}{b0:Nat×Nat}:VS prog κ 53 (A4 t w_) [.p 0 0,I w_] [b0] ([.box 0 (IQ t s1 s2 s3 s4 s5 s6 s7 s8 s9 s10 s11)]++(MY t s1 s2 s3 s4 s5 s6 s7 s8 s9 s10 s11 [])) (fun(r:Table) (y:AC)=>.t []) (fun(r:Table) (y:AC)=>([.box 0 (IQ r s1 s2 s3 s4 s5 s6 s7 s8 s9 s10 y)]++(MY r s1 s2 s3 s4 s5 s6 s7 s8 s9 s10 y []))):=
 dA tok call53 func53 results53 Q Q<|sG aX 9 Q Q Q fun x1 h1 s12 h2=>fun hF=>nK 1 h2 h1 Q Q Q Q Q<|wi hF<|c1 Q (fun h=>aIM (h.o 17 Q)) fun x2 s13=>eN 0 2 (fun(p:(List bY)×(List aE))=>nX t w_ x2 p.1 p.2) [0,1,4,5] (fun(p:(List bY)×(List aE)) (_:Unit)=>[]) [22,1,2,3,4,5,6,7,10,11,14] (fun p _=>[ow s8 (p.1:List bY),ow s9 (p.2:List aE),.box 0 [.h s1 t.aC.Mem.Heap.Bytes.length,.h s2 t.aC.Mem.Heap.Class.length,.h s3 t.aC.Mem.aD.Global.length,.h s4 t.aC.Mem.aD.Own.length,I t.aC.aA.aG,.h s5 t.aC.aA.cH.length,.h s6 t.aC.aN.length,.h s7 t.aC.qH.length,.h s8 p.1.length,.h s9 p.2.length,.h s10 t.dU.length,.h s11 t.Log.length,I t.aI]]) Q (cA [25] Q Q (sG oI 22 Q Q Q fun x7 h7 _ h8=>fun hF=>nK 2 h8 h7 Q Q Q Q Q<|cqS oI 23 [] h7 () Q Q Q Q Q Q Q Q Q<|wi hF<|jY aH [0,14,25,26] Q<|sG AE 8 Q Q Q fun x8 h9 _ h10=>fun hF=>nK 4 h10 h9 Q Q Q Q Q<|wi hF<|eN 0 6 (iM t w_ x2 x7) [0,1,4,5,6,7] (fun(x9:Bool) (_:Unit)=>[(39,.b x9)]) [27,1,2,3,4,5,6,7,10,11,0,14,30] (fun x9 _=>[ow s8 (t.b8:List bY),ow s9 (t.aO:List aE),.ro 3 [I x7],.ro 5 [.p 4 0]]) Q (fun hF=>shS [3,5] Q Q<|wi hF<|gX [44,45] Q Q (fun hF=>sF Q<|kD AE 28 [] h9 () Q Q Q Q Q Q Q<|fR Q Q<|kD aX 12 [15,16,17,18,19,20,21] h1 s12 Q Q Q Q Q Q Q<|fR Q Q<|nJ () [32,33,26,31,27,1,2,3,4,5,6,7,10,11,0,14,30] hF Q)<|fun hF=>mf [3,5] Q Q Q<|wi hF<|clP (n3:=4) [26,31,29] Q Q Q Q (fun h=>fun hB=>wZ (h.o 16 Q) (fkP (xs:=[.p 0 0,.p 1 0]) call125 hB Q fun _ _=>XZ)) fun x19=>fun hF=>sF Q<|kD AE 28 [] h9 () Q Q Q Q Q Q Q<|fR Q Q<|kD aX 12 [15,16,17,18,19,20,21] h1 s12 Q Q Q Q Q Q Q<|fR Q Q<|nJ () [32,33,26,31,27,1,2,3,4,5,6,7,10,11,0,14,30] hF Q) fun x9 _=>cA [39] Q Q (fun hF=>ro aX 1 15 1 Q Q Q Q hF fun x10 h11 hF s25=>wi hF<|eV 18 1 0 32 [20,21,22,23,24,25,26] Q Q Q Q Q (fun _=>eC) fun x11 _=>fun hF=>sR Q<|nR aX 17 [27,28,29,30,31,32,33] [] x11 s25 Q Q Q Q Q Q Q Q<|fR Q Q<|qV s9 cR.symm [] [(14,9)] Q Q Q<|fR Q Q<|qU (hT:=tok) s11 [14,5,6,7,8,9,10,11,0,34,12,13] hF Q results53 Q Q Q Q)<|fun hF=>ro AE 0 16 4 Q Q Q Q hF fun x12 h13 hF _=>wi hF<|cA [55,60] Q Q (fun hF=>ro aX 1 15 1 Q Q Q Q hF fun x13 h15 hF s26=>wi hF<|eV 21 1 0 32 [23,24,25,26,27,28,29] Q Q Q Q Q (fun _=>eC) fun x14 _=>fun hF=>sR Q<|nR aX 20 [30,31,32,33,34,35,36] [] x14 s26 Q Q Q Q Q Q Q Q<|fR Q Q<|qV s9 cR.symm [] [(14,9)] Q Q Q<|fR Q Q<|kD AE 17 [] h13 () Q Q Q Q Q Q Q<|fR Q Q<|qU (hT:=tok) s11 [14,5,6,7,8,9,10,11,38,37,12,13] hF Q results53 Q Q Q Q)<|eN 1 6 (nY t w_ x2 x7 x12) [0,1,4,5] (fun(x15:(List aE)) (_:Unit)=>[]) [4,5,6,7,8,9,10,11,12,13,15] (fun x15 _=>[ow s8 (t.b8.set x7.toNat ({x12 with gP:=bE (w_+1)}:bY):List bY),ow s9 (x15:List aE),.box 0 [.h s1 t.aC.Mem.Heap.Bytes.length,.h s2 t.aC.Mem.Heap.Class.length,.h s3 t.aC.Mem.aD.Global.length,.h s4 t.aC.Mem.aD.Own.length,I t.aC.aA.aG,.h s5 t.aC.aA.cH.length,.h s6 t.aC.aN.length,.h s7 t.aC.qH.length,.h s8 (t.b8.set x7.toNat ({x12 with gP:=bE (w_+1)}:bY)).length,.h s9 x15.length,.h s10 t.dU.length,.h s11 t.Log.length,I t.aI]]) Q (jY aH [2,3,14,15,16,19] Q<|fun hF=>ro aX 1 15 1 Q Q Q Q hF fun x17 h19 hF s28=>wi hF<|c0 Q (fun h=>uW (h.o 28 Q)) fun x18=>cA [74] Q Q (eN 0 6 (fun(_:Unit)=>B9 t w_ x2 x7 x12 x17) [0,1,4,5] (fun(_:Unit) (_:Unit)=>[]) [4,5,6,7,8,9,10,11,12,13,15] (fun _ _=>[ow s8 (t.b8.set x7.toNat ({x12 with gP:=bE (w_+1)}:bY):List bY),ow s9 (t.aO.set w_.toNat ({x17 with aQ:=x17.aQ++([x7])}:aE):List aE),.box 0 [.h s1 t.aC.Mem.Heap.Bytes.length,.h s2 t.aC.Mem.Heap.Class.length,.h s3 t.aC.Mem.aD.Global.length,.h s4 t.aC.Mem.aD.Own.length,I t.aC.aA.aG,.h s5 t.aC.aA.cH.length,.h s6 t.aC.aN.length,.h s7 t.aC.qH.length,.h s8 (t.b8.set x7.toNat ({x12 with gP:=bE (w_+1)}:bY)).length,.h s9 (t.aO.set w_.toNat ({x17 with aQ:=x17.aQ++([x7])}:aE)).length,.h s10 t.dU.length,.h s11 t.Log.length,I t.aI]]) Q (jY aH [2,3,14,15,16,19,22] Q<|fun hF=>nd hF fun hA2 hF=>(by refine cG Q Q ?_ ?_<;>exact lt1 Q bW Q Q Q Q fun s31=>have hq4:=rn hA2;ap 28 bW Q Q Q Q Q Q Q (fun h=>(h.o 30 Q)) Q Q hq4 fun hq4 s32=>sF Q<|nR aX 20 [23,24,25,26,27,28,29] [] ({x17 with aQ:=x17.aQ++([x7])}:aE) (s28.1,s28.2.1,s28.2.2.1,s28.2.2.2.1,s28.2.2.2.2.1,s32,s28.2.2.2.2.2.2) Q Q Q Q Q Q Q Q<|fR Q Q<|qV s9 cR.symm [] [(14,9)] Q Q Q<|fR Q Q<|nR AE 17 [] [] ({x12 with gP:=bE (w_+1)}:bY) () Q Q Q Q Q Q Q Q<|fR Q Q<|qV s8 cR.symm [] [(14,8)] Q Q Q<|fR Q Q<|nJ (p:=()) () [32,31,14,4,5,6,7,8,9,10,11,12,13,15] hF Q)) fun _ _=>cO (p:=(t.aO.set w_.toNat ({x17 with aQ:=x17.aQ++([x7])}:aE))) [0,1,2,3,4,5,6,7,8,9,10,11,12,13] Q Q)<|fun hF=>sF Q<|kD aX 20 [23,24,25,26,27,28,29] h19 s28 Q Q Q Q Q Q Q<|fR Q Q<|nR AE 17 [] [] ({x12 with gP:=bE (w_+1)}:bY) () Q Q Q Q Q Q Q Q<|fR Q Q<|qV s8 cR.symm [] [(14,8)] Q Q Q<|fR Q Q<|nJ () [31,30,14,4,5,6,7,8,9,10,11,12,13,15] hF Q) fun x15 _=>fun hF=>ro aX 1 13 1 Q Q Q Q hF fun x16 h17 hF s27=>sF Q<|nR aX 14 [17,18,19,20,21,22,23] [] ({x16 with K:=bE (x16.K+1)}:aE) s27 Q Q Q Q Q Q Q Q<|fR Q Q<|qV s9 cR.symm [] [(2,9)] Q Q Q<|fR Q Q<|nJ (p:=(t.b8.set x7.toNat ({x12 with gP:=bE (w_+1)}:bY),x15.set w_.toNat ({x16 with K:=bE (x16.K+1)}:aE))) () [0,24,2,3,4,5,6,7,8,9,10,11,12,13] hF Q)<|fun hF=>sF Q<|kD aX 12 [15,16,17,18,19,20,21] h1 s12 Q Q Q Q Q Q Q<|fR Q Q<|nJ (p:=(t.b8,t.aO)) () [8,23,0,22,1,2,3,4,5,6,7,10,11,14] hF Q) fun⟨x3,x4⟩ _=>fun hF=>ro aX 1 13 1 Q Q Q Q hF fun x5 h3 hF s14=>wi hF<|cA [98] Q Q (eN 0 2 (fun(_:Unit)=>sS t w_ x3 x4 x5) [0,4] (fun(_:Unit) (s15:AC)=>[]) [4,5,6,7,8,9,10,0,11,13] (fun _ s15=>[ow s9 (x4:List aE),ow s15 (t.Log++([(⟨2,w_,x5.aI,0,[],[]⟩:lV)]):List lV),.box 0 [.h s1 t.aC.Mem.Heap.Bytes.length,.h s2 t.aC.Mem.Heap.Class.length,.h s3 t.aC.Mem.aD.Global.length,.h s4 t.aC.Mem.aD.Own.length,I t.aC.aA.aG,.h s5 t.aC.aA.cH.length,.h s6 t.aC.aN.length,.h s7 t.aC.qH.length,.h s8 x3.length,.h s9 x4.length,.h s10 t.dU.length,.h s15 (t.Log++([(⟨2,w_,x5.aI,0,[],[]⟩:lV)])).length,I t.aI]]) Q (jY aH [13,16] Q<|fun hF=>nd hF fun hA1 hF=>cG Q Q (nw iT Q<|nw dJ Q<|RO O6 [24,25] ((⟨2,w_,x5.aI,0,[],[]⟩:lV)) (⟨none,0⟩,⟨none,0⟩) gU Q Q Q Q Q Q Q Q Q Q Q Q Q fun s19=>have hq1:=rn hA1;ZZ 12 26 gU Q Q Q Q Q Q Q Q Q Q Q hq1 fun hq1 s20=>sF Q<|kD aX 14 [17,18,19,20,21,22,23] h3 s14 Q Q Q Q Q Q Q<|fR Q Q<|nJ (p:=()) s20 [28,27,2,4,5,6,7,8,9,10,0,11,13] hF Q) ((by refine cG Q Q ?_ ?_<;>exact nw iT Q<|nw dJ Q<|RO O6 [24,25] ((⟨2,w_,x5.aI,0,[],[]⟩:lV)) (⟨none,0⟩,⟨none,0⟩) gU Q Q Q Q Q Q Q Q Q Q Q Q Q fun s21=>have hq2:=rn hA1;ZZ 12 26 gU Q Q Q Q Q Q Q Q Q Q Q hq2 fun hq2 s22=>sF Q<|kD aX 14 [17,18,19,20,21,22,23] h3 s14 Q Q Q Q Q Q Q<|fR Q Q<|nJ (p:=()) s22 [28,27,2,4,5,6,7,8,9,10,0,11,13] hF Q))) fun _ s15=>fun hF=>ro aX 0 12 1 Q Q Q Q hF fun x6 h5 hF s16=>sF Q<|nR aX 13 [16,17,18,19,20,21,22] [] ({x6 with Pc:=8,K:=0}:aE) s16 Q Q Q Q Q Q Q Q<|fR Q Q<|qV s9 cR.symm [] [(2,9)] Q Q Q<|fR Q Q<|qU (hT:=tok) s15 [2,3,4,5,6,7,8,9,10,23,11,1] hF Q results53 Q Q Q Q)<|fun hF=>sF Q<|kD aX 14 [17,18,19,20,21,22,23] h3 s14 Q Q Q Q Q Q Q<|qU (hT:=tok) s11 [2,4,5,6,7,8,9,10,0,24,11,12] hF Q results53 Q Q Q Q
theorem UA{t:Table}{w_:Int}{s1 s2 s3 s4 s5 s6 s7 s8 s9 s10 s11:AC}{b0:Nat×Nat}:VS prog κ 54 (qQ t w_) [.p 0 0,I w_] [b0] ([.box 0 (IQ t s1 s2 s3 s4 s5 s6 s7 s8 s9 s10 s11)]++(MY t s1 s2 s3 s4 s5 s6 s7 s8 s9 s10 s11 [])) (fun(r:Table) (y:Unit)=>.t []) (fun(r:Table) (y:Unit)=>([.box 0 (IQ r s1 s2 s3 s4 s5 s6 s7 s8 s9 s10 s11)]++(MY r s1 s2 s3 s4 s5 s6 s7 s8 s9 s10 s11 []))):=
 dA tok call54 func54 results54 Q Q<|sG aX 9 Q Q Q fun x1 h1 s12 h2=>fun hF=>nK 1 h2 h1 Q Q Q Q Q<|wi hF<|eN 0 2 (fun(_:Unit)=>sW t w_ x1) [0,1,4] (fun(_:Unit) (_:Unit)=>[(22,.b (decide ((x1.Reads.length:Int)<=x1.K)))]) [1,2,3,4,5,6,7,8,10,11,0,14] (fun _ _=>[ow s9 (t.aO:List aE)]) Q (jY aH [0,14] Q<|fun hF=>(by refine cG Q Q ?_ ?_<;>exact sF Q<|kD aX 12 [15,16,17,18,19,20,21] h1 s12 Q Q Q Q Q Q Q<|fR Q Q<|nJ (p:=()) () [22,1,2,3,4,5,6,7,8,10,11,0,14] hF Q)) fun _ _=>cA [22] Q Q (fun hF=>ro aX 0 12 1 Q Q Q Q hF fun x2 h3 hF s13=>sR Q<|nR aX 13 [16,17,18,19,20,21,22] [] ({x2 with Pc:=9,K:=0}:aE) s13 Q Q Q Q Q Q Q Q<|fR Q Q<|qV s9 cR.symm [] [(11,9)] Q Q Q<|fR Q Q<|qU (hT:=tok) () [11,1,2,3,4,5,6,7,8,23,9,10] hF Q results54 Q Q Q Q)<|eN 0 4 (fun(p:Int×Int)=>sV t w_ p.1 p.2) [0,1,4] (fun(p:Int×Int) (_:Unit)=>[(5,.p 3 0)]) [1,2,3,4,5,6,7,8,0,9,10,11,12] (fun p _=>[.box 3 [I p.1,I p.2]]) Q (jY aH [11,12] Q<|fun hF=>bd hF fun x13 hA1 hF=>bd hF fun x14 hA2 hF=>aAG Q Q (have hq1:=rb hA1;ro aX 0 12 1 Q Q Q Q hq1 fun u1 h15 hq1 s17=>match u1,hq1 with | _,rfl=>cG Q Q (have hq2:=rb hA2;wi hq2<|sG VG 17 Q Q Q fun u2 h17 _ h18=>fun hq2=>nK 2 h18 h17 Q Q Q Q Q<|match u2,hq2 with | _,rfl=>(by refine cG Q Q ?_ ?_<;>exact sF Q<|kD VG 23 [] h17 () Q Q Q Q Q Q Q<|fR Q Q<|kD aX 13 [16,27,18,19,20,21,22] h15 s17 Q Q Q Q Q Q Q<|fR Q Q<|nJ (p:=(x14.bY,x14.fX)) () [26,1,2,3,4,5,6,7,8,28,9,10,11,12] hF Q)) (have hq3:=rb hA2;wi hq3<|sG VG 17 Q Q Q fun u3 h19 _ h20=>fun hq3=>nK 3 h20 h19 Q Q Q Q Q<|match u3,hq3 with | _,rfl=>sF Q<|swR 3 2 Q<|fD Q Q<|kD VG 24 [] h19 () Q Q Q Q Q Q Q<|fR Q Q<|kD aX 13 [16,27,18,19,20,21,22] h15 s17 Q Q Q Q Q Q Q<|fR Q Q<|nJ (p:=(x14.bY,x14.fX)) () [23,1,2,3,4,5,6,7,8,28,9,10,11,12] hF Q)) (have hq4:=rb hA1;ro aX 0 12 1 Q Q Q Q hq4 fun u4 h21 hq4 s18=>match u4,hq4 with | _,rfl=>cG Q Q (have hq5:=rb hA2;wi hq5<|sG VG 17 Q Q Q fun u5 h23 _ h24=>fun hq5=>nK 2 h24 h23 Q Q Q Q Q<|match u5,hq5 with | _,rfl=>(by refine cG Q Q ?_ ?_<;>exact sF Q<|kD VG 23 [] h23 () Q Q Q Q Q Q Q<|fR Q Q<|kD aX 13 [16,27,18,19,20,21,22] h21 s18 Q Q Q Q Q Q Q<|fR Q Q<|nJ (p:=(x14.bY,x14.fX)) () [26,1,2,3,4,5,6,7,8,28,9,10,11,12] hF Q)) (have hq6:=rb hA2;wi hq6<|sG VG 17 Q Q Q fun u6 h25 _ h26=>fun hq6=>nK 3 h26 h25 Q Q Q Q Q<|match u6,hq6 with | _,rfl=>sF Q<|swR 3 2 Q<|fD Q Q<|kD VG 24 [] h25 () Q Q Q Q Q Q Q<|fR Q Q<|kD aX 13 [16,27,18,19,20,21,22] h21 s18 Q Q Q Q Q Q Q<|fR Q Q<|nJ (p:=(x14.bY,x14.fX)) () [23,1,2,3,4,5,6,7,8,28,9,10,11,12] hF Q)) ((by refine cG Q Q ?_ ?_<;>exact have hq7:=rb hA1;ro aX 0 12 1 Q Q Q Q hq7 fun u7 h27 hq7 s19=>match u7,hq7 with | _,rfl=>have hq8:=rb hA2;wi hq8<|sG VG 18 Q Q Q fun u8 h29 _ h30=>fun hq8=>nK 3 h30 h29 Q Q Q Q Q<|match u8,hq8 with | _,rfl=>sF Q<|swR 3 2 Q<|fD Q Q<|kD VG 24 [] h29 () Q Q Q Q Q Q Q<|fR Q Q<|kD aX 14 [17,27,19,20,21,22,23] h27 s19 Q Q Q Q Q Q Q<|fR Q Q<|nJ (p:=(x14.bY,x14.fX)) () [13,1,2,3,4,5,6,7,8,28,9,10,11,12] hF Q))) fun⟨x3,x4⟩ _=>eN 0 6 (fun(p:Int×Int×Int)=>sU t w_ x4 p.1 p.2.1 p.2.2) [0,1,4,5] (fun(p:Int×Int×Int) (_:Unit)=>[(6,.p 5 0)]) [1,2,3,4,5,6,7,8,9,10,11,12,13,0] (fun p _=>[.box 5 [I p.1,I p.2.1,I p.2.2]]) Q (jY aH [0,12,13] Q<|sG AE 8 Q Q Q fun x12 h9 _ h10=>fun hF=>nK 4 h10 h9 Q Q Q Q Q<|(by refine cG Q Q ?_ ?_<;>exact sF Q<|kD AE 14 [] h9 () Q Q Q Q Q Q Q<|fR Q Q<|nJ (p:=(x12.Head,x12.fX,x12.gP)) () [17,1,2,3,4,5,6,7,18,9,10,11,12,13,0] hF Q)) fun⟨x5,x6,x7⟩ _=>gY 0 6 (fI t w_) [0,4] 63 [1,2,3,4,5,6,7,8,9,10,11,12,13] Q (gX [49,50] Q Q (gX [55,56,57] Q Q (cO [1,2,3,4,5,6,7,8,9,10,11,12,13] Q Q)<|cO [1,2,3,4,5,6,7,8,9,10,11,12,13] Q Q)<|cO [1,2,3,4,5,6,7,8,9,10,11,12,13] Q Q) fun x8=>cA [63] Q Q (fun hF=>ro aX 8 12 1 Q Q Q Q hF fun x9 h5 hF s14=>wi hF<|eV 14 1 0 32 [16,17,18,19,20,21,22] Q Q Q Q Q (fun _=>eC) fun x10 _=>fun hF=>sR Q<|nR aX 13 [23,24,25,26,27,28,29] [] x10 s14 Q Q Q Q Q Q Q Q<|fR Q Q<|qV s9 cR.symm [] [(11,9)] Q Q Q<|fR Q Q<|qU (hT:=tok) () [11,0,1,2,3,4,5,6,7,30,9,10] hF Q results54 Q Q Q Q)<|fun hF=>ro aX 8 12 1 Q Q Q Q hF fun x11 h7 hF s15=>sF Q<|nR aX 13 [16,17,18,19,20,21,22] [] ({x11 with K:=bE (x11.K+1)}:aE) s15 Q Q Q Q Q Q Q Q<|fR Q Q<|qV s9 cR.symm [] [(11,9)] Q Q Q<|fR Q Q<|qU (hT:=tok) () [11,0,1,2,3,4,5,6,7,23,9,10] hF Q results54 Q Q Q Q
theorem EY{j:aE}{x:aS}{s1 s2 s3 s4 s5 s6 s7:AC}{b0:Nat×Nat}:VS prog κ 126 (oY j x) [.p 0 0,.g [I x.Key,.b x.FR,I x.dO]] [b0] [.box 0 [.b j.bX,.b j.Batch.Collect,.h s1 j.Batch.aY.length,I j.aI,I j.Pc,I j.At,I j.K,I j.bY,I j.fX,I j.H,I j.dB,I j.Node.Key,I j.Node.dO,I j.Node.Next,.b j.Found,I j.Code,I j.Sub.Kind,I j.Sub.A,I j.Sub.Pc,I j.Sub.E,I j.Sub.Row,I j.Sub.B,I j.Sub.H,I j.Sub.Out,I j.Sub.Code,.b j.Sub.cJ,.h s2 j.Reads.length,.h s3 j.aB.length,.h s4 j.dJ.length,.h s5 j.dF.length,.h s6 j.aQ.length,.h s7 j.bA.length],ow s1 (j.Batch.aY:List iT),ow s2 (j.Reads:List Seen),ow s3 (j.aB:List aS),ow s4 (j.dJ:List dJ),ow s5 (j.dF:List Int),ow s6 (j.aQ:List Int),ow s7 (j.bA:List Int)] (fun(r:aE) (y:Unit)=>.t []) (fun(r:aE) (y:Unit)=>[.box 0 [.b r.bX,.b r.Batch.Collect,.h s1 r.Batch.aY.length,I r.aI,I r.Pc,I r.At,I r.K,I r.bY,I r.fX,I r.H,I r.dB,I r.Node.Key,I r.Node.dO,I r.Node.Next,.b r.Found,I r.Code,I r.Sub.Kind,I r.Sub.A,I r.Sub.Pc,I r.Sub.E,I r.Sub.Row,I r.Sub.B,I r.Sub.H,I r.Sub.Out,I r.Sub.Code,.b r.Sub.cJ,.h s2 r.Reads.length,.h s3 r.aB.length,.h s4 r.dJ.length,.h s5 r.dF.length,.h s6 r.aQ.length,.h s7 r.bA.length],ow s1 r.Batch.aY,ow s2 r.Reads,ow s3 r.aB,ow s4 r.dJ,ow s5 r.dF,ow s6 r.aQ,ow s7 r.bA]):=
 dA tok call126 func126 results126 Q Q<|cA [8] Q Q (FC () [0,1,2,3,4,5,6,7] Q Q)<|FC () [0,1,2,3,4,5,6,7] Q Q
theorem TU{m:Mem}{h:Int}{s1 s2 s3 s4:AC}(h1:bS κ s1 m.Heap.Bytes)(h2:bS κ s2 m.Heap.Class)(h3:bS κ s3 m.aD.Global)(h4:bS κ s4 m.aD.Own):V0 prog κ 186 (zX m h) [.g (gM m s1 s2 s3 s4),I h] I:=
 dA tok call186 func186 results186 Q Q<|c0 Q (fun h=>HL (h.a h1) (h.a h2) (h.a h3) (h.a h4)) fun x1=>cA [5,9] Q Q (eD Q Q)<|c0 Q (fun h=>VR (h.a h1) (h.a h2)) fun x2=>cA [10,16] Q Q (eD Q Q)<|eD Q Q
theorem qD{m:Mem}{h next_:Int}{s1 s2 s3 s4:AC}(h1:bS κ s1 m.Heap.Bytes)(h2:bS κ s2 m.Heap.Class)(h3:bS κ s3 m.aD.Global)(h4:bS κ s4 m.aD.Own):VS prog κ 127 (NZ m h next_) [.g (gM m s1 s2 s3 s4),I h,I next_] [] [] (fun r (y:A4C)=>.t [.g (yM r.1 y),I r.2]) (fun r y=>(zM r.1 y [])):=
 dA tok call127 func127 results127 Q Q<|c1 Q (fun h=>wV (h.a h1) (h.a h2) (h.a h3) (h.a h4)) fun x1 s5=>eN 0 3 (fun(p:Bool×Mem)=>EH m h next_ p.1 p.2) [1,2,3,6,8] (fun(p:Bool×Mem) (_:Unit)=>[(19,.b p.1)]) [0,1] (fun p _=>(zM p.2 s5 [.box 2 (yM p.2 s5)])) Q (c0 Q (fun h=>KR (h.a h1) (h.a h2) (h.a h3) (h.a h4)) fun x10=>gX [14,15] Q Q (cO (p:=(true,x1)) [2,3,4,5,6,0,1] Q Q)<|c0 Q (fun _=>uQ) fun x11=>cO (p:=(!x11,x1)) [2,3,4,5,6,0,1] Q Q) fun⟨x2,x3⟩ _=>cA [19] Q Q (lY s5 [0,1,2,3] Q Q)<|c0 Q (fun h=>TU (h.a h1) (h.a h2) (h.a h3) (h.a h4)) fun x4=>eN 0 3 (LU x4) [6,8,9] (fun(x5:Mem) (_:Unit)=>[]) [6] (fun x5 _=>(zM x5 s5 [.box 2 (yM x5 s5)])) Q (cA [25] Q Q (eN 0 3 (U4 x4) [6,8,9] (fun(x6:Mem) (_:Unit)=>[]) [6] (fun x6 _=>(zM x6 s5 [.box 2 (yM x6 s5)])) Q (jY aH [5,6] Q<|fun hF=>bd hF fun x7 hA1 hF=>bd hF fun x8 hA2 hF=>bd hF fun x9 hA3 hF=>cG Q Q (FM hA1 Q (fun h=>xA (h.a h1) (h.a h2))<|FM hA2 Q (fun _=>dW)<|have hq3:=rb hA3;wi hq3<|MT [0] Q Q Q Q (fun _=>gO) fun u3 _=>fun hq3=>un 7 [28] [] [(4,0)] Q Q Q Q Q Q fun hl2=>match u3,hq3 with | _,rfl=>wi hF<|cO (p:=((⟨(⟨x9,x3.Heap.Class⟩:Heap),x3.aD⟩:Mem))) [7,1,2,3,4,6] Q Q) (FM hA1 Q (fun h=>xA (h.a h1) (h.a h2))<|cG Q Q (FM hA2 Q (fun _=>dW)<|have hq6:=rb hA3;wi hq6<|MT [0] Q Q Q Q (fun _=>gO) fun u6 _=>fun hq6=>un 7 [28] [] [(4,0)] Q Q Q Q Q Q fun hl3=>match u6,hq6 with | _,rfl=>wi hF<|cO (p:=((⟨(⟨x9,x3.Heap.Class⟩:Heap),x3.aD⟩:Mem))) [7,1,2,3,4,6] Q Q) (FM hA2 Q (fun _=>dW)<|have hq8:=rb hA3;wi hq8<|MT [0] Q Q Q Q (fun _=>gO) fun u8 _=>fun hq8=>un 7 [28] [] [(4,0)] Q Q Q Q Q Q fun hl4=>match u8,hq8 with | _,rfl=>wi hF<|cO (p:=((⟨(⟨x9,x3.Heap.Class⟩:Heap),x3.aD⟩:Mem))) [7,1,2,3,4,6] Q Q))) fun x6 _=>cO (p:=(x6)) [0,1,2,3,4,5] Q Q)<|cO [0,1,2,3,4,6] Q Q) fun x5 _=>lY s5 [0,1,2,3] Q Q
theorem aK5{n:gW}:V0 prog κ 229 (N0 n) [.g [I n.Key,I n.dO,I n.Next]] .b:=
 dA tok call229 func229 results229 Q Q<|gY 0 1 wN [] 2 [] Q (c0 Q (fun _=>bL) fun x2=>gX [5,6] Q Q (c0 Q (fun _=>bL) fun x3=>gX [9,10,11] Q Q (c0 Q (fun _=>uQ) fun x4=>cO [] Q Q)<|cO [] Q Q)<|cO [] Q Q) fun x1=>eD Q Q
theorem aIN{m:Mem}{h:Int}{n:gW}{s1 s2 s3 s4:AC}(h1:bS κ s1 m.Heap.Bytes)(h2:bS κ s2 m.Heap.Class)(h3:bS κ s3 m.aD.Global)(h4:bS κ s4 m.aD.Own):VS prog κ 190 (KK m h n) [.g (gM m s1 s2 s3 s4),I h,.g [I n.Key,I n.dO,I n.Next]] [] [] (fun r (y:A4C)=>.t [.g (yM r.1 y),I r.2]) (fun r y=>(zM r.1 y [])):=
 dA tok call190 func190 results190 Q Q<|c1 Q (fun h=>wV (h.a h1) (h.a h2) (h.a h3) (h.a h4)) fun x1 s5=>eN 0 4 (fun(p:Bool×Mem)=>A5 m h n p.1 p.2) [1,3,5,6,8] (fun(p:Bool×Mem) (_:Unit)=>[(19,.b p.1)]) [0,1,2] (fun p _=>(zM p.2 s5 [.box 3 (yM p.2 s5)])) Q (c0 Q (fun h=>KR (h.a h1) (h.a h2) (h.a h3) (h.a h4)) fun x12=>gX [14,15] Q Q (cO (p:=(true,x1)) [3,4,5,6,7,0,1,2] Q Q)<|c0 Q (fun _=>aK5) fun x13=>cO (p:=(!x13,x1)) [3,4,5,6,7,0,1,2] Q Q) fun⟨x2,x3⟩ _=>cA [19] Q Q (lY s5 [0,1,2,3] Q Q)<|c0 Q (fun h=>TU (h.a h1) (h.a h2) (h.a h3) (h.a h4)) fun x4=>eN 0 4 (I7 x4) [6,8,9] (fun(x5:Mem) (_:Unit)=>[]) [7] (fun x5 _=>(zM x5 s5 [.box 3 (yM x5 s5)])) Q (cA [25] Q Q (eN 0 4 (TE x4) [6,8,9] (fun(x6:Mem) (_:Unit)=>[]) [7] (fun x6 _=>(zM x6 s5 [.box 3 (yM x6 s5)])) Q (jY aH [5,6,7] Q<|fun hF=>bd hF fun x7 hA1 hF=>bd hF fun x8 hA2 hF=>bd hF fun x9 hA3 hF=>nd hF fun hA4 hF=>bd hF fun x10 hA5 hF=>nd hF fun hA6 hF=>bd hF fun x11 hA7 hF=>cG Q Q (FM hA1 Q (fun h=>xA (h.a h1) (h.a h2))<|FM hA2 Q (fun _=>dW)<|FM hA3 Q (fun _=>dW)<|have hq4:=rn hA4;cat Q Q Q Q hq4 fun hq4=>FM hA5 Q (fun _=>dW)<|have hq6:=rn hA6;cat Q Q Q Q hq6 fun hq6=>have hq7:=rb hA7;wi hq7<|MT [0] Q Q Q Q (fun _=>gO) fun u5 _=>fun hq7=>un 8 [28] [] [(4,0)] Q Q Q Q Q Q fun hl2=>match u5,hq7 with | _,rfl=>wi hF<|cO (p:=((⟨(⟨x11,x3.Heap.Class⟩:Heap),x3.aD⟩:Mem))) [8,1,2,3,4,7] Q Q) (FM hA1 Q (fun h=>xA (h.a h1) (h.a h2))<|cG Q Q (FM hA2 Q (fun _=>dW)<|FM hA3 Q (fun _=>dW)<|have hq11:=rn hA4;cat Q Q Q Q hq11 fun hq11=>FM hA5 Q (fun _=>dW)<|have hq13:=rn hA6;cat Q Q Q Q hq13 fun hq13=>have hq14:=rb hA7;wi hq14<|MT [0] Q Q Q Q (fun _=>gO) fun u10 _=>fun hq14=>un 8 [28] [] [(4,0)] Q Q Q Q Q Q fun hl3=>match u10,hq14 with | _,rfl=>wi hF<|cO (p:=((⟨(⟨x11,x3.Heap.Class⟩:Heap),x3.aD⟩:Mem))) [8,1,2,3,4,7] Q Q) (FM hA2 Q (fun _=>dW)<|cG Q Q (FM hA3 Q (fun _=>dW)<|have hq17:=rn hA4;cat Q Q Q Q hq17 fun hq17=>FM hA5 Q (fun _=>dW)<|have hq19:=rn hA6;cat Q Q Q Q hq19 fun hq19=>have hq20:=rb hA7;wi hq20<|MT [0] Q Q Q Q (fun _=>gO) fun u14 _=>fun hq20=>un 8 [28] [] [(4,0)] Q Q Q Q Q Q fun hl4=>match u14,hq20 with | _,rfl=>wi hF<|cO (p:=((⟨(⟨x11,x3.Heap.Class⟩:Heap),x3.aD⟩:Mem))) [8,1,2,3,4,7] Q Q) (FM hA3 Q (fun _=>dW)<|have hq22:=rn hA4;cat Q Q Q Q hq22 fun hq22=>cG Q Q (FM hA5 Q (fun _=>dW)<|have hq24:=rn hA6;cat Q Q Q Q hq24 fun hq24=>have hq25:=rb hA7;wi hq25<|MT [0] Q Q Q Q (fun _=>gO) fun u17 _=>fun hq25=>un 8 [28] [] [(4,0)] Q Q Q Q Q Q fun hl5=>match u17,hq25 with | _,rfl=>wi hF<|cO (p:=((⟨(⟨x11,x3.Heap.Class⟩:Heap),x3.aD⟩:Mem))) [8,1,2,3,4,7] Q Q) (FM hA5 Q (fun _=>dW)<|have hq27:=rn hA6;cat Q Q Q Q hq27 fun hq27=>have hq28:=rb hA7;wi hq28<|MT [0] Q Q Q Q (fun _=>gO) fun u19 _=>fun hq28=>un 8 [28] [] [(4,0)] Q Q Q Q Q Q fun hl6=>match u19,hq28 with | _,rfl=>wi hF<|cO (p:=((⟨(⟨x11,x3.Heap.Class⟩:Heap),x3.aD⟩:Mem))) [8,1,2,3,4,7] Q Q))))) fun x6 _=>cO (p:=(x6)) [0,1,2,3,4,5] Q Q)<|cO [0,1,2,3,4,7] Q Q) fun x5 _=>lY s5 [0,1,2,3] Q Q
theorem aBK{t:Table}{j:aE}{x:aS}{b:bY}{s1 s2 s3 s4 s5 s6 s7 s8 s9 s10 s11:AC}{s12 s13 s14 s15 s16 s17 s18:AC}{b0 b1 b2:Nat×Nat}:VS prog κ 128 (I8 t j x b) [.p 0 0,.p 1 0,.g [I x.Key,.b x.FR,I x.dO],.p 2 0] [b0,b1,b2] ([.box 0 (IQ t s1 s2 s3 s4 s5 s6 s7 s8 s9 s10 s11),.box 1 [.b j.bX,.b j.Batch.Collect,.h s12 j.Batch.aY.length,I j.aI,I j.Pc,I j.At,I j.K,I j.bY,I j.fX,I j.H,I j.dB,I j.Node.Key,I j.Node.dO,I j.Node.Next,.b j.Found,I j.Code,I j.Sub.Kind,I j.Sub.A,I j.Sub.Pc,I j.Sub.E,I j.Sub.Row,I j.Sub.B,I j.Sub.H,I j.Sub.Out,I j.Sub.Code,.b j.Sub.cJ,.h s13 j.Reads.length,.h s14 j.aB.length,.h s15 j.dJ.length,.h s16 j.dF.length,.h s17 j.aQ.length,.h s18 j.bA.length],.box 2 [I b.Head,I b.fX,I b.gP]]++(oBs t.aC s1 s2 s3 s4 s5 s6 s7 [ow s10 (t.dU:List aL),ow s11 (t.Log:List lV),ow s12 (j.Batch.aY:List iT),ow s13 (j.Reads:List Seen),ow s14 (j.aB:List aS),ow s15 (j.dJ:List dJ),ow s16 (j.dF:List Int),ow s17 (j.aQ:List Int),ow s18 (j.bA:List Int)])) (fun(r:Table×aE×bY) (y:A4C)=>.t []) (fun(r:Table×aE×bY) (y:A4C)=>([.box 0 [.h y.1 r.1.aC.Mem.Heap.Bytes.length,.h y.2.1 r.1.aC.Mem.Heap.Class.length,.h y.2.2.1 r.1.aC.Mem.aD.Global.length,.h y.2.2.2 r.1.aC.Mem.aD.Own.length,I r.1.aC.aA.aG,.h s5 r.1.aC.aA.cH.length,.h s6 r.1.aC.aN.length,.h s7 r.1.aC.qH.length,.h s8 t.b8.length,.h s9 t.aO.length,.h s10 r.1.dU.length,.h s11 r.1.Log.length,I r.1.aI],.box 1 [.b r.2.1.bX,.b r.2.1.Batch.Collect,.h s12 r.2.1.Batch.aY.length,I r.2.1.aI,I r.2.1.Pc,I r.2.1.At,I r.2.1.K,I r.2.1.bY,I r.2.1.fX,I r.2.1.H,I r.2.1.dB,I r.2.1.Node.Key,I r.2.1.Node.dO,I r.2.1.Node.Next,.b r.2.1.Found,I r.2.1.Code,I r.2.1.Sub.Kind,I r.2.1.Sub.A,I r.2.1.Sub.Pc,I r.2.1.Sub.E,I r.2.1.Sub.Row,I r.2.1.Sub.B,I r.2.1.Sub.H,I r.2.1.Sub.Out,I r.2.1.Sub.Code,.b r.2.1.Sub.cJ,.h s13 r.2.1.Reads.length,.h s14 r.2.1.aB.length,.h s15 r.2.1.dJ.length,.h s16 r.2.1.dF.length,.h s17 r.2.1.aQ.length,.h s18 r.2.1.bA.length],.box 2 [I r.2.2.Head,I r.2.2.fX,I r.2.2.gP]]++(oBs r.1.aC y.1 y.2.1 y.2.2.1 y.2.2.2 s5 s6 s7 [ow s10 r.1.dU,ow s11 r.1.Log,ow s12 r.2.1.Batch.aY,ow s13 r.2.1.Reads,ow s14 r.2.1.aB,ow s15 r.2.1.dJ,ow s16 r.2.1.dF,ow s17 r.2.1.aQ,ow s18 r.2.1.bA]))):=
 dA tok call128 func128 results128 Q Q<|jY aH [0,1,2,19] Q<|c0 Q (fun h=>CX (h.o 14 Q)) fun x1=>cA [39,46] Q Q (eV 1 1 0 32 [12,13,14,15,16,17,18] Q Q Q Q Q (fun _=>eC) fun x2 _=>FC (s1,s2,s3,s4) [0,1,2,3,4,5,6,7,8,9,10,11,20,21,22,23,24,25,26] Q Q)<|cA [49,54] Q Q (eN 0 4 (CA t j b) [0,1,3] (fun(x3:Table) (u:A4C)=>[]) [12,13,14,15,16,17,18,1,2] (fun x3 u=>(oBs x3.aC u.1 u.2.1 u.2.2.1 u.2.2.2 s5 s6 s7 [ow s10 (x3.dU:List aL),ow s11 (x3.Log:List lV),.box 0 [.h u.1 x3.aC.Mem.Heap.Bytes.length,.h u.2.1 x3.aC.Mem.Heap.Class.length,.h u.2.2.1 x3.aC.Mem.aD.Global.length,.h u.2.2.2 x3.aC.Mem.aD.Own.length,I x3.aC.aA.aG,.h s5 x3.aC.aA.cH.length,.h s6 x3.aC.aN.length,.h s7 x3.aC.qH.length,.h s8 t.b8.length,.h s9 t.aO.length,.h s10 x3.dU.length,.h s11 x3.Log.length,I x3.aI]])) Q (jY aH [1,2,19] Q<|sG oI 16 Q Q Q fun x4 h1 _ h2=>fun hF=>nK 4 h2 h1 Q Q Q Q Q<|bd hF fun x5 hA1 hF=>(by refine cG Q Q ?_ ?_<;>exact iS hA1 Q (fun h=>aIN (h.o 3 Q) (h.o 4 Q) (h.o 5 Q) (h.o 6 Q)) fun s24=>sF Q<|kD oI 20 [] h1 () Q Q Q Q Q Q Q<|fR Q Q<|nJ (p:=(({t with aC:=(⟨x5.1,t.aC.aA,t.aC.aN,t.aC.qH⟩:aC)}:Table))) s24 [23,24,25,26,7,8,9,10,11,0,12,13,14,15,27,17,18,1,2] hF Q)) fun x3 ⟨s19,s20,s21,s22⟩=>FC (s19,s20,s21,s22) [9,17,18,0,1,2,3,4,5,6,7,8,10,11,12,13,14,15,16] Q Q)<|sG oI 16 Q Q Q fun x6 h3 _ h4=>fun hF=>nK 4 h4 h3 Q Q Q Q Q<|sF Q<|kD oI 20 [] h3 () Q Q Q Q Q Q Q<|qU (hT:=tok) (s1,s2,s3,s4) [0,1,2,3,4,5,6,7,8,9,10,11,12,13,14,15,23,17,18] hF Q results128 Q Q Q Q
theorem ZN{t:Table}{w_:Int}{s1 s2 s3 s4 s5 s6 s7 s8 s9 s10 s11:AC}{b0:Nat×Nat}:VS prog κ 55 (xV t w_) [.p 0 0,I w_] [b0] ([.box 0 (IQ t s1 s2 s3 s4 s5 s6 s7 s8 s9 s10 s11)]++(MY t s1 s2 s3 s4 s5 s6 s7 s8 s9 s10 s11 [])) (fun(r:Table) (y:A4C)=>.t []) (fun(r:Table) (y:A4C)=>([.box 0 (IQ r y.1 y.2.1 y.2.2.1 y.2.2.2 s5 s6 s7 s8 s9 s10 s11)]++(MY r y.1 y.2.1 y.2.2.1 y.2.2.2 s5 s6 s7 s8 s9 s10 s11 []))):=
 dA tok call55 func55 results55 Q Q<|sG aX 9 Q Q Q fun x1 h1 s12 h2=>fun hF=>nK 1 h2 h1 Q Q Q Q Q<|wi hF<|eN 0 2 (fun(_:Unit)=>zA t w_ x1) [0,4] (fun(_:Unit) (_:Unit)=>[(22,.b (decide ((x1.aB.length:Int)<=x1.K)))]) [1,2,3,4,5,6,7,8,10,11,0,14] (fun _ _=>[ow s9 (t.aO:List aE)]) Q (jY aH [0,14] Q<|fun hF=>(by refine cG Q Q ?_ ?_<;>exact sF Q<|kD aX 12 [15,16,17,18,19,20,21] h1 s12 Q Q Q Q Q Q Q<|fR Q Q<|nJ (p:=()) () [22,1,2,3,4,5,6,7,8,10,11,0,14] hF Q)) fun _ _=>cA [22] Q Q (fun hF=>ro aX 0 12 1 Q Q Q Q hF fun x2 h3 hF s13=>sR Q<|nR aX 13 [16,17,18,19,20,21,22] [] ({x2 with Pc:=14}:aE) s13 Q Q Q Q Q Q Q Q<|fR Q Q<|qV s9 cR.symm [] [(11,9)] Q Q Q<|fR Q Q<|qU (hT:=tok) (s1,s2,s3,s4) [11,1,2,3,4,5,6,7,8,23,9,10] hF Q results55 Q Q Q Q)<|eN 0 4 (fun(p:Int×Bool×Int)=>y9 t w_ p.1 p.2.1 p.2.2) [0,4] (fun(p:Int×Bool×Int) (_:Unit)=>[(5,.p 3 0)]) [1,2,3,4,5,6,7,8,0,9,10,11,12] (fun p _=>[.box 3 [I p.1,.b p.2.1,I p.2.2]]) Q (jY aH [11,12] Q<|fun hF=>bd hF fun x30 hA6 hF=>bd hF fun x31 hA7 hF=>aAG Q Q (have hq32:=rb hA6;ro aX 0 12 1 Q Q Q Q hq32 fun u29 h23 hq32 s51=>match u29,hq32 with | _,rfl=>cG Q Q (have hq33:=rb hA7;wi hq33<|sG zD 18 Q Q Q fun u30 h25 _ h26=>fun hq33=>nK 2 h26 h25 Q Q Q Q Q<|match u30,hq33 with | _,rfl=>(by refine cG Q Q ?_ ?_<;>exact sF Q<|kD zD 23 [] h25 () Q Q Q Q Q Q Q<|fR Q Q<|kD aX 13 [16,17,27,19,20,21,22] h23 s51 Q Q Q Q Q Q Q<|fR Q Q<|nJ (p:=(x31.Key,x31.FR,x31.dO)) () [26,1,2,3,4,5,6,7,8,28,9,10,11,12] hF Q)) (have hq34:=rb hA7;wi hq34<|sG zD 18 Q Q Q fun u31 h27 _ h28=>fun hq34=>nK 3 h28 h27 Q Q Q Q Q<|match u31,hq34 with | _,rfl=>sF Q<|swR 3 2 Q<|fD Q Q<|kD zD 24 [] h27 () Q Q Q Q Q Q Q<|fR Q Q<|kD aX 13 [16,17,27,19,20,21,22] h23 s51 Q Q Q Q Q Q Q<|fR Q Q<|nJ (p:=(x31.Key,x31.FR,x31.dO)) () [23,1,2,3,4,5,6,7,8,28,9,10,11,12] hF Q)) (have hq35:=rb hA6;ro aX 0 12 1 Q Q Q Q hq35 fun u32 h29 hq35 s52=>match u32,hq35 with | _,rfl=>cG Q Q (have hq36:=rb hA7;wi hq36<|sG zD 18 Q Q Q fun u33 h31 _ h32=>fun hq36=>nK 2 h32 h31 Q Q Q Q Q<|match u33,hq36 with | _,rfl=>(by refine cG Q Q ?_ ?_<;>exact sF Q<|kD zD 23 [] h31 () Q Q Q Q Q Q Q<|fR Q Q<|kD aX 13 [16,17,27,19,20,21,22] h29 s52 Q Q Q Q Q Q Q<|fR Q Q<|nJ (p:=(x31.Key,x31.FR,x31.dO)) () [26,1,2,3,4,5,6,7,8,28,9,10,11,12] hF Q)) (have hq37:=rb hA7;wi hq37<|sG zD 18 Q Q Q fun u34 h33 _ h34=>fun hq37=>nK 3 h34 h33 Q Q Q Q Q<|match u34,hq37 with | _,rfl=>sF Q<|swR 3 2 Q<|fD Q Q<|kD zD 24 [] h33 () Q Q Q Q Q Q Q<|fR Q Q<|kD aX 13 [16,17,27,19,20,21,22] h29 s52 Q Q Q Q Q Q Q<|fR Q Q<|nJ (p:=(x31.Key,x31.FR,x31.dO)) () [23,1,2,3,4,5,6,7,8,28,9,10,11,12] hF Q)) ((by refine cG Q Q ?_ ?_<;>exact have hq38:=rb hA6;ro aX 0 12 1 Q Q Q Q hq38 fun u35 h35 hq38 s53=>match u35,hq38 with | _,rfl=>have hq39:=rb hA7;wi hq39<|sG zD 19 Q Q Q fun u36 h37 _ h38=>fun hq39=>nK 3 h38 h37 Q Q Q Q Q<|match u36,hq39 with | _,rfl=>sF Q<|swR 3 2 Q<|fD Q Q<|kD zD 24 [] h37 () Q Q Q Q Q Q Q<|fR Q Q<|kD aX 14 [17,18,27,20,21,22,23] h35 s53 Q Q Q Q Q Q Q<|fR Q Q<|nJ (p:=(x31.Key,x31.FR,x31.dO)) () [13,1,2,3,4,5,6,7,8,28,9,10,11,12] hF Q))) fun⟨x3,x4,x5⟩ _=>jY aH [0,12,13] Q<|c0 Q (fun _=>SH) fun x6=>sG AE 8 Q Q Q fun x7 h5 _ h6=>fun hF=>nK 4 h6 h5 Q Q Q Q Q<|ro aX 9 13 1 Q Q Q Q hF fun x8 h7 hF s14=>wi hF<|cA [53,54] Q Q (cA [72] Q Q (eV 18 1 0 32 [20,21,22,23,24,25,26] Q Q Q Q Q (fun _=>EY (j:=({x8 with Pc:=10,H:=x7.Head,dB:=0}:aE))) fun x9 _=>fun hF=>sF Q<|nR aX 17 [27,28,29,30,31,32,33] [] x9 s14 Q Q Q Q Q Q Q Q<|fR Q Q<|qV s9 cR.symm [] [(12,9)] Q Q Q<|fR Q Q<|kD AE 14 [] h5 () Q Q Q Q Q Q Q<|fR Q Q<|qU (hT:=tok) (s1,s2,s3,s4) [12,1,2,3,4,5,6,7,35,34,10,11] hF Q results55 Q Q Q Q)<|fun hF=>sF Q<|nR aX 17 [20,21,22,23,24,25,26] [] ({x8 with Pc:=10,H:=x7.Head,dB:=0}:aE) s14 Q Q Q Q Q Q Q Q<|fR Q Q<|qV s9 cR.symm [] [(12,9)] Q Q Q<|fR Q Q<|kD AE 14 [] h5 () Q Q Q Q Q Q Q<|fR Q Q<|qU (hT:=tok) (s1,s2,s3,s4) [12,1,2,3,4,5,6,7,28,27,10,11] hF Q results55 Q Q Q Q)<|cA [76,77] Q Q (jY aH [0,12,13,16,19] Q<|c0 Q (fun h=>YO (h.o 1 Q) (h.o 2 Q) (h.o 3 Q) (h.o 4 Q)) fun x10=>jY aH [0,12,13,16,19] Q<|cA [109,117] Q Q (fun hF=>sF Q<|nR aX 17 [20,21,22,23,24,25,26] [] ({x8 with Pc:=11,Node:=x10.1}:aE) s14 Q Q Q Q Q Q Q Q<|fR Q Q<|qV s9 cR.symm [] [(12,9)] Q Q Q<|fR Q Q<|kD AE 14 [] h5 () Q Q Q Q Q Q Q<|fR Q Q<|qU (hT:=tok) (s1,s2,s3,s4) [12,1,2,3,4,5,6,7,28,27,10,11] hF Q results55 Q Q Q Q)<|c0 Q (fun _=>cQ) fun x11=>cA [121,127] Q Q (eV 18 1 0 32 [20,21,22,23,24,25,26] Q Q Q Q Q (fun _=>EY (j:=({x8 with Node:=x10.1}:aE))) fun x12 _=>fun hF=>sF Q<|nR aX 17 [27,28,29,30,31,32,33] [] x12 s14 Q Q Q Q Q Q Q Q<|fR Q Q<|qV s9 cR.symm [] [(12,9)] Q Q Q<|fR Q Q<|kD AE 14 [] h5 () Q Q Q Q Q Q Q<|fR Q Q<|qU (hT:=tok) (s1,s2,s3,s4) [12,1,2,3,4,5,6,7,35,34,10,11] hF Q results55 Q Q Q Q)<|eN 0 5 (y6 t) [0] (fun(x13:(List aE)) (_:Unit)=>[]) [1,2,3,4,5,6,7,10,11] (fun x13 _=>[ow s8 (t.b8:List bY),ow s9 (x13:List aE),.box 0 [.h s1 t.aC.Mem.Heap.Bytes.length,.h s2 t.aC.Mem.Heap.Class.length,.h s3 t.aC.Mem.aD.Global.length,.h s4 t.aC.Mem.aD.Own.length,I t.aC.aA.aG,.h s5 t.aC.aA.cH.length,.h s6 t.aC.aN.length,.h s7 t.aC.qH.length,.h s8 t.b8.length,.h s9 x13.length,.h s10 t.dU.length,.h s11 t.Log.length,I t.aI]]) Q (jY aH [0,12,13,16,19] Q<|fun hF=>bd hF fun x14 hA1 hF=>cG Q Q (FM hA1 Q (fun _=>cQ)<|sF Q<|nR aX 17 [20,21,22,23,24,25,26] [] ({x8 with H:=x14,dB:=x8.H,Node:=x10.1}:aE) s14 Q Q Q Q Q Q Q Q<|fR Q Q<|qV s9 cR.symm [] [(12,9)] Q Q Q<|fR Q Q<|kD AE 14 [] h5 () Q Q Q Q Q Q Q<|fR Q Q<|nJ (p:=(t.aO.set w_.toNat ({x8 with H:=x14,dB:=x8.H,Node:=x10.1}:aE))) () [28,27,12,1,2,3,4,5,6,7,10,11] hF Q) ((by refine cG Q Q ?_ ?_<;>exact FM hA1 Q (fun _=>cQ)<|sF Q<|nR aX 17 [20,21,22,23,24,25,26] [] ({x8 with H:=x14,dB:=x8.H,Node:=x10.1}:aE) s14 Q Q Q Q Q Q Q Q<|fR Q Q<|qV s9 cR.symm [] [(12,9)] Q Q Q<|fR Q Q<|kD AE 14 [] h5 () Q Q Q Q Q Q Q<|fR Q Q<|nJ (p:=(t.aO.set w_.toNat ({x8 with H:=x14,dB:=x8.H,Node:=x10.1}:aE))) () [28,27,12,1,2,3,4,5,6,7,10,11] hF Q))) fun x13 _=>FC (s1,s2,s3,s4) [2,3,4,5,6,7,8,9,0,1,10,11] Q Q)<|cA [131,132] Q Q (eN 0 5 (mX w_ x3 x4 x5) [0,4,5] (fun(x15:Table) (u:A4C)=>[]) [13,0] (fun x15 u=>(MY x15 u.1 u.2.1 u.2.2.1 u.2.2.2 s5 s6 s7 s8 s9 s10 s11 [.box 0 (IQ x15 u.1 u.2.1 u.2.2.1 u.2.2.2 s5 s6 s7 s8 s9 s10 s11)])) Q (cA [137] Q Q (c0 Q (fun _=>cQ) fun x25=>fun hF=>sF Q<|kD aX 17 [20,21,22,23,24,25,26] h7 s14 Q Q Q Q Q Q Q<|fR Q Q<|nR AE 14 [] [39] ({x7 with Head:=x25}:bY) () Q Q Q Q Q Q Q Q<|fR Q Q<|qV s8 cR.symm [] [(12,8)] Q Q Q<|fR Q Q<|nJ (s1,s2,s3,s4) [1,2,3,4,5,6,7,28,27,10,11,12,13,0] hF Q)<|eN 0 5 (y8 w_ x3 x4 x5) [0,4,5] (fun(x26:Table) (u:A4C)=>[]) [13,0] (fun x26 u=>(MY x26 u.1 u.2.1 u.2.2.1 u.2.2.2 s5 s6 s7 s8 s9 s10 s11 [.box 0 (IQ x26 u.1 u.2.1 u.2.2.1 u.2.2.2 s5 s6 s7 s8 s9 s10 s11)])) Q (jY aH [0,13,16,19] Q<|fun hF=>bd hF fun x27 hA4 hF=>bd hF fun x28 hA5 hF=>aAG Q Q (cG Q Q (FM hA4 Q (fun _=>cQ)<|iS hA5 Q (fun h=>qD (h.o 1 Q) (h.o 2 Q) (h.o 3 Q) (h.o 4 Q)) fun s37=>sF Q<|kD aX 17 [20,21,22,23,24,25,26] h7 s14 Q Q Q Q Q Q Q<|fR Q Q<|kD AE 14 [] h5 () Q Q Q Q Q Q Q<|fR Q Q<|nJ (p:=(({t with aC:=(⟨x28.1,t.aC.aA,t.aC.aN,t.aC.qH⟩:aC)}:Table))) s37 [27,28,29,30,5,6,7,32,31,10,11,12,13,0] hF Q) ((by refine cG Q Q ?_ ?_<;>exact FM hA4 Q (fun _=>cQ)<|iS hA5 Q (fun h=>qD (h.o 1 Q) (h.o 2 Q) (h.o 3 Q) (h.o 4 Q)) fun s38=>sF Q<|kD aX 17 [20,21,22,23,24,25,26] h7 s14 Q Q Q Q Q Q Q<|fR Q Q<|kD AE 14 [] h5 () Q Q Q Q Q Q Q<|fR Q Q<|nJ (p:=(({t with aC:=(⟨x28.1,t.aC.aA,t.aC.aN,t.aC.qH⟩:aC)}:Table))) s38 [27,28,29,30,5,6,7,32,31,10,11,12,13,0] hF Q))) (cG Q Q (FM hA4 Q (fun _=>cQ)<|iS hA5 Q (fun h=>qD (h.o 1 Q) (h.o 2 Q) (h.o 3 Q) (h.o 4 Q)) fun s40=>sF Q<|kD aX 17 [20,21,22,23,24,25,26] h7 s14 Q Q Q Q Q Q Q<|fR Q Q<|kD AE 14 [] h5 () Q Q Q Q Q Q Q<|fR Q Q<|nJ (p:=(({t with aC:=(⟨x28.1,t.aC.aA,t.aC.aN,t.aC.qH⟩:aC)}:Table))) s40 [27,28,29,30,5,6,7,32,31,10,11,12,13,0] hF Q) ((by refine cG Q Q ?_ ?_<;>exact FM hA4 Q (fun _=>cQ)<|iS hA5 Q (fun h=>qD (h.o 1 Q) (h.o 2 Q) (h.o 3 Q) (h.o 4 Q)) fun s41=>sF Q<|kD aX 17 [20,21,22,23,24,25,26] h7 s14 Q Q Q Q Q Q Q<|fR Q Q<|kD AE 14 [] h5 () Q Q Q Q Q Q Q<|fR Q Q<|nJ (p:=(({t with aC:=(⟨x28.1,t.aC.aA,t.aC.aN,t.aC.qH⟩:aC)}:Table))) s41 [27,28,29,30,5,6,7,32,31,10,11,12,13,0] hF Q))) (aAG Q Q ((by refine cG Q Q ?_ ?_<;>exact FM hA4 Q (fun _=>cQ)<|iS hA5 Q (fun h=>qD (h.o 1 Q) (h.o 2 Q) (h.o 3 Q) (h.o 4 Q)) fun s43=>sF Q<|kD aX 17 [20,21,22,23,24,25,26] h7 s14 Q Q Q Q Q Q Q<|fR Q Q<|kD AE 14 [] h5 () Q Q Q Q Q Q Q<|fR Q Q<|nJ (p:=(({t with aC:=(⟨x28.1,t.aC.aA,t.aC.aN,t.aC.qH⟩:aC)}:Table))) s43 [27,28,29,30,5,6,7,32,31,10,11,12,13,0] hF Q)) ((by refine cG Q Q ?_ ?_<;>exact FM hA4 Q (fun _=>cQ)<|iS hA5 Q (fun h=>qD (h.o 1 Q) (h.o 2 Q) (h.o 3 Q) (h.o 4 Q)) fun s45=>sF Q<|kD aX 17 [20,21,22,23,24,25,26] h7 s14 Q Q Q Q Q Q Q<|fR Q Q<|kD AE 14 [] h5 () Q Q Q Q Q Q Q<|fR Q Q<|nJ (p:=(({t with aC:=(⟨x28.1,t.aC.aA,t.aC.aN,t.aC.qH⟩:aC)}:Table))) s45 [27,28,29,30,5,6,7,32,31,10,11,12,13,0] hF Q)) (FM hA4 Q (fun _=>cQ)<|(by refine cG Q Q ?_ ?_<;>exact iS hA5 Q (fun h=>qD (h.o 1 Q) (h.o 2 Q) (h.o 3 Q) (h.o 4 Q)) fun s47=>sF Q<|kD aX 17 [20,21,22,23,24,25,26] h7 s14 Q Q Q Q Q Q Q<|fR Q Q<|kD AE 14 [] h5 () Q Q Q Q Q Q Q<|fR Q Q<|nJ (p:=(({t with aC:=(⟨x28.1,t.aC.aA,t.aC.aN,t.aC.qH⟩:aC)}:Table))) s47 [27,28,29,30,5,6,7,32,31,10,11,12,13,0] hF Q)))) fun x26 ⟨s32,s33,s34,s35⟩=>lZ (p:=(x26)) (s32,s33,s34,s35) [0,1,2,3,4,5,6,7,8,9,10,11,12,13] Q Q) fun x15 ⟨s15,s16,s17,s18⟩=>eN 1 5 (mW w_ x3 x4 x5) [0,4,5] (fun(x16:Table) (_:Unit)=>[]) [12,13] (fun x16 _=>(MY x16 s15 s16 s17 s18 s5 s6 s7 s8 s9 s10 s11 [.box 0 (IQ x16 s15 s16 s17 s18 s5 s6 s7 s8 s9 s10 s11)])) Q (eN 0 5 (fun(p:Bool×Table)=>qR w_ x3 x4 x5 p.1 p.2) [0,4,5] (fun(p:Bool×Table) (_:Unit)=>[(180,.b p.1)]) [12,13] (fun p _=>(MY p.2 s15 s16 s17 s18 s5 s6 s7 s8 s9 s10 s11 [.box 0 (IQ p.2 s15 s16 s17 s18 s5 s6 s7 s8 s9 s10 s11)])) Q (fun hF=>ro aX 8 12 1 Q Q Q Q hF fun x23 h17 hF s31=>wi hF<|c0 Q (fun _=>kK) fun x24=>gX [172,173] Q Q (fun hF=>sF Q<|kD aX 14 [17,18,19,20,21,22,23] h17 s31 Q Q Q Q Q Q Q<|fR Q Q<|nJ (p:=(decide ((x23.bA.length:Int)<6),x15)) () [0,1,2,3,4,5,6,7,24,9,10,11,12,13] hF Q)<|fun hF=>sF Q<|kD aX 14 [17,18,19,20,21,22,23] h17 s31 Q Q Q Q Q Q Q<|fR Q Q<|nJ (p:=(false,x15)) () [0,1,2,3,4,5,6,7,24,9,10,11,12,13] hF Q) fun⟨x19,x20⟩ _=>cA [180] Q Q (eN 0 5 (y7 w_ x3 x4 x5) [0,4,5] (fun(x21:Table) (_:Unit)=>[]) [12,13] (fun x21 _=>(MY x21 s15 s16 s17 s18 s5 s6 s7 s8 s9 s10 s11 [.box 0 (IQ x21 s15 s16 s17 s18 s5 s6 s7 s8 s9 s10 s11)])) Q (jY aH [11,12,13] Q<|fun hF=>bd hF fun x22 hA2 hF=>nd hF fun hA3 hF=>cG Q Q (have hq4:=rb hA2;ro aX 8 12 1 Q Q Q Q hq4 fun u4 h13 hq4 s23=>match u4,hq4 with | _,rfl=>lt1 Q bW Q Q Q Q fun s24=>have hq5:=rn hA3;ap 23 bW Q Q Q Q Q Q Q (fun h=>(h.o 24 Q)) Q Q hq5 fun hq5 s25=>sF Q<|nR aX 14 [17,18,19,20,21,22,23] [] ({x22 with bA:=x22.bA++([x22.H])}:aE) (s23.1,s23.2.1,s23.2.2.1,s23.2.2.2.1,s23.2.2.2.2.1,s23.2.2.2.2.2.1,s25) Q Q Q Q Q Q Q Q<|fR Q Q<|qV s9 cR.symm [] [(11,9)] Q Q Q<|fR Q Q<|nJ (p:=(({x20 with aO:=x20.aO.set w_.toNat ({x22 with bA:=x22.bA++([x22.H])}:aE)}:Table))) () [0,1,2,3,4,5,6,7,25,9,10,11,12,13] hF Q) (have hq6:=rb hA2;ro aX 8 12 1 Q Q Q Q hq6 fun u5 h15 hq6 s26=>match u5,hq6 with | _,rfl=>(by refine cG Q Q ?_ ?_<;>exact lt1 Q bW Q Q Q Q fun s27=>have hq7:=rn hA3;ap 23 bW Q Q Q Q Q Q Q (fun h=>(h.o 24 Q)) Q Q hq7 fun hq7 s28=>sF Q<|nR aX 14 [17,18,19,20,21,22,23] [] ({x22 with bA:=x22.bA++([x22.H])}:aE) (s26.1,s26.2.1,s26.2.2.1,s26.2.2.2.1,s26.2.2.2.2.1,s26.2.2.2.2.2.1,s28) Q Q Q Q Q Q Q Q<|fR Q Q<|qV s9 cR.symm [] [(11,9)] Q Q Q<|fR Q Q<|nJ (p:=(({x20 with aO:=x20.aO.set w_.toNat ({x22 with bA:=x22.bA++([x22.H])}:aE)}:Table))) () [0,1,2,3,4,5,6,7,25,9,10,11,12,13] hF Q))) fun x21 _=>cO (p:=(x21)) [0,1,2,3,4,5,6,7,8,9,10,11,12,13] Q Q)<|cO [0,1,2,3,4,5,6,7,8,9,10,11,12,13] Q Q) fun x16 _=>fun hF=>ro aX 8 12 1 Q Q Q Q hF fun x17 h9 hF s19=>wi hF<|eV 15 1 0 32 [17,18,19,20,21,22,23] Q Q Q Q Q (fun _=>EY) fun x18 _=>fun hF=>sF Q<|nR aX 14 [24,25,26,27,28,29,30] [] x18 s19 Q Q Q Q Q Q Q Q<|fR Q Q<|qV s9 cR.symm [] [(11,9)] Q Q Q<|fR Q Q<|qU (hT:=tok) (s15,s16,s17,s18) [11,0,1,2,3,4,5,6,7,31,9,10] hF Q results55 Q Q Q Q)<|bCM 12 0 0 13 18 1 0 32 15 4 0 3 [1,2,3,4,5,6,7,10,11,20,21,22,23,24,25,26] Q Q Q Q Q (fun _=>aBK) fun x29 s49=>fun hF=>fG Q Q<|sF Q<|nR aX 17 [36,37,38,39,40,41,42] [] x29.2.1 s14 Q Q Q Q Q Q Q Q<|fR Q Q<|qV s9 cR.symm [] [(12,9)] Q Q Q<|fR Q Q<|nR AE 14 [] [39] x29.2.2 () Q Q Q Q Q Q Q Q<|fR Q Q<|qV s8 cR.symm [] [(12,8)] Q Q Q<|fR Q Q<|qU (hT:=tok) s49 [12,27,28,29,30,31,32,33,44,43,34,35] hF Q results55 Q Q Q Q
theorem JZ{s:List Int}{i j:Int}{s1:AC}:VS prog κ 129 (pM s i j) [.h s1 s.length,I i,I j] [] [ow s1 (s:List Int)] (fun(r:(List Int)) (y:AC)=>.h y r.length) (fun(r:(List Int)) (y:AC)=>[ow y r]):=
 dA tok call129 func129 results129 Q Q<|fun hF=>cpc 0 Q Q fun hc1=>aSH hc1 Q Q Q Q Q Q Q Q hF fun hF h1=>wi hF<|cA [16] Q Q (lY s1 [0] Q Q)<|jY aH [] Q<|fun hF=>aW6 hc1 Q Q Q Q Q Q hF fun hF h2=>aNH hc1 Q Q Q Q Q Q hF fun hF h3=>nd hF fun hab hF=>ap2 0 i.toNat j.toNat ⟨hab,h3.1⟩ Q Q Q Q Q Q Q Q Q fun h4=>a1A 0 (i.toNat+(s.length - j.toNat)) h4.2 (xH h4.1 h4.2) Q Q Q Q Q Q Q Q Q hF fun hF h5=>clr 0 (((((cT s i.toNat (s.drop j.toNat)).take (i.toNat+(s.length - j.toNat))).drop 0).length:Int).toNat) ((s.length:Int).toNat) (0:Int) h5 bW Q (fun _=>Q) Q Q Q Q Q Q Q Q<|sR Q<|poR 0 0 (i.toNat+(s.length - j.toNat)) Q Q (aSG h4 (tN h5.1 h5.2)) (aNI (SZ (by rw[K7,xH h4.1 h4.2];rfl)) (tN h5.1 h5.2))<|qU (hT:=tok) (AC.sub s1 1 0) [0] hF Q results129 Q Q Q Q
theorem EZ{j:aE}{s1 s2 s3 s4 s5 s6 s7:AC}{b0:Nat×Nat}:VS prog κ 130 (lQ j) [.p 0 0] [b0] [.box 0 [.b j.bX,.b j.Batch.Collect,.h s1 j.Batch.aY.length,I j.aI,I j.Pc,I j.At,I j.K,I j.bY,I j.fX,I j.H,I j.dB,I j.Node.Key,I j.Node.dO,I j.Node.Next,.b j.Found,I j.Code,I j.Sub.Kind,I j.Sub.A,I j.Sub.Pc,I j.Sub.E,I j.Sub.Row,I j.Sub.B,I j.Sub.H,I j.Sub.Out,I j.Sub.Code,.b j.Sub.cJ,.h s2 j.Reads.length,.h s3 j.aB.length,.h s4 j.dJ.length,.h s5 j.dF.length,.h s6 j.aQ.length,.h s7 j.bA.length],ow s1 (j.Batch.aY:List iT),ow s2 (j.Reads:List Seen),ow s3 (j.aB:List aS),ow s4 (j.dJ:List dJ),ow s5 (j.dF:List Int),ow s6 (j.aQ:List Int),ow s7 (j.bA:List Int)] (fun(r:aE) (y:Unit)=>.t []) (fun(r:aE) (y:Unit)=>[.box 0 [.b r.bX,.b r.Batch.Collect,.h s1 r.Batch.aY.length,I r.aI,I r.Pc,I r.At,I r.K,I r.bY,I r.fX,I r.H,I r.dB,I r.Node.Key,I r.Node.dO,I r.Node.Next,.b r.Found,I r.Code,I r.Sub.Kind,I r.Sub.A,I r.Sub.Pc,I r.Sub.E,I r.Sub.Row,I r.Sub.B,I r.Sub.H,I r.Sub.Out,I r.Sub.Code,.b r.Sub.cJ,.h s2 r.Reads.length,.h s3 r.aB.length,.h s4 r.dJ.length,.h s5 r.dF.length,.h s6 r.aQ.length,.h s7 r.bA.length],ow s1 r.Batch.aY,ow s2 r.Reads,ow s3 r.aB,ow s4 r.dJ,ow s5 r.dF,ow s6 r.aQ,ow s7 r.bA]):=
 dA tok call130 func130 results130 Q Q<|jY aH [0] Q<|cA [11] Q Q (eN 0 1 rO [0] (fun(x1:aE) (_:Unit)=>[]) [] (fun x1 _=>[ow s1 (x1.Batch.aY:List iT),ow s2 (x1.Reads:List Seen),ow s3 (x1.aB:List aS),ow s4 (x1.dJ:List dJ),ow s5 (x1.dF:List Int),ow s6 (x1.aQ:List Int),ow s7 (x1.bA:List Int),.box 0 [.b x1.bX,.b x1.Batch.Collect,.h s1 x1.Batch.aY.length,I x1.aI,I x1.Pc,I x1.At,I x1.K,I x1.bY,I x1.fX,I x1.H,I x1.dB,I x1.Node.Key,I x1.Node.dO,I x1.Node.Next,.b x1.Found,I x1.Code,I x1.Sub.Kind,I x1.Sub.A,I x1.Sub.Pc,I x1.Sub.E,I x1.Sub.Row,I x1.Sub.B,I x1.Sub.H,I x1.Sub.Out,I x1.Sub.Code,.b x1.Sub.cJ,.h s2 x1.Reads.length,.h s3 x1.aB.length,.h s4 x1.dJ.length,.h s5 x1.dF.length,.h s6 x1.aQ.length,.h s7 x1.bA.length]]) Q (jY aH [] Q<|fun hF=>bd hF fun x2 hA1 hF=>bd hF fun x3 hA2 hF=>(by refine cG Q Q ?_ ?_<;>exact have hq1:=rb hA1;wi hq1<|sG oI 7 Q Q Q fun u1 h3 _ h4=>fun hq1=>nK 1 h4 h3 Q Q Q Q Q<|match u1,hq1 with | _,rfl=>FM hA2 Q (fun _=>qB)<|sF Q<|kD oI 8 [] h3 () Q Q Q Q Q Q Q<|nJ (p:=(({j with Sub:=x3}:aE))) () [1,2,3,4,5,6,11,0] hF Q)) fun x1 _=>FC () [7,0,1,2,3,4,5,6] Q Q)<|FC () [0,1,2,3,4,5,6,7] Q Q
theorem X0{t:Table}{w_:Int}{s1 s2 s3 s4 s5 s6 s7 s8 s9 s10 s11:AC}{b0:Nat×Nat}:VS prog κ 56 (vJ t w_) [.p 0 0,I w_] [b0] ([.box 0 (IQ t s1 s2 s3 s4 s5 s6 s7 s8 s9 s10 s11)]++(MY t s1 s2 s3 s4 s5 s6 s7 s8 s9 s10 s11 [])) (fun(r:Table) (y:Unit)=>.t []) (fun(r:Table) (y:Unit)=>([.box 0 (IQ r s1 s2 s3 s4 s5 s6 s7 s8 s9 s10 s11)]++(MY r s1 s2 s3 s4 s5 s6 s7 s8 s9 s10 s11 []))):=
 dA tok call56 func56 results56 Q Q<|sG aX 9 Q Q Q fun x1 h1 s12 h2=>fun hF=>nK 1 h2 h1 Q Q Q Q Q<|wi hF<|cA [20,26] Q Q (jY aH [0,14] Q<|sG oI 20 Q Q Q fun x2 h3 _ h4=>fun hF=>nK 2 h4 h3 Q Q Q Q Q<|wi hF<|sG AE 8 Q Q Q fun x3 h5 _ h6=>fun hF=>nK 3 h6 h5 Q Q Q Q Q<|wi hF<|eN 0 4 (lR t w_) [0,4] (fun(x4:(List bY)) (_:Unit)=>[]) [1,2,3,4,5,6,7,10,11,14] (fun x4 _=>[ow s8 (x4:List bY),ow s9 (t.aO:List aE),.box 0 [.h s1 t.aC.Mem.Heap.Bytes.length,.h s2 t.aC.Mem.Heap.Class.length,.h s3 t.aC.Mem.aD.Global.length,.h s4 t.aC.Mem.aD.Own.length,I t.aC.aA.aG,.h s5 t.aC.aA.cH.length,.h s6 t.aC.aN.length,.h s7 t.aC.qH.length,.h s8 x4.length,.h s9 t.aO.length,.h s10 t.dU.length,.h s11 t.Log.length,I t.aI]]) Q (cA [45] Q Q (fun hF=>a9X Q Q Q Q<|sF Q<|nR AE 25 [] [30] (⟨x3.Head,if 1000000<(bE (x3.fX+1)) then 1000000 else(bE (x3.fX+1)),0⟩:bY) () Q Q Q Q Q Q Q Q<|qV s8 cR.symm [] [(0,8)] Q Q Q<|fR Q Q<|kD oI 22 [] h3 () Q Q Q Q Q Q Q<|fR Q Q<|kD aX 12 [15,16,17,18,19,29,21] h1 s12 Q Q Q Q Q Q Q<|fR Q Q<|nJ () [28,30,0,1,2,3,4,5,6,7,10,11,14] hF Q)<|fun hF=>sF Q<|nR AE 25 [] [30] ({x3 with gP:=0}:bY) () Q Q Q Q Q Q Q Q<|fR Q Q<|qV s8 cR.symm [] [(0,8)] Q Q Q<|fR Q Q<|kD oI 22 [] h3 () Q Q Q Q Q Q Q<|fR Q Q<|kD aX 12 [15,16,17,18,19,29,21] h1 s12 Q Q Q Q Q Q Q<|fR Q Q<|nJ () [28,30,0,1,2,3,4,5,6,7,10,11,14] hF Q) fun x4 _=>fun hF=>ro aX 1 12 1 Q Q Q Q hF fun x5 h7 hF s13=>wi hF<|MT [21] Q Q Q Q (fun _=>JZ) fun x6 s14=>fun hF=>sF Q<|nR aX 13 [16,17,18,19,20,23,22] [] ({x5 with aQ:=x6}:aE) (s13.1,s13.2.1,s13.2.2.1,s13.2.2.2.1,s13.2.2.2.2.1,s14,s13.2.2.2.2.2.2) Q Q Q Q Q Q Q Q<|fR Q Q<|qV s9 cR.symm [] [(2,9)] Q Q Q<|fR Q Q<|qU (hT:=tok) () [2,3,4,5,6,7,8,9,0,24,10,11] hF Q results56 Q Q Q Q)<|cA [63,68] Q Q (fun hF=>sF Q<|nR aX 12 [15,16,17,18,19,20,21] [9] ({x1 with Pc:=17}:aE) s12 Q Q Q Q Q Q Q Q<|fR Q Q<|qV s9 cR.symm [] [(0,9)] Q Q Q<|fR Q Q<|qU (hT:=tok) () [0,1,2,3,4,5,6,7,8,22,10,11] hF Q results56 Q Q Q Q)<|eV 13 1 0 32 [15,16,17,18,19,20,21] Q Q Q Q Q (fun _=>EZ (j:=({x1 with Pc:=15,K:=0}:aE))) fun x7 _=>fun hF=>sF Q<|nR aX 12 [22,23,24,25,26,27,28] [9] x7 s12 Q Q Q Q Q Q Q Q<|fR Q Q<|qV s9 cR.symm [] [(0,9)] Q Q Q<|fR Q Q<|qU (hT:=tok) () [0,1,2,3,4,5,6,7,8,29,10,11] hF Q results56 Q Q Q Q
theorem X2{t:Table}{w_:Int}{s1 s2 s3 s4 s5 s6 s7 s8 s9 s10 s11:AC}{b0:Nat×Nat}:VS prog κ 57 (vK t w_) [.p 0 0,I w_] [b0] ([.box 0 (IQ t s1 s2 s3 s4 s5 s6 s7 s8 s9 s10 s11)]++(MY t s1 s2 s3 s4 s5 s6 s7 s8 s9 s10 s11 [])) (fun(r:Table) (y:A6C)=>.t []) (fun(r:Table) (y:A6C)=>([.box 0 (IQ r y.1 y.2.1 y.2.2.1 y.2.2.2.1 y.2.2.2.2.1 y.2.2.2.2.2 s7 s8 s9 s10 s11)]++(MY r y.1 y.2.1 y.2.2.1 y.2.2.2.1 y.2.2.2.2.1 y.2.2.2.2.2 s7 s8 s9 s10 s11 []))):=
 dA tok call57 func57 results57 Q Q<|sG aX 9 Q Q Q fun x1 h1 s12 h2=>fun hF=>nK 1 h2 h1 Q Q Q Q Q<|wi hF<|eN 0 2 (fun(_:Unit)=>wO t w_ x1) [0,1,4] (fun(_:Unit) (_:Unit)=>[(20,.b (decide ((x1.bA.length:Int)<=x1.K)))]) [1,2,3,4,5,6,7,8,10,11,0,14] (fun _ _=>[ow s9 (t.aO:List aE)]) Q (jY aH [0,14] Q<|fun hF=>(by refine cG Q Q ?_ ?_<;>exact sF Q<|kD aX 12 [15,16,17,18,19,20,21] h1 s12 Q Q Q Q Q Q Q<|fR Q Q<|nJ (p:=()) () [22,1,2,3,4,5,6,7,8,10,11,0,14] hF Q)) fun _ _=>cA [20] Q Q (fun hF=>ro aX 0 12 1 Q Q Q Q hF fun x2 h3 hF s13=>sR Q<|nR aX 13 [16,17,18,19,20,21,22] [] ({x2 with Pc:=18}:aE) s13 Q Q Q Q Q Q Q Q<|fR Q Q<|qV s9 cR.symm [] [(11,9)] Q Q Q<|fR Q Q<|qU (hT:=tok) (s1,s2,s3,s4,s5,s6) [11,1,2,3,4,5,6,7,8,23,9,10] hF Q results57 Q Q Q Q)<|jY aH [12] Q<|fun hF=>ro aX 0 12 1 Q Q Q Q hF fun x3 h5 hF s14=>wi hF<|aNJ 14 1 16 10 11 0 0 8 [1,2,3,4,5,6,7] Q Q Q Q Q (fun _=>JF) fun x4 s15=>cA [36] Q Q (eV 14 1 0 32 [16,17,18,19,20,21,22] Q Q Q Q Q (fun _=>EZ (j:=({x3 with K:=bE (x3.K+1),Sub:=x4.1}:aE))) fun x5 _=>fun hF=>sF Q<|nR aX 13 [30,31,32,33,34,35,36] [] x5 s14 Q Q Q Q Q Q Q Q<|fR Q Q<|qV s9 cR.symm [] [(11,9)] Q Q Q<|fR Q Q<|qU (hT:=tok) s15 [11,23,24,25,26,27,28,29,8,37,9,10] hF Q results57 Q Q Q Q)<|fun hF=>sF Q<|nR aX 13 [16,17,18,19,20,21,22] [] ({x3 with Sub:=x4.1}:aE) s14 Q Q Q Q Q Q Q Q<|fR Q Q<|qV s9 cR.symm [] [(11,9)] Q Q Q<|fR Q Q<|qU (hT:=tok) s15 [11,23,24,25,26,27,28,29,8,30,9,10] hF Q results57 Q Q Q Q
theorem aIO{m:Mem}{w_ h:Int}{s1 s2 s3 s4:AC}(h1:bS κ s1 m.Heap.Bytes)(h2:bS κ s2 m.Heap.Class)(h3:bS κ s3 m.aD.Global)(h4:bS κ s4 m.aD.Own):VS prog κ 132 (KL m w_ h) [.g (gM m s1 s2 s3 s4),I w_,I h] [] [] (fun r (y:A4C)=>.t [.g (yM r.1 y),I r.2]) (fun r y=>(zM r.1 y [])):=
 dA tok call132 func132 results132 Q Q<|gY 0 2 (A6 m w_ h) [1,2,3,6] 8 [0,1] Q (c0 Q (fun h=>KR (h.a h1) (h.a h2) (h.a h3) (h.a h4)) fun x6=>gX [11,12] Q Q (cO [0,1] Q Q)<|c0 Q (fun _=>iO) fun x7=>cO [0,1] Q Q) fun x1=>cA [8] Q Q (c1 Q (fun h=>wV (h.a h1) (h.a h2) (h.a h3) (h.a h4)) fun x2 s5=>lY s5 [2,3,4,5] Q Q)<|c0 Q (fun h=>HL (h.a h1) (h.a h2) (h.a h3) (h.a h4)) fun x3=>cA [19,23] Q Q (c1 Q (fun h=>wV (h.a h1) (h.a h2) (h.a h3) (h.a h4)) fun x4 s6=>lY s6 [2,3,4,5] Q Q)<|c1 Q (fun h=>aBC (h.a h1) (h.a h2) (h.a h3) (h.a h4)) fun x5 s7=>lY s7 [2,3,4,5] Q Q
theorem aBL{t:Table}{w_:Int}{s1 s2 s3 s4 s5 s6 s7 s8 s9 s10 s11:AC}{b0:Nat×Nat}:VS prog κ 58 (A7 t w_) [.p 0 0,I w_] [b0] ([.box 0 (IQ t s1 s2 s3 s4 s5 s6 s7 s8 s9 s10 s11)]++(MY t s1 s2 s3 s4 s5 s6 s7 s8 s9 s10 s11 [])) (fun(r:Table) (y:A4C)=>.t []) (fun(r:Table) (y:A4C)=>([.box 0 (IQ r y.1 y.2.1 y.2.2.1 y.2.2.2 s5 s6 s7 s8 s9 s10 s11)]++(MY r y.1 y.2.1 y.2.2.1 y.2.2.2 s5 s6 s7 s8 s9 s10 s11 []))):=
 dA tok call58 func58 results58 Q Q<|sG aX 9 Q Q Q fun x1 h1 s12 h2=>fun hF=>nK 1 h2 h1 Q Q Q Q Q<|wi hF<|cA [17] Q Q (fun hF=>sR Q<|nR aX 12 [15,16,17,18,19,20,21] [9] ({x1 with Pc:=18}:aE) s12 Q Q Q Q Q Q Q Q<|fR Q Q<|qV s9 cR.symm [] [(0,9)] Q Q Q<|fR Q Q<|qU (hT:=tok) (s1,s2,s3,s4) [0,1,2,3,4,5,6,7,8,22,10,11] hF Q results58 Q Q Q Q)<|sG oI 19 Q Q Q fun x2 h3 _ h4=>fun hF=>nK 2 h4 h3 Q Q Q Q Q<|cqS oI 22 [] h3 () Q Q Q Q Q Q Q Q Q<|wi hF<|MT [25] Q Q Q Q (fun _=>JZ) fun x3 s13=>c0 Q (fun h=>VN (h.o 6 Q)) fun x4=>cA [43] Q Q (c1 Q (fun h=>aIO (h.o 1 Q) (h.o 2 Q) (h.o 3 Q) (h.o 4 Q)) fun x5 s14=>fun hF=>sF Q<|nR aX 12 [15,16,17,18,26,20,21] [9] ({x1 with dF:=x3}:aE) (s12.1,s12.2.1,s12.2.2.1,s12.2.2.2.1,s13,s12.2.2.2.2.2.1,s12.2.2.2.2.2.2) Q Q Q Q Q Q Q Q<|fR Q Q<|qV s9 cR.symm [] [(0,9)] Q Q Q<|fR Q Q<|qU (hT:=tok) s14 [0,27,28,29,30,5,6,7,8,31,10,11] hF Q results58 Q Q Q Q)<|fun hF=>sF Q<|nR aX 12 [15,16,17,18,26,20,21] [9] ({x1 with dF:=x3}:aE) (s12.1,s12.2.1,s12.2.2.1,s12.2.2.2.1,s13,s12.2.2.2.2.2.1,s12.2.2.2.2.2.2) Q Q Q Q Q Q Q Q<|fR Q Q<|qV s9 cR.symm [] [(0,9)] Q Q Q<|fR Q Q<|qU (hT:=tok) (s1,s2,s3,s4) [0,1,2,3,4,5,6,7,8,27,10,11] hF Q results58 Q Q Q Q
theorem aNU{c:aA}{w_:Int}{s1:AC}(h1:bS κ s1 c.cH):VS prog κ 133 (RZ c w_) [.g [I c.aG,.h s1 c.cH.length],I w_] [] [] (fun r (y:AC)=>.t [.g [I r.1.aG,.h y r.1.cH.length],.b r.2]) (fun r y=>[ow y r.1.cH]):=
 dA tok call133 func133 results133 Q Q<|c1 Q (fun h=>rR (h.a h1)) fun x1 s2=>gY 0 3 (zY w_ x1) [1,4,6] 25 [1,2,3] Q (c0 Q (fun h=>wX (h.a h1)) fun x4=>gX [11,12] Q Q (cO [1,2,3] Q Q)<|c0 Q (fun _=>iO) fun x5=>gX [15,16,17] Q Q (cO [1,2,3] Q Q)<|HU a1Z Q h1 Q fun x6 _ _=>cO [1,2,3] Q Q) fun x2=>cA [25] Q Q (lY s2 [1] Q Q)<|sG XU 1 Q Q Q fun x3 h2 _ h3=>fun hF=>nK 3 h3 h2 Q Q Q Q Q<|sR Q<|nR XU 3 [] [28] zL3 () Q Q Q Q Q Q Q Q<|qV s2 cR.symm [(32,1)] [(0,1),(2,1)] Q Q Q<|fR Q Q<|qU (hT:=tok) s2 [6] hF Q results133 Q Q Q Q
theorem aBM{b:aC}{w_:Int}{s1 s2 s3 s4 s5 s6 s7:AC}{b0:Nat×Nat}:VS prog κ 59 (A8 b w_) [.p 0 0,I w_] [b0] ([.box 0 (gB b s1 s2 s3 s4 s5 s6 s7)]++(oBs b s1 s2 s3 s4 s5 s6 s7 [])) (fun(r:Bool×aC) (y:AC)=>.b r.1) (fun(r:Bool×aC) (y:AC)=>([.box 0 (gB r.2 s1 s2 s3 s4 y s6 s7)]++(oBs r.2 s1 s2 s3 s4 y s6 s7 []))):=
 dA tok call59 func59 results59 Q Q<|c1 Q (fun h=>aNU (h.o 5 Q)) fun x1 s8=>lY s8 [0,1,2,3,4,8,6,7] Q Q
theorem VW{t:Table}{w_:Int}{s1 s2 s3 s4 s5 s6 s7 s8 s9 s10 s11:AC}{b0:Nat×Nat}:VS prog κ 60 (sY t w_) [.p 0 0,I w_] [b0] ([.box 0 (IQ t s1 s2 s3 s4 s5 s6 s7 s8 s9 s10 s11)]++(MY t s1 s2 s3 s4 s5 s6 s7 s8 s9 s10 s11 [])) (fun(r:Table) (y:AC)=>.t []) (fun(r:Table) (y:AC)=>([.box 0 (IQ r s1 s2 s3 s4 s5 s6 s7 s8 s9 s10 y)]++(MY r s1 s2 s3 s4 s5 s6 s7 s8 s9 s10 y []))):=
 dA tok call60 func60 results60 Q Q<|sG aX 9 Q Q Q fun x1 h1 s12 h2=>fun hF=>nK 1 h2 h1 Q Q Q Q Q<|wi hF<|cA [21] Q Q (eN 0 4 (fun(_:Unit)=>FP t w_ x1) [0,1] (fun(_:Unit) (s13:AC)=>[]) [1,2,3,4,5,6,7,8,10,15,16,17,19,20,21,12,13,14] (fun _ s13=>[ow s13 (t.Log++([({x1 with Kind:=3,Who:=w_,aY:=[]}:lV)]):List lV),.box 0 [.h s1 t.aC.Mem.Heap.Bytes.length,.h s2 t.aC.Mem.Heap.Class.length,.h s3 t.aC.Mem.aD.Global.length,.h s4 t.aC.Mem.aD.Own.length,I t.aC.aA.aG,.h s5 t.aC.aA.cH.length,.h s6 t.aC.aN.length,.h s7 t.aC.qH.length,.h s8 t.b8.length,.h s9 t.aO.length,.h s10 t.dU.length,.h s13 (t.Log++([({x1 with Kind:=3,Who:=w_,aY:=[]}:lV)])).length,I t.aI]]) Q (jY aH [14,22,23] Q<|fun hF=>nd hF fun hA1 hF=>(by refine cG Q Q ?_ ?_<;>exact nw iT Q<|RO O6 [24,18] (({x1 with Kind:=3,Who:=w_,aY:=[]}:lV)) (⟨none,0⟩,s12.2.2.2.1) gU Q Q Q Q Q Q Q Q Q Q Q Q Q fun s16=>have hq1:=rn hA1;ZZ 11 25 gU Q Q Q Q Q Q Q Q Q Q Q hq1 fun hq1 s17=>wi hF<|lZ (p:=()) s17 [26,0,1,2,3,4,5,6,7,8,10,15,16,17,19,20,21,12,13,14] Q Q)) fun _ s13=>fun hF=>nK 1 h2 h1 Q Q Q Q Q<|sF Q<|C2 iT<|C2 Seen<|C2 aS<|C2 dJ<|C2 Int<|C2 Int<|C2 Int<|fR Q Q<|nR aX 17 [20,21,22,23,24,25,26] [38] RF (⟨none,0⟩,⟨none,0⟩,⟨none,0⟩,⟨none,0⟩,⟨none,0⟩,⟨none,0⟩,⟨none,0⟩) Q Q Q Q Q Q Q Q<|fR Q Q<|qV s9 cR.symm [] [(1,9)] Q Q Q<|fR Q Q<|qU (hT:=tok) s13 [1,2,3,4,5,6,7,8,9,27,10,0] hF Q results60 Q Q Q Q)<|eN 0 4 (fun(_:Unit)=>FQ t w_ x1) [0,1] (fun(_:Unit) (s20:AC)=>[]) [1,2,3,4,5,6,7,8,10,15,16,17,18,19,20,21,12,13,14] (fun _ s20=>[ow s20 (t.Log++([(⟨3,w_,x1.aI,x1.Code,[],[]⟩:lV)]):List lV),.box 0 [.h s1 t.aC.Mem.Heap.Bytes.length,.h s2 t.aC.Mem.Heap.Class.length,.h s3 t.aC.Mem.aD.Global.length,.h s4 t.aC.Mem.aD.Own.length,I t.aC.aA.aG,.h s5 t.aC.aA.cH.length,.h s6 t.aC.aN.length,.h s7 t.aC.qH.length,.h s8 t.b8.length,.h s9 t.aO.length,.h s10 t.dU.length,.h s20 (t.Log++([(⟨3,w_,x1.aI,x1.Code,[],[]⟩:lV)])).length,I t.aI]]) Q (jY aH [14,22,23] Q<|fun hF=>nd hF fun hA2 hF=>(by refine cG Q Q ?_ ?_<;>exact nw iT Q<|nw dJ Q<|RO O6 [24,25] ((⟨3,w_,x1.aI,x1.Code,[],[]⟩:lV)) (⟨none,0⟩,⟨none,0⟩) gU Q Q Q Q Q Q Q Q Q Q Q Q Q fun s23=>have hq3:=rn hA2;ZZ 11 26 gU Q Q Q Q Q Q Q Q Q Q Q hq3 fun hq3 s24=>wi hF<|lZ (p:=()) s24 [27,0,1,2,3,4,5,6,7,8,10,15,16,17,18,19,20,21,12,13,14] Q Q)) fun _ s20=>fun hF=>nK 1 h2 h1 Q Q Q Q Q<|sF Q<|C2 iT<|C2 Seen<|C2 aS<|C2 dJ<|C2 Int<|C2 Int<|C2 Int<|fR Q Q<|nR aX 18 [21,22,23,24,25,26,27] [38] RF (⟨none,0⟩,⟨none,0⟩,⟨none,0⟩,⟨none,0⟩,⟨none,0⟩,⟨none,0⟩,⟨none,0⟩) Q Q Q Q Q Q Q Q<|fR Q Q<|qV s9 cR.symm [] [(1,9)] Q Q Q<|fR Q Q<|qU (hT:=tok) s20 [1,2,3,4,5,6,7,8,9,28,10,0] hF Q results60 Q Q Q Q
theorem N9{t:Table}{w_:Int}{s1 s2 s3 s4 s5 s6 s7 s8 s9 s10 s11:AC}{b0:Nat×Nat}:VS prog κ 24 (tX t w_) [.p 0 0,I w_] [b0] ([.box 0 (IQ t s1 s2 s3 s4 s5 s6 s7 s8 s9 s10 s11)]++(MY t s1 s2 s3 s4 s5 s6 s7 s8 s9 s10 s11 [])) (fun(r:Table) (y:A7C)=>.t []) (fun(r:Table) (y:A7C)=>([.box 0 (IQ r y.1 y.2.1 y.2.2.1 y.2.2.2.1 y.2.2.2.2.1 y.2.2.2.2.2.1 s7 s8 s9 s10 y.2.2.2.2.2.2)]++(MY r y.1 y.2.1 y.2.2.1 y.2.2.2.1 y.2.2.2.2.1 y.2.2.2.2.2.1 s7 s8 s9 s10 y.2.2.2.2.2.2 []))):=
 dA tok call24 func24 results24 Q Q<|sG aX 9 Q Q Q fun x1 h1 s12 h2=>fun hF=>nK 1 h2 h1 Q Q Q Q Q<|wi hF<|cA [18,23] Q Q (fun hF=>cqS aX 12 [15,16,17,18,19,20,21] h1 s12 Q Q Q Q Q Q Q Q Q<|wi hF<|eV 0 0 0 13 [1,2,3,4,5,6,7,8,22,10,11] Q Q Q Q Q (fun _=>ZJ) fun x2 s13=>FC (s1,s2,s3,s4,s5,s6,s13) [0,23,24,25,26,27,28,29,30,31,32,33] Q Q)<|eN 0 2 (jH t w_ x1) [0,1,4,5] (fun(x3:Bool) (_:Unit)=>[(27,.b x3)]) [1,2,3,4,5,6,7,8,10,11,0,14] (fun x3 _=>[ow s9 (t.aO:List aE)]) Q (gX [29,30] Q Q (fun hF=>sF Q<|kD aX 12 [15,16,17,18,19,20,21] h1 s12 Q Q Q Q Q Q Q<|fR Q Q<|nJ () [22,1,2,3,4,5,6,7,8,10,11,0,14] hF Q)<|gX [32,33,34] Q Q (fun hF=>sF Q<|kD aX 12 [15,16,17,18,19,20,21] h1 s12 Q Q Q Q Q Q Q<|fR Q Q<|nJ () [22,1,2,3,4,5,6,7,8,10,11,0,14] hF Q)<|fun hF=>sF Q<|kD aX 12 [15,16,17,18,19,20,21] h1 s12 Q Q Q Q Q Q Q<|fR Q Q<|nJ () [22,1,2,3,4,5,6,7,8,10,11,0,14] hF Q) fun x3 _=>cA [27] Q Q (eV 11 0 0 13 [1,2,3,4,5,6,7,8,0,9,10] Q Q Q Q Q (fun _=>VQ) fun x4 s14=>FC (t6U s14 (s11)) [11,13,14,15,16,17,18,19,20,21,22,23] Q Q)<|cA [41,43] Q Q (fun hF=>ro aX 0 12 1 Q Q Q Q hF fun x5 h3 hF s15=>wi hF<|eV 14 1 0 32 [16,17,18,19,20,21,22] Q Q Q Q Q (fun _=>aDC) fun x6 s16=>fun hF=>sF Q<|nR aX 13 [23,24,25,26,27,28,29] [] x6 (s15.1,s15.2.1,s16.1,s16.2,s15.2.2.2.2.1,s15.2.2.2.2.2.1,s15.2.2.2.2.2.2) Q Q Q Q Q Q Q Q<|fR Q Q<|qV s9 cR.symm [] [(11,9)] Q Q Q<|fR Q Q<|qU (hT:=tok) (s1,s2,s3,s4,s5,s6,s11) [11,1,2,3,4,5,6,7,8,30,9,10] hF Q results24 Q Q Q Q)<|c0 Q (fun _=>bL) fun x7=>cA [46,48] Q Q (eV 11 0 0 13 [1,2,3,4,5,6,7,8,0,9,10] Q Q Q Q Q (fun _=>aBG) fun x8 _=>FC (s1,s2,s3,s4,s5,s6,s11) [11,13,14,15,16,17,18,19,20,21,22,23] Q Q)<|cA [52,54] Q Q (eV 11 0 0 13 [1,2,3,4,5,6,7,8,0,9,10] Q Q Q Q Q (fun _=>ZM) fun x9 s17=>FC (t6U s17 (s11)) [11,13,14,15,16,17,18,19,20,21,22,23] Q Q)<|cA [58,60] Q Q (eV 11 0 0 13 [1,2,3,4,5,6,7,8,0,9,10] Q Q Q Q Q (fun _=>aBJ) fun x10 s18=>FC (s1,s2,s3,s4,s5,s6,s18) [11,13,14,15,16,17,18,19,20,21,22,23] Q Q)<|cA [64,66] Q Q (eV 11 0 0 13 [1,2,3,4,5,6,7,8,0,9,10] Q Q Q Q Q (fun _=>UA) fun x11 _=>FC (s1,s2,s3,s4,s5,s6,s11) [11,13,14,15,16,17,18,19,20,21,22,23] Q Q)<|c0 Q (fun _=>bL) fun x12=>cA [70,72] Q Q (eV 11 0 0 13 [1,2,3,4,5,6,7,8,0,9,10] Q Q Q Q Q (fun _=>ZN) fun x13 s19=>FC (t4U s19 (s5,s6,s11)) [11,13,14,15,16,17,18,19,20,21,22,23] Q Q)<|gY 0 2 (kZ t w_ x1) [0,1,4,5] 76 [1,2,3,4,5,6,7,8,0,9,10,11,12] Q (gX [78,79] Q Q (cO [1,2,3,4,5,6,7,8,0,9,10,11,12] Q Q)<|cO [1,2,3,4,5,6,7,8,0,9,10,11,12] Q Q) fun x14=>cA [76] Q Q (eV 11 0 0 13 [0,1,2,3,4,5,6,7,8,9,10] Q Q Q Q Q (fun _=>X0) fun x15 _=>FC (s1,s2,s3,s4,s5,s6,s11) [11,13,14,15,16,17,18,19,20,21,22,23] Q Q)<|cA [86,88] Q Q (eV 11 0 0 13 [0,1,2,3,4,5,6,7,8,9,10] Q Q Q Q Q (fun _=>X2) fun x16 s20=>FC (t6U s20 (s11)) [11,13,14,15,16,17,18,19,20,21,22,23] Q Q)<|cA [92,94] Q Q (eV 11 0 0 13 [0,1,2,3,4,5,6,7,8,9,10] Q Q Q Q Q (fun _=>aBL) fun x17 s21=>FC (t4U s21 (s5,s6,s11)) [11,13,14,15,16,17,18,19,20,21,22,23] Q Q)<|cA [98,100] Q Q (eV 11 0 0 8 [0,1,2,3,4,5,6] Q Q Q Q Q (fun _=>aBM) fun x18 s22=>fun hF=>ro aX 8 12 1 Q Q Q Q hF fun x19 h5 hF s23=>sF Q<|nR aX 20 [23,24,25,26,27,28,29] [] ({x19 with Pc:=19}:aE) s23 Q Q Q Q Q Q Q Q<|fR Q Q<|qV s9 cR.symm [] [(11,9)] Q Q Q<|fR Q Q<|qU (hT:=tok) (s1,s2,s3,s4,s22,s6,s11) [11,13,14,15,16,17,18,19,7,30,9,10] hF Q results24 Q Q Q Q)<|cA [109,111] Q Q (eV 11 0 0 13 [0,1,2,3,4,5,6,7,8,9,10] Q Q Q Q Q (fun _=>VW) fun x20 s24=>FC (s1,s2,s3,s4,s5,s6,s24) [11,13,14,15,16,17,18,19,20,21,22,23] Q Q)<|fun hF=>ro aX 8 12 1 Q Q Q Q hF fun x21 h7 hF s25=>wi hF<|eV 14 1 0 32 [16,17,18,19,20,21,22] Q Q Q Q Q (fun _=>eC) fun x22 _=>fun hF=>sF Q<|nR aX 13 [23,24,25,26,27,28,29] [] x22 s25 Q Q Q Q Q Q Q Q<|fR Q Q<|qV s9 cR.symm [] [(11,9)] Q Q Q<|fR Q Q<|qU (hT:=tok) (s1,s2,s3,s4,s5,s6,s11) [11,0,1,2,3,4,5,6,7,30,9,10] hF Q results24 Q Q Q Q
theorem ZO{j:aE}{s1 s2 s3 s4 s5 s6 s7:AC}(h1:bS κ s1 j.Batch.aY)(h2:bS κ s2 j.Reads)(h3:bS κ s3 j.aB)(h4:bS κ s4 j.dJ)(h5:bS κ s5 j.dF)(h6:bS κ s6 j.aQ)(h7:bS κ s7 j.bA):V0 prog κ 104 (GD j) [.g [.b j.bX,.b j.Batch.Collect,.h s1 j.Batch.aY.length,I j.aI,I j.Pc,I j.At,I j.K,I j.bY,I j.fX,I j.H,I j.dB,I j.Node.Key,I j.Node.dO,I j.Node.Next,.b j.Found,I j.Code,I j.Sub.Kind,I j.Sub.A,I j.Sub.Pc,I j.Sub.E,I j.Sub.Row,I j.Sub.B,I j.Sub.H,I j.Sub.Out,I j.Sub.Code,.b j.Sub.cJ,.h s2 j.Reads.length,.h s3 j.aB.length,.h s4 j.dJ.length,.h s5 j.dF.length,.h s6 j.aQ.length,.h s7 j.bA.length]] .b:=
 dA tok call104 func104 results104 Q Q<|eD Q Q
theorem ZP{q:aL}{s1:AC}(h1:bS κ s1 q.List):V0 prog κ 105 (GF q) [.g [.h s1 q.List.length]] .b:=
 dA tok call105 func105 results105 Q Q<|eD Q Q
theorem aDE{t:Table}{s1 s2 s3 s4 s5 s6 s7 s8 s9 s10 s11:AC}(h1:bS κ s1 t.aC.Mem.Heap.Bytes)(h2:bS κ s2 t.aC.Mem.Heap.Class)(h3:bS κ s3 t.aC.Mem.aD.Global)(h4:bS κ s4 t.aC.Mem.aD.Own)(h5:bS κ s5 t.aC.aA.cH)(h6:bS κ s6 t.aC.aN)(h7:bS κ s7 t.aC.qH)(h8:bS κ s8 t.b8)(h9:bS κ s9 t.aO)(h10:bS κ s10 t.dU)(h11:bS κ s11 t.Log):V0 prog κ 45 (EJ t) [.g (IQ t s1 s2 s3 s4 s5 s6 s7 s8 s9 s10 s11)] .b:=
 dA tok call45 func45 results45 Q Q<|gY 0 1 EI [] 2 [] Q (c0 Q (fun h=>j8 (h.a h9) (Y6 call104 fun hy=>ZO hy.1 hy.2.1 hy.2.2.1 hy.2.2.2.1 hy.2.2.2.2.1 hy.2.2.2.2.2.1 hy.2.2.2.2.2.2)) fun x2=>gX [6,7] Q Q (c0 Q (fun h=>uC (h.a h10) (Y6 call105 fun hy=>ZP hy)) fun x3=>cO [] Q Q)<|cO [] Q Q) fun x1=>eD Q Q
theorem II{j:aE}{s1 s2 s3 s4 s5 s6 s7:AC}(h1:bS κ s1 j.Batch.aY)(h2:bS κ s2 j.Reads)(h3:bS κ s3 j.aB)(h4:bS κ s4 j.dJ)(h5:bS κ s5 j.dF)(h6:bS κ s6 j.aQ)(h7:bS κ s7 j.bA):V0 prog κ 46 (sZ j) [.g [.b j.bX,.b j.Batch.Collect,.h s1 j.Batch.aY.length,I j.aI,I j.Pc,I j.At,I j.K,I j.bY,I j.fX,I j.H,I j.dB,I j.Node.Key,I j.Node.dO,I j.Node.Next,.b j.Found,I j.Code,I j.Sub.Kind,I j.Sub.A,I j.Sub.Pc,I j.Sub.E,I j.Sub.Row,I j.Sub.B,I j.Sub.H,I j.Sub.Out,I j.Sub.Code,.b j.Sub.cJ,.h s2 j.Reads.length,.h s3 j.aB.length,.h s4 j.dJ.length,.h s5 j.dF.length,.h s6 j.aQ.length,.h s7 j.bA.length]] .b:=
 dA tok call46 func46 results46 Q Q<|c0 Q (fun h=>YM (h.a h1) (h.a h2) (h.a h3) (h.a h4) (h.a h5) (h.a h6) (h.a h7)) fun x1=>eD Q Q
theorem ZQ{t:Table}{n:Int}{finish:Bool}{s1 s2 s3 s4 s5 s6 s7 s8 s9 s10 s11:AC}{b0:Nat×Nat}:VS prog κ 21 (GG t n finish) [.p 0 0,I n,.b finish] [b0] ([.box 0 (IQ t s1 s2 s3 s4 s5 s6 s7 s8 s9 s10 s11)]++(MY t s1 s2 s3 s4 s5 s6 s7 s8 s9 s10 s11 [])) (fun(r:Table) (y:A7C)=>.t []) (fun(r:Table) (y:A7C)=>([.box 0 (IQ r y.1 y.2.1 y.2.2.1 y.2.2.2.1 y.2.2.2.2.1 y.2.2.2.2.2.1 s7 s8 s9 s10 y.2.2.2.2.2.2)]++(MY r y.1 y.2.1 y.2.2.1 y.2.2.2.1 y.2.2.2.2.1 y.2.2.2.2.2.1 s7 s8 s9 s10 y.2.2.2.2.2.2 []))):=
 dA tok call21 func21 results21 Q Q<|W4 (s1,s2,s3,s4,s5,s6,s11) [0,2,7] (fun(p:Int×Table) (u:A7C)=>[(8,I p.1)]) [1,2,3,4,5,6,7,8,9,10,11,0] [] (fun p u=>(MY p.2 u.1 u.2.1 u.2.2.1 u.2.2.2.1 u.2.2.2.2.1 u.2.2.2.2.2.1 s7 s8 s9 s10 u.2.2.2.2.2.2 [.box 0 (IQ p.2 u.1 u.2.1 u.2.2.1 u.2.2.2.1 u.2.2.2.2.1 u.2.2.2.2.2.1 s7 s8 s9 s10 u.2.2.2.2.2.2)])) Out.brk [0] (fun(x5:Table) (u:A7C)=>[]) [] (fun x5 u=>(MY x5 u.1 u.2.1 u.2.2.1 u.2.2.2.1 u.2.2.2.2.1 u.2.2.2.2.2.1 s7 s8 s9 s10 u.2.2.2.2.2.2 [.box 0 (IQ x5 u.1 u.2.1 u.2.2.1 u.2.2.2.1 u.2.2.2.2.1 u.2.2.2.2.2.1 s7 s8 s9 s10 u.2.2.2.2.2.2)])) Q Q (fun hF1 ⟨x3,x4⟩ ⟨s19,s20,s21,s22,s23,s24,s25⟩ hr1=>cA [9] Q Q (eN 0 1 (fun(p:Bool×Table)=>mY x3 p.1 p.2) [0,2,6,7,8] (fun(p:Bool×Table) (_:Unit)=>[(24,.b p.1)]) [] (fun p _=>(MY p.2 s19 s20 s21 s22 s23 s24 s7 s8 s9 s10 s25 [.box 0 (IQ p.2 s19 s20 s21 s22 s23 s24 s7 s8 s9 s10 s25)])) Q (gX [11,12] Q Q (c0 Q (fun h=>aDE (h.o 0 Q) (h.o 1 Q) (h.o 2 Q) (h.o 3 Q) (h.o 4 Q) (h.o 5 Q) (h.o 6 Q) (h.o 7 Q) (h.o 8 Q) (h.o 9 Q) (h.o 10 Q)) fun x9=>gX [16,17,18] Q Q (cO (p:=(true,x4)) [0,1,2,3,4,5,6,7,8,9,10,11] Q Q)<|c0 Q (fun h=>j8 (h.o 8 Q) (Y6 call46 fun hy=>II hy.1 hy.2.1 hy.2.2.1 hy.2.2.2.1 hy.2.2.2.2.1 hy.2.2.2.2.2.1 hy.2.2.2.2.2.2)) fun x10=>cO (p:=(x10,x4)) [0,1,2,3,4,5,6,7,8,9,10,11] Q Q)<|c0 Q (fun h=>j8 (h.o 8 Q) (Y6 call46 fun hy=>II hy.1 hy.2.1 hy.2.2.1 hy.2.2.2.1 hy.2.2.2.2.1 hy.2.2.2.2.2.1 hy.2.2.2.2.2.2)) fun x11=>cO (p:=(x11,x4)) [0,1,2,3,4,5,6,7,8,9,10,11] Q Q) fun⟨x6,x7⟩ _=>cA [24] Q Q (US hr1 hF1<|lY (s19,s20,s21,s22,s23,s24,s25) [11,0,1,2,3,4,5,6,7,8,9,10] Q Q)<|eV 11 0 0 13 [0,1,2,3,4,5,6,7,8,9,10] Q Q Q Q Q (fun _=>N9) fun x8 s33=>nxW s33 [12,13,14,15,16,17,18,19,20,21,22,11] Q)<|bkW (s19,s20,s21,s22,s23,s24,s25) [0,1,2,3,4,5,6,7,8,9,10,11] Q) fun x5 ⟨s26,s27,s28,s29,s30,s31,s32⟩=>FC (s26,s27,s28,s29,s30,s31,s32) [11,0,1,2,3,4,5,6,7,8,9,10] Q Q
theorem MC{t:Table}{s1 s2 s3 s4 s5 s6 s7 s8 s9 s10 s11:AC}(h1:bS κ s1 t.aC.Mem.Heap.Bytes)(h2:bS κ s2 t.aC.Mem.Heap.Class)(h3:bS κ s3 t.aC.Mem.aD.Global)(h4:bS κ s4 t.aC.Mem.aD.Own)(h5:bS κ s5 t.aC.aA.cH)(h6:bS κ s6 t.aC.aN)(h7:bS κ s7 t.aC.qH)(h8:bS κ s8 t.b8)(h9:bS κ s9 t.aO)(h10:bS κ s10 t.dU)(h11:bS κ s11 t.Log):VS prog κ 7 (jN t) [.g (IQ t s1 s2 s3 s4 s5 s6 s7 s8 s9 s10 s11)] [] [] (fun r (y:a1Y)=>.g (yTb r y)) (fun r y=>(zTb r y [])):=
 dA tok call7 func7 results7 Q Q<|c1 Q (fun h=>aC2 (h.a h1) (h.a h2) (h.a h3) (h.a h4) (h.a h5) (h.a h6) (h.a h7) (h.a h8) (h.a h9) (h.a h10) (h.a h11)) fun x1 s12=>eN 1 3 zC [2,3] (fun(x2:Table) (u:A7C)=>[]) [1] (fun x2 u=>(MY x2 u.1 u.2.1 u.2.2.1 u.2.2.2.1 u.2.2.2.2.1 u.2.2.2.2.2.1 s12.2.2.2.2.2.2.1 s12.2.2.2.2.2.2.2.1 s12.2.2.2.2.2.2.2.2.1 s12.2.2.2.2.2.2.2.2.2.1 u.2.2.2.2.2.2 [.box 2 (IQ x2 u.1 u.2.1 u.2.2.1 u.2.2.2.1 u.2.2.2.2.1 u.2.2.2.2.2.1 s12.2.2.2.2.2.2.1 s12.2.2.2.2.2.2.2.1 s12.2.2.2.2.2.2.2.2.1 s12.2.2.2.2.2.2.2.2.2.1 u.2.2.2.2.2.2)])) Q (c0 Q (fun h=>aIE (h.a h1) (h.a h2) (h.a h3) (h.a h4) (h.a h5) (h.a h6) (h.a h7) (h.a h8) (h.a h9) (h.a h10) (h.a h11)) fun x3=>cA [7] Q Q (eV 13 2 0 13 [2,3,4,5,6,7,8,9,10,11,12] Q Q Q Q Q (fun _=>ZQ) fun x4 s20=>lZ s20 [14,15,16,17,18,19,20,21,22,23,24,13,1] Q Q)<|lZ (s12.1,s12.2.1,s12.2.2.1,s12.2.2.2.1,s12.2.2.2.2.1,s12.2.2.2.2.2.1,s12.2.2.2.2.2.2.2.2.2.2) [2,3,4,5,6,7,8,9,10,11,12,13,1] Q Q) fun x2 ⟨s13,s14,s15,s16,s17,s18,s19⟩=>lY (s13,s14,s15,s16,s17,s18,s12.2.2.2.2.2.2.1,s12.2.2.2.2.2.2.2.1,s12.2.2.2.2.2.2.2.2.1,s12.2.2.2.2.2.2.2.2.2.1,s19) [0,1,2,3,4,5,6,7,8,9,10] Q Q
theorem aBN{x y:Int}:V0 prog κ 265 (TF x y) [.i .u64 x,.i .u64 y] (fun r=>.t [.i .u64 r.1,.i .u64 r.2]):=
 dA tok call265 func265 results265 Q Q<|eD Q Q
theorem aFM{x y:Int}:V0 prog κ 241 (OX x y) [.i .u64 x,.i .u64 y] (fun r=>.t [.i .u64 r.1,.i .u64 r.2]):=
 dA tok call241 func241 results241 Q Q<|c0 Q (fun _=>aBN) fun x1=>eD Q Q
theorem zE{x:List Int}{count:Int}{s1:AC}(h1:bS κ s1 x):VS prog κ 206 (vL x count) [.h s1 x.length,I count] [] [] (fun r (y:AC)=>.h y r.length) (fun r y=>[ow y r]):=
 dA tok call206 func206 results206 Q Q<|cA [10] Q Q (fun hF=>nomatch hF)<|c0 Q (fun _=>aFM) fun x1=>gY 0 0 (pN x x1) [0,6] 26 [] Q (gX [22,23] Q Q (cO [] Q Q)<|cO [] Q Q) fun x2=>cA [26] Q Q (fun hF=>nomatch hF)<|fun hF=>FL (0:Int) bW (fun w=>vX Q w) Q Q Q Q Q Q Q hF fun hF s2=>cp0 (xs:=x) 0 (fun h=>(h.a h1)) Q Q Q Q Q Q Q Q<|rr s2 (fP (xs:=x) (jT _)).symm [7,30,31] [] [] Q Q Q Q<|wi hF<|W4 () [] (fun(p:(List Int)×Int) (_:Unit)=>[(7,.h s2 p.1.length),(8,I p.2)]) [0] [] (fun p _=>[ow s2 (p.1:List Int)]) id [] (fun(x7:(List Int)) (_:Unit)=>[(7,.h s2 x7.length)]) [] (fun x7 _=>[ow s2 (x7:List Int)]) Q Q (fun hF2 ⟨x5,x6⟩ _ hr2=>cA [37] Q Q (jY aH [] Q<|fun hG2=>cpc 0 Q Q fun hc1=>aNH hc1 Q Q Q Q Q Q hG2 fun hG2 h2=>aW6 hc1 Q Q Q Q Q Q hG2 fun hG2 h3=>cpy (xs:=(x5.take x6.toNat).drop 0) 0 x6.toNat h2 (fun h=>((h.o 0 Q).sub (UR h3.1 h3.2) h3)) Q Q Q Q Q Q Q Q<|rr s2 (fP (xs:=(x5.take x6.toNat).drop 0) h2.1).symm [7,35,39,42] [] [] Q Q Q Q<|wi hG2<|QC [0] Q)<|MS [0] Q) fun x7 _=>lY s2 [0] Q Q
theorem aIP:VS prog κ 168 KM [] [] [] (fun r (y:AC×AC)=>.g [.h y.1 r.Bytes.length,.h y.2 r.Class.length]) (fun r y=>[ow y.1 r.Bytes,ow y.2 r.Class]):=
 dA tok call168 func168 results168 Q Q<|eN 0 1 TG [0] (fun(x1:(List Int)) (u:AC×AC)=>[]) [] (fun x1 u=>[ow u.1 (List.replicate ((384:Int).toNat) 0:List Int),ow u.2 (x1:List Int),.box 0 [.h u.1 (List.replicate ((384:Int).toNat) 0).length,.h u.2 x1.length]]) Q (jY aH [] Q<|fun hF=>nd hF fun hA1 hF=>bd hF fun x2 hA2 hF=>cG Q Q (have hq1:=rn hA1;FL (0:Int) bW (fun w=>vX Q w) Q Q Q Q Q Q Q hq1 fun hq1 s6=>lt1 Q bW Q Q Q Q fun s7=>iS hA2 Q (fun h=>zE (h.o 2 Q)) fun s8=>wi hF<|lZ (p:=(x2)) (s6,s8) [1,3,0] Q Q) (lt1 Q bW Q Q Q Q fun s9=>cG Q Q (have hq3:=rn hA1;FL (0:Int) bW (fun w=>vX Q w) Q Q Q Q Q Q Q hq3 fun hq3 s10=>iS hA2 Q (fun h=>zE (h.o 1 Q)) fun s11=>wi hF<|lZ (p:=(x2)) (s10,s11) [2,3,0] Q Q) (iS hA2 Q (fun h=>zE (h.o 1 Q)) fun s12=>have hq6:=rn hA1;FL (0:Int) bW (fun w=>vX Q w) Q Q Q Q Q Q Q hq6 fun hq6 s13=>wi hF<|lZ (p:=(x2)) (s13,s12) [3,2,0] Q Q))) fun x1 ⟨s1,s2⟩=>lY (s1,s2) [0,1] Q Q
theorem aFN:VS prog κ 169 OY [] [] [] (fun r (y:AC×AC)=>.g [.h y.1 r.Global.length,.h y.2 r.Own.length]) (fun r y=>[ow y.1 r.Global,ow y.2 r.Own]):=
 dA tok call169 func169 results169 Q Q<|eN 0 1 (fun(_:Unit)=>QU) [0] (fun(_:Unit) (u:AC×AC)=>[]) [] (fun _ u=>[ow u.1 (List.replicate ((3:Int).toNat) zL2:List aW),ow u.2 (List.replicate ((9:Int).toNat) zL2:List aW),.box 0 [.h u.1 zR5.length,.h u.2 zR4.length]]) Q (jY aH [] Q<|fun hF=>nd hF fun hA1 hF=>nd hF fun hA2 hF=>cG Q Q (have hq1:=rn hA1;FL zL2 fV (fun _=>(iF (C4 zL2) (bJ FG))) Q Q Q Q Q Q Q hq1 fun hq1 s5=>have hq2:=rn hA2;FL zL2 fV (fun _=>(iF (C4 zL2) (bJ FG))) Q Q Q Q Q Q Q hq2 fun hq2 s6=>wi hF<|lZ (p:=()) (s5,s6) [1,2,0] Q Q) (have hq3:=rn hA2;FL zL2 fV (fun _=>(iF (C4 zL2) (bJ FG))) Q Q Q Q Q Q Q hq3 fun hq3 s7=>have hq4:=rn hA1;FL zL2 fV (fun _=>(iF (C4 zL2) (bJ FG))) Q Q Q Q Q Q Q hq4 fun hq4 s8=>wi hF<|lZ (p:=()) (s8,s7) [2,1,0] Q Q)) fun _ ⟨s1,s2⟩=>lY (s1,s2) [0,1] Q Q
theorem aK6:VS prog κ 106 U7 [] [] [] (fun r (y:A4C)=>.g (yM r y)) (fun r y=>(zM r y [])):=
 dA tok call106 func106 results106 Q Q<|c1 Q (fun _=>aIP) fun x1 s1=>c1 Q (fun _=>aFN) fun x2 s2=>lY (s1.1,s1.2,s2.1,s2.2) [1,2,3,4] Q Q
theorem aFO:VS prog κ 107 OZ [] [] [] (fun r (y:AC)=>.g [I r.aG,.h y r.cH.length]) (fun r y=>[ow y r.cH]):=
 dA tok call107 func107 results107 Q Q<|fun hF=>FL zL3 N5 (fun w=>vX (a1S zL3) w) Q Q Q Q Q Q Q hF fun hF s1=>wi hF<|lY s1 [1] Q Q
theorem aFP:VS prog κ 108 O0 [] [] [] (fun r (y:AC)=>.h y r.length) (fun r y=>[ow y r]):=
 dA tok call108 func108 results108 Q Q<|fun hF=>FL ((⟨[]⟩:bI):bI) IG (fun _=>(iF (aHU (⟨[]⟩:bI)) (bJ FG))) Q Q Q Q Q Q Q hF fun hF s1=>wi hF<|lY s1 [0] Q Q
theorem aK7:VS prog κ 109 U8 [] [] [] (fun r (y:AC)=>.h y r.length) (fun r y=>[ow y r]):=
 dA tok call109 func109 results109 Q Q<|fun hF=>FL (0:Int) bW (fun w=>vX Q w) Q Q Q Q Q Q Q hF fun hF s1=>wi hF<|lY s1 [0] Q Q
theorem xB:VS prog κ 47 KN [] [] [] (fun r (y:A7C)=>.g (yB r y)) (fun r y=>(zB r y [])):=
 dA tok call47 func47 results47 Q Q<|c1 Q (fun _=>aK6) fun x1 s1=>c1 Q (fun _=>aFO) fun x2 s2=>c1 Q (fun _=>aFP) fun x3 s3=>c1 Q (fun _=>aK7) fun x4 s4=>lY (t4U s1 (s2,s3,s4)) [1,2,3,4,5,6,7] Q Q
theorem aFQ{todo:List aL}{s1:AC}(h1:bS κ s1 todo):VS prog κ 22 (HF todo) [.h s1 todo.length] [] [] (fun r (y:a1Y)=>.g (yTb r y)) (fun r y=>(zTb r y [])):=
 dA tok call22 func22 results22 Q Q<|c0 Q (fun h=>VL (h.a h1)) fun x1=>cA [5] Q Q (fun hF=>sR Q<|C2 Int<|C2 Int<|C2 aW<|C2 aW<|C2 vR<|C2 bI<|C2 Int<|C2 bY<|C2 aE<|C2 aL<|C2 lV<|qU (hT:=tok) (⟨none,0⟩,⟨none,0⟩,⟨none,0⟩,⟨none,0⟩,⟨none,0⟩,⟨none,0⟩,⟨none,0⟩,⟨none,0⟩,⟨none,0⟩,⟨none,0⟩,⟨none,0⟩) [1,2,3,4,5,6,7,8,9,10,11] hF Q results22 Q Q Q Q)<|eN 0 1 QV [2] (fun(x2:Table) (u:bCN)=>[]) [] (fun x2 u=>(oBs x2.aC u.1 u.2.1 u.2.2.1 u.2.2.2.1 u.2.2.2.2.1 u.2.2.2.2.2.1 u.2.2.2.2.2.2.1 [ow u.2.2.2.2.2.2.2.1 (x2.b8:List bY),ow u.2.2.2.2.2.2.2.2.1 (x2.aO:List aE),ow u.2.2.2.2.2.2.2.2.2 (x2.dU:List aL),.box 0 [.h u.1 x2.aC.Mem.Heap.Bytes.length,.h u.2.1 x2.aC.Mem.Heap.Class.length,.h u.2.2.1 x2.aC.Mem.aD.Global.length,.h u.2.2.2.1 x2.aC.Mem.aD.Own.length,I x2.aC.aA.aG,.h u.2.2.2.2.1 x2.aC.aA.cH.length,.h u.2.2.2.2.2.1 x2.aC.aN.length,.h u.2.2.2.2.2.2.1 x2.aC.qH.length,.h u.2.2.2.2.2.2.2.1 x2.b8.length,.h u.2.2.2.2.2.2.2.2.1 x2.aO.length,.h u.2.2.2.2.2.2.2.2.2 x2.dU.length,.h ⟨none,0⟩ 0,I x2.aI]])) Q (jY aH [] Q<|fun hF=>bd hF fun x3 hA1 hF=>nd hF fun hA2 hF=>nd hF fun hA3 hF=>bd hF fun x4 hA4 hF=>aAG Q Q (iS hA1 Q (fun _=>xB) fun s16=>aAG Q Q (have hq2:=rn hA2;FL T7 gG (fun w=>vX (uU T7) w) Q Q Q Q Q Q Q hq2 fun hq2 s17=>cG Q Q (have hq3:=rn hA3;FL RF fA (fun _=>(iF (m7 RF) (bJ (bJ (bJ (bJ (bJ (bJ (bJ FG))))))))) Q Q Q Q Q Q Q hq3 fun hq3 s18=>iS hA4 Q (fun h=>dV (h.a h1)) fun s19=>wi hF<|lZ (p:=((⟨x3,zR6,zR7,x4,[],0⟩:Table))) (t7U s16 (s17,s18,s19)) [1,2,3,4,5,6,7,8,9,10,0] Q Q) (iS hA4 Q (fun h=>dV (h.a h1)) fun s20=>have hq6:=rn hA3;FL RF fA (fun _=>(iF (m7 RF) (bJ (bJ (bJ (bJ (bJ (bJ (bJ FG))))))))) Q Q Q Q Q Q Q hq6 fun hq6 s21=>wi hF<|lZ (p:=((⟨x3,zR6,zR7,x4,[],0⟩:Table))) (t7U s16 (s17,s21,s20)) [1,2,3,4,5,6,7,8,10,9,0] Q Q)) (have hq7:=rn hA3;FL RF fA (fun _=>(iF (m7 RF) (bJ (bJ (bJ (bJ (bJ (bJ (bJ FG))))))))) Q Q Q Q Q Q Q hq7 fun hq7 s22=>cG Q Q (have hq8:=rn hA2;FL T7 gG (fun w=>vX (uU T7) w) Q Q Q Q Q Q Q hq8 fun hq8 s23=>iS hA4 Q (fun h=>dV (h.a h1)) fun s24=>wi hF<|lZ (p:=((⟨x3,zR6,zR7,x4,[],0⟩:Table))) (t7U s16 (s23,s22,s24)) [1,2,3,4,5,6,7,9,8,10,0] Q Q) (iS hA4 Q (fun h=>dV (h.a h1)) fun s25=>have hq11:=rn hA2;FL T7 gG (fun w=>vX (uU T7) w) Q Q Q Q Q Q Q hq11 fun hq11 s26=>wi hF<|lZ (p:=((⟨x3,zR6,zR7,x4,[],0⟩:Table))) (t7U s16 (s26,s22,s25)) [1,2,3,4,5,6,7,10,8,9,0] Q Q)) (iS hA4 Q (fun h=>dV (h.a h1)) fun s27=>cG Q Q (have hq13:=rn hA2;FL T7 gG (fun w=>vX (uU T7) w) Q Q Q Q Q Q Q hq13 fun hq13 s28=>have hq14:=rn hA3;FL RF fA (fun _=>(iF (m7 RF) (bJ (bJ (bJ (bJ (bJ (bJ (bJ FG))))))))) Q Q Q Q Q Q Q hq14 fun hq14 s29=>wi hF<|lZ (p:=((⟨x3,zR6,zR7,x4,[],0⟩:Table))) (t7U s16 (s28,s29,s27)) [1,2,3,4,5,6,7,9,10,8,0] Q Q) (have hq15:=rn hA3;FL RF fA (fun _=>(iF (m7 RF) (bJ (bJ (bJ (bJ (bJ (bJ (bJ FG))))))))) Q Q Q Q Q Q Q hq15 fun hq15 s30=>have hq16:=rn hA2;FL T7 gG (fun w=>vX (uU T7) w) Q Q Q Q Q Q Q hq16 fun hq16 s31=>wi hF<|lZ (p:=((⟨x3,zR6,zR7,x4,[],0⟩:Table))) (t7U s16 (s31,s30,s27)) [1,2,3,4,5,6,7,10,9,8,0] Q Q))) (have hq17:=rn hA2;FL T7 gG (fun w=>vX (uU T7) w) Q Q Q Q Q Q Q hq17 fun hq17 s32=>cG Q Q (iS hA1 Q (fun _=>xB) fun s33=>cG Q Q (have hq19:=rn hA3;FL RF fA (fun _=>(iF (m7 RF) (bJ (bJ (bJ (bJ (bJ (bJ (bJ FG))))))))) Q Q Q Q Q Q Q hq19 fun hq19 s34=>iS hA4 Q (fun h=>dV (h.a h1)) fun s35=>wi hF<|lZ (p:=((⟨x3,zR6,zR7,x4,[],0⟩:Table))) (t7U s33 (s32,s34,s35)) [2,3,4,5,6,7,8,1,9,10,0] Q Q) (iS hA4 Q (fun h=>dV (h.a h1)) fun s36=>have hq22:=rn hA3;FL RF fA (fun _=>(iF (m7 RF) (bJ (bJ (bJ (bJ (bJ (bJ (bJ FG))))))))) Q Q Q Q Q Q Q hq22 fun hq22 s37=>wi hF<|lZ (p:=((⟨x3,zR6,zR7,x4,[],0⟩:Table))) (t7U s33 (s32,s37,s36)) [2,3,4,5,6,7,8,1,10,9,0] Q Q)) (have hq23:=rn hA3;FL RF fA (fun _=>(iF (m7 RF) (bJ (bJ (bJ (bJ (bJ (bJ (bJ FG))))))))) Q Q Q Q Q Q Q hq23 fun hq23 s38=>iS hA1 Q (fun _=>xB) fun s39=>iS hA4 Q (fun h=>dV (h.a h1)) fun s40=>wi hF<|lZ (p:=((⟨x3,zR6,zR7,x4,[],0⟩:Table))) (t7U s39 (s32,s38,s40)) [3,4,5,6,7,8,9,1,2,10,0] Q Q)) (have hq26:=rn hA3;FL RF fA (fun _=>(iF (m7 RF) (bJ (bJ (bJ (bJ (bJ (bJ (bJ FG))))))))) Q Q Q Q Q Q Q hq26 fun hq26 s41=>cG Q Q (iS hA1 Q (fun _=>xB) fun s42=>cG Q Q (have hq28:=rn hA2;FL T7 gG (fun w=>vX (uU T7) w) Q Q Q Q Q Q Q hq28 fun hq28 s43=>iS hA4 Q (fun h=>dV (h.a h1)) fun s44=>wi hF<|lZ (p:=((⟨x3,zR6,zR7,x4,[],0⟩:Table))) (t7U s42 (s43,s41,s44)) [2,3,4,5,6,7,8,9,1,10,0] Q Q) (iS hA4 Q (fun h=>dV (h.a h1)) fun s45=>have hq31:=rn hA2;FL T7 gG (fun w=>vX (uU T7) w) Q Q Q Q Q Q Q hq31 fun hq31 s46=>wi hF<|lZ (p:=((⟨x3,zR6,zR7,x4,[],0⟩:Table))) (t7U s42 (s46,s41,s45)) [2,3,4,5,6,7,8,10,1,9,0] Q Q)) (have hq32:=rn hA2;FL T7 gG (fun w=>vX (uU T7) w) Q Q Q Q Q Q Q hq32 fun hq32 s47=>iS hA1 Q (fun _=>xB) fun s48=>iS hA4 Q (fun h=>dV (h.a h1)) fun s49=>wi hF<|lZ (p:=((⟨x3,zR6,zR7,x4,[],0⟩:Table))) (t7U s48 (s47,s41,s49)) [3,4,5,6,7,8,9,2,1,10,0] Q Q))) fun x2 ⟨s2,s3,s4,s5,s6,s7,s8,s9,s10,s11⟩=>fun hF=>sR Q<|C2 lV<|qU (hT:=tok) (s2,s3,s4,s5,s6,s7,s8,s9,s10,s11,⟨none,0⟩) [0,1,2,3,4,5,6,7,8,9,11] hF Q results22 Q Q Q Q
theorem Q2{x:vC}{s1 s2:AC}(h1:bS κ s1 x.dU)(h2:bS κ s2 x.j7):VS prog κ 8 (nZ x) [.g [.h s1 x.dU.length,.h s2 x.j7.length]] [] [] (fun r (y:a1Y)=>.g (yTb r y)) (fun r y=>(zTb r y [])):=
 dA tok call8 func8 results8 Q Q<|c1 Q (fun h=>aFQ (h.a h1)) fun x1 s3=>cA [12] Q Q (lY s3 [2,3,4,5,6,7,8,9,10,11,12] Q Q)<|fun hF=>a9X Q Q Q Q<|a0X Q Q Q Q Q h2 Q Q hF fun hF s4 h3=>wi hF<|W4 (s3.1,s3.2.1,s3.2.2.1,s3.2.2.2.1,s3.2.2.2.2.1,s3.2.2.2.2.2.1,s3.2.2.2.2.2.2.2.2.2.2) [2,3,20,21] (fun(p:Int×Table) (u:A7C)=>[(22,I p.1)]) [2,3,4,5,6,7,8,9,10,11,12,13,1] [1] (fun p u=>(MY p.2 u.1 u.2.1 u.2.2.1 u.2.2.2.1 u.2.2.2.2.1 u.2.2.2.2.2.1 s3.2.2.2.2.2.2.1 s3.2.2.2.2.2.2.2.1 s3.2.2.2.2.2.2.2.2.1 s3.2.2.2.2.2.2.2.2.2.1 u.2.2.2.2.2.2 [.box 2 (IQ p.2 u.1 u.2.1 u.2.2.1 u.2.2.2.1 u.2.2.2.2.1 u.2.2.2.2.2.1 s3.2.2.2.2.2.2.1 s3.2.2.2.2.2.2.2.1 s3.2.2.2.2.2.2.2.2.1 s3.2.2.2.2.2.2.2.2.2.1 u.2.2.2.2.2.2)])) id [2,3] (fun(x6:Table) (u:A7C)=>[]) [1] (fun x6 u=>(MY x6 u.1 u.2.1 u.2.2.1 u.2.2.2.1 u.2.2.2.2.1 u.2.2.2.2.2.1 s3.2.2.2.2.2.2.1 s3.2.2.2.2.2.2.2.1 s3.2.2.2.2.2.2.2.2.1 s3.2.2.2.2.2.2.2.2.2.1 u.2.2.2.2.2.2 [.box 2 (IQ x6 u.1 u.2.1 u.2.2.1 u.2.2.2.1 u.2.2.2.2.1 u.2.2.2.2.2.1 s3.2.2.2.2.2.2.1 s3.2.2.2.2.2.2.2.1 s3.2.2.2.2.2.2.2.2.1 s3.2.2.2.2.2.2.2.2.2.1 u.2.2.2.2.2.2)])) Q Q (fun hF1 ⟨x4,x5⟩ ⟨s12,s13,s14,s15,s16,s17,s18⟩ hr1=>cA [23] Q Q (eN 2 3 (vM x4) [2,3,20,21,22] (fun(x7:Table) (u:A7C)=>[]) [12] (fun x7 u=>(MY x7 u.1 u.2.1 u.2.2.1 u.2.2.2.1 u.2.2.2.2.1 u.2.2.2.2.2.1 s3.2.2.2.2.2.2.1 s3.2.2.2.2.2.2.2.1 s3.2.2.2.2.2.2.2.2.1 s3.2.2.2.2.2.2.2.2.2.1 u.2.2.2.2.2.2 [.box 2 (IQ x7 u.1 u.2.1 u.2.2.1 u.2.2.2.1 u.2.2.2.2.1 u.2.2.2.2.2.1 s3.2.2.2.2.2.2.1 s3.2.2.2.2.2.2.2.1 s3.2.2.2.2.2.2.2.2.1 s3.2.2.2.2.2.2.2.2.2.1 u.2.2.2.2.2.2)])) Q (ixI Q h3 Q fun x8=>c0 Q (fun _=>iO) fun x9=>cA [27] Q Q (eV 11 2 0 13 [0,1,2,3,4,5,6,7,8,9,10] Q Q Q Q Q (fun _=>N9) fun x10 s33=>lZ s33 [14,15,16,17,18,19,20,21,22,23,24,11,12] Q Q)<|lZ (s12,s13,s14,s15,s16,s17,s18) [0,1,2,3,4,5,6,7,8,9,10,11,12] Q Q) fun x7 ⟨s26,s27,s28,s29,s30,s31,s32⟩=>nxW (s26,s27,s28,s29,s30,s31,s32) [0,1,2,3,4,5,6,7,8,9,10,11,12] Q)<|bkW (s12,s13,s14,s15,s16,s17,s18) [0,1,2,3,4,5,6,7,8,9,10,11,12] Q) fun x6 ⟨s19,s20,s21,s22,s23,s24,s25⟩=>lY (s19,s20,s21,s22,s23,s24,s3.2.2.2.2.2.2.1,s3.2.2.2.2.2.2.2.1,s3.2.2.2.2.2.2.2.2.1,s3.2.2.2.2.2.2.2.2.2.1,s25) [0,1,2,3,4,5,6,7,8,9,10] Q Q
theorem aBO{t:Table}{s1 s2 s3 s4 s5 s6 s7 s8 s9 s10 s11:AC}(h1:bS κ s1 t.aC.Mem.Heap.Bytes)(h2:bS κ s2 t.aC.Mem.Heap.Class)(h3:bS κ s3 t.aC.Mem.aD.Global)(h4:bS κ s4 t.aC.Mem.aD.Own)(h5:bS κ s5 t.aC.aA.cH)(h6:bS κ s6 t.aC.aN)(h7:bS κ s7 t.aC.qH)(h8:bS κ s8 t.b8)(h9:bS κ s9 t.aO)(h10:bS κ s10 t.dU)(h11:bS κ s11 t.Log):VS prog κ 9 (A9 t) [.g (IQ t s1 s2 s3 s4 s5 s6 s7 s8 s9 s10 s11)] [] [] (fun r (y:AC)=>.h y r.length) (fun r y=>[ow y r]):=
 dA tok call9 func9 results9 Q Q<|fun hF=>lt0 (α:=lV) gU Q Q Q Q fun s12=>wi hF<|W4 s12 [8,9] (fun(p:(List lV)×Int) (s14:AC)=>[(3,.h s14 p.1.length),(10,I p.2)]) [1] [] (fun p s14=>[ow s14 (p.1:List lV)]) id [] (fun(x5:(List lV)) (s15:AC)=>[(3,.h s15 x5.length)]) [] (fun x5 s15=>[ow s15 (x5:List lV)]) Q Q (fun hF1 ⟨x3,x4⟩ s14 hr1=>cA [11] Q Q (eN 2 1 (tC x4) [8,9,10] (fun(x6:(List lV)) (s16:AC)=>[(3,.h s16 x6.length)]) [] (fun x6 s16=>[ow s16 (x6:List lV)]) Q (HU aXF Q h11 Q fun x7 s17 h12=>cA [16] Q Q (c1 Q (fun h=>L6 (h.a h12.1) (h.a h12.2)) fun x8 s18=>fun hG1=>RO O6 [3,4] (x8) (s18.1,s18.2) gU Q Q Q Q Q Q Q Q Q Q Q Q Q fun s19=>ZZ 0 5 gU Q Q Q Q Q Q Q Q Q Q Q hG1 fun hG1 s20=>wi hG1<|lZ s20 [6] Q Q)<|lZ s14 [0] Q Q) fun x6 s16=>nxW s16 [0] Q)<|bkW s14 [0] Q) fun x5 s15=>lY s15 [0] Q Q
theorem aIQ{l:List lV}{kind serial:Int}{s1:AC}(h1:bS κ s1 l):V0 prog κ 10 (KO l kind serial) [.h s1 l.length,I kind,I serial] I:=
 dA tok call10 func10 results10 Q Q<|XM 7 [0,1,2] [] Out.brk [] [] Q Q (fun hF1 x2 hr1=>cA [11] Q Q (gY 0 0 (BA x2) [0,1,2,7] 29 [] Q (HU aXF Q h1 Q fun x4 s2 h2=>gX [20,21] Q Q (HU aXF Q h1 Q fun x5 s3 h3=>cO [] Q Q)<|cO [] Q Q) fun x3=>cA [29] Q Q (US hr1 hF1<|eD Q Q)<|QC [] Q)<|MS [] Q)<|eD Q Q
theorem aDF{t:Table}{s1 s2 s3 s4 s5 s6 s7 s8 s9 s10 s11:AC}(h1:bS κ s1 t.aC.Mem.Heap.Bytes)(h2:bS κ s2 t.aC.Mem.Heap.Class)(h3:bS κ s3 t.aC.Mem.aD.Global)(h4:bS κ s4 t.aC.Mem.aD.Own)(h5:bS κ s5 t.aC.aA.cH)(h6:bS κ s6 t.aC.aN)(h7:bS κ s7 t.aC.qH)(h8:bS κ s8 t.b8)(h9:bS κ s9 t.aO)(h10:bS κ s10 t.dU)(h11:bS κ s11 t.Log):V0 prog κ 11 (EK t) [.g (IQ t s1 s2 s3 s4 s5 s6 s7 s8 s9 s10 s11)] .b:=
 dA tok call11 func11 results11 Q Q<|XM 3 [1] [0] Out.brk [1] [0] Q Q (fun hF1 x2 hr1=>cA [9] Q Q (HU aLZ Q h9 Q fun x6 s13 h13=>cA [17] Q Q (US hr1 hF1<|eD Q Q)<|QC [0] Q)<|MS [0] Q)<|XM 4 [1] [0] Out.brk [] [] Q Q (fun hF2 x4 hr2=>cA [22] Q Q (HU EV Q h10 Q fun x5 s12 h12=>cA [32] Q Q (US hr2 hF2<|eD Q Q)<|QC [0] Q)<|MS [] Q)<|eD Q Q
theorem KU{l:List lV}{code:Int}{s1:AC}(h1:bS κ s1 l):V0 prog κ 12 (CB l code) [.h s1 l.length,I code] I:=
 dA tok call12 func12 results12 Q Q<|W4 () [1,8,9] (fun(p:Int×Int) (_:Unit)=>[(5,I p.1),(10,I p.2)]) [] [] (fun p _=>[]) id [] (fun(x5:Int) (_:Unit)=>[(5,I x5)]) [] (fun x5 _=>[]) Q Q (fun hF1 ⟨x3,x4⟩ _ hr1=>cA [11] Q Q (eN 2 0 (HH x4) [1,8,9,10] (fun(x6:Int) (_:Unit)=>[(5,I x6)]) [] (fun x6 _=>[]) Q (HU aXF Q h1 Q fun x7 s2 h2=>gY 0 2 (HI x3 x4) [1,5,8,9,10] 22 [] Q (gX [16,17] Q Q (cO [] Q Q)<|cO [] Q Q) fun x8=>cA [22] Q Q (cO [] Q Q)<|cO [] Q Q) fun x6 _=>QC [] Q)<|MS [] Q) fun x5 _=>eD Q Q
theorem X3{code:List UInt8}{s1:AC}(h1:bS κ s1 code):V0 prog κ 3 (EL code) [.h s1 code.length] .b:=
 dA tok call3 func3 results3 Q Q<|c0 Q (fun h=>aSV (h.a h1)) fun x1=>cA [11] Q Q (eD Q Q)<|c1 Q (fun h=>VI (h.a h1)) fun x2 s2=>c0 Q (fun h=>aKX (h.o 0 Q) (h.o 1 Q)) fun x3=>cA [16] Q Q (c1 Q (fun h=>Q2 (h.o 0 Q) (h.o 1 Q)) fun x4 s3=>c1 Q (fun h=>MC (h.o 3 Q) (h.o 4 Q) (h.o 5 Q) (h.o 6 Q) (h.o 7 Q) (h.o 8 Q) (h.o 9 Q) (h.o 10 Q) (h.o 11 Q) (h.o 12 Q) (h.o 13 Q)) fun x5 s4=>bCI underlying47 Q Q Q Q Q Q Q<|eD Q Q)<|c1 Q (fun h=>Q2 (h.o 0 Q) (h.o 1 Q)) fun x6 s5=>c1 Q (fun h=>MC (h.o 3 Q) (h.o 4 Q) (h.o 5 Q) (h.o 6 Q) (h.o 7 Q) (h.o 8 Q) (h.o 9 Q) (h.o 10 Q) (h.o 11 Q) (h.o 12 Q) (h.o 13 Q)) fun x7 s6=>c1 Q (fun h=>aBO (h.o 14 Q) (h.o 15 Q) (h.o 16 Q) (h.o 17 Q) (h.o 18 Q) (h.o 19 Q) (h.o 20 Q) (h.o 21 Q) (h.o 22 Q) (h.o 23 Q) (h.o 24 Q)) fun x8 s7=>W4 () [3,4,5] (fun(p:Int×Int) (_:Unit)=>[(6,I p.1),(7,I p.2)]) [26,0,1,2,14,15,16,17,18,19,20,21,22,23,24,25] [26,0,1,2,14,15,16,17,18,19,20,21,22,23,24,25] (fun p _=>[]) id [4,5] (fun(p:Int×Table) (_:Unit)=>[(6,I p.1)]) [26] (fun p _=>(zTb p.2 s6 [.box 1 (yTb p.2 s6)])) Q Q (fun hF1 ⟨x11,x12⟩ _ hr1=>cA [29] Q Q (sG mD 1 Q Q Q fun x33 h8 s11 h9=>fun hG1=>nK 2 h9 h8 Q Q Q Q Q<|sF Q<|kD mD 16 [19] h8 s11 Q Q Q Q Q Q Q<|nxR () [0,20,2,3,4,5,6,7,8,9,10,11,12,13,14,15] hG1 Q)<|MS [4,5,6,7,8,9,10,11,12,13,14,15,0] Q) fun⟨x13,x14⟩ _=>W4 () [4,5,6] (fun(p:Int×Table) (_:Unit)=>[(8,I p.1)]) [0,1,2,3,4,5,6,7,8,9,10,11,12] [12] (fun p _=>(zTb p.2 s6 [.box 1 (yTb p.2 s6)])) Out.brk [4,5,6] (fun(x19:Table) (_:Unit)=>[]) [12] (fun x19 _=>(zTb x19 s6 [.box 1 (yTb x19 s6)])) Q Q (fun hF2 ⟨x17,x18⟩ _ hr2=>cA [44] Q Q (jY aH [11] Q<|sG O6 12 Q Q Q fun x26 h2 s8 h3=>fun hG2=>nK 2 h3 h2 Q Q Q Q Q<|wi hG2<|c0 Q (fun h=>aIQ (h.o 10 Q)) fun x27=>eN 0 3 (fun(p:Bool×Table)=>wP x17 p.1 p.2) [4,5,6,8] (fun(p:Bool×Table) (_:Unit)=>[(97,.b p.1)]) [] (fun p _=>([ow s7 (x8:List lV)]++(zTb p.2 s6 [.box 1 (yTb p.2 s6)]))) Q (eN 0 3 (fun(p:Bool×Table)=>gQ x17 p.1 p.2) [4,5,6,8] (fun(p:Bool×Table) (_:Unit)=>[(97,.b p.1)]) [] (fun p _=>([ow s7 (x8:List lV)]++(zTb p.2 s6 [.box 1 (yTb p.2 s6)]))) Q (fun hG2=>cqS O6 13 [16,17] h2 (s8.1,s8.2) Q Q Q Q Q Q Q Q Q<|wi hG2<|jY aH [11,15] Q<|gX [56,57] Q Q (cO (p:=(true,x18)) [18,0,1,2,3,4,5,6,7,8,9,10,11] Q Q)<|fun hG2=>have hq1:=rb h2;wi hq1<|sG O6 18 Q Q Q fun u1 h4 s9 h5=>fun hq1=>nK 3 h5 h4 Q Q Q Q Q<|match u1,hq1 with | _,rfl=>wi hG2<|gX [63,64] Q Q (fun hG2=>nK 3 h5 h4 Q Q Q Q Q<|wi hG2<|sG O6 10 Q Q Q fun x32 h6 s10 h7=>fun hG2=>nK 4 h7 h6 Q Q Q Q Q<|(by refine cG Q Q ?_ ?_<;>exact wi hG2<|gX [78,79,80,81] Q Q (fun hG2=>sF Q<|kD O6 24 [27,28] h6 (s10.1,s10.2) Q Q Q Q Q Q Q<|kD O6 19 [22,23] h4 (s9.1,s9.2) Q Q Q Q Q Q Q<|fR Q Q<|nJ (p:=(true,x18)) () [30,0,1,2,3,4,5,6,7,8,9,29,11] hG2 Q)<|fun hG2=>nK 3 h5 h4 Q Q Q Q Q<|wi hG2<|gX [87,88] Q Q (fun hG2=>nK 3 h5 h4 Q Q Q Q Q<|sF Q<|kD O6 24 [27,28] h6 (s10.1,s10.2) Q Q Q Q Q Q Q<|kD O6 19 [22,23] h4 (s9.1,s9.2) Q Q Q Q Q Q Q<|fR Q Q<|nJ (p:=((x26.dJ.length:Int) != 0,x18)) () [30,0,1,2,3,4,5,6,7,8,9,29,11] hG2 Q)<|fun hG2=>sF Q<|kD O6 24 [27,28] h6 (s10.1,s10.2) Q Q Q Q Q Q Q<|kD O6 19 [22,23] h4 (s9.1,s9.2) Q Q Q Q Q Q Q<|fR Q Q<|nJ (p:=(false,x18)) () [30,0,1,2,3,4,5,6,7,8,9,29,11] hG2 Q))<|fun hG2=>nK 3 h5 h4 Q Q Q Q Q<|wi hG2<|gX [87,88] Q Q (fun hG2=>nK 3 h5 h4 Q Q Q Q Q<|sF Q<|kD O6 19 [22,23] h4 (s9.1,s9.2) Q Q Q Q Q Q Q<|nJ (p:=((x26.dJ.length:Int) != 0,x18)) () [24,0,1,2,3,4,5,6,7,8,9,10,11] hG2 Q)<|fun hG2=>sF Q<|kD O6 19 [22,23] h4 (s9.1,s9.2) Q Q Q Q Q Q Q<|nJ (p:=(false,x18)) () [24,0,1,2,3,4,5,6,7,8,9,10,11] hG2 Q) fun⟨x30,x31⟩ _=>cO (p:=(x30,x31)) [0,1,2,3,4,5,6,7,8,9,10,11,12] Q Q) fun⟨x28,x29⟩ _=>cA [97] Q Q (US hr2 hF2<|eD Q Q)<|QC [1,2,3,4,5,6,7,8,9,10,11,12,0] Q)<|MS [0,1,2,3,4,5,6,7,8,9,10,11,12] Q) fun x19 _=>gY 0 2 lT [] 2 [] Q (jY aH [11] Q<|c0 Q (fun h=>aDF (h.o 0 Q) (h.o 1 Q) (h.o 2 Q) (h.o 3 Q) (h.o 4 Q) (h.o 5 Q) (h.o 6 Q) (h.o 7 Q) (h.o 8 Q) (h.o 9 Q) (h.o 10 Q)) fun x21=>gX [99,100] Q Q (gX [104,105,106] Q Q (c0 Q (fun h=>KU (h.o 10 Q)) fun x22=>c0 Q (fun h=>KU (h.o 10 Q)) fun x23=>c0 Q (fun h=>KU (h.o 10 Q)) fun x24=>c0 Q (fun h=>KU (h.o 10 Q)) fun x25=>cO [] Q Q)<|cO [] Q Q)<|cO [] Q Q) fun x20=>eD Q Q
end
end Go.Proofs.YtgijbgopcmohhaaGreat
end
noncomputable section
namespace Go.Gv
theorem iH{σ ρ:Type}{f:σ->Option (Step σ ρ)}(n:Nat)(S:Nat->σ)(r:ρ)(hs:∀k,k<n->f (S k)=some (.next (S (k+1))))(he:f (S n)=some (.stop r)):loop f (S 0)=some r:=by
  have key:∀d k,k+d=n->loop f (S k)=some r:=by
    intro d;induction d with
    | zero => intro k hk; obtain rfl : k = n := by omega
              exact bM he
    | succ d ih=>intro k hk;rw[bU (hs k (by omega))];exact ih (k+1) (by omega)
  exact key n 0 (by omega)
theorem aXG{σ ρ:Type}{f:σ->Option (Step σ ρ)}(n:Nat)(S:Nat->σ)(g:Nat->ρ)
  (h:∀k,k<=n->f (S k)=some (.stop (g k))\/(k<n/\f (S k)=some (.next (S (k+1)))/\g k=g (k+1))):∀k,k<=n->loop f (S k)=some (g k):=by
 have key:∀d k,k+d=n->loop f (S k)=some (g k):=by
  intro d;induction d with
  | zero =>
   intro k hk;rcases h k (by omega) with h1 | ⟨h1,_⟩
   ·exact bM h1
   ·omega
  | succ d ih =>
   intro k hk;rcases h k (by omega) with h1 | ⟨_,h2,h3⟩
   ·exact bM h1
   ·rw[bU h2,h3];exact ih (k+1) (by omega)
 intro k hk;exact key (n - k) k (by omega)
theorem VX{σ ρ:Type}{f:σ->Option (Step σ ρ)}(n:Nat)(S:Nat->σ)(p:Nat->Prop)[DecidablePred p](yes no:ρ)
  (h1:∀k,k<n->p k->f (S k)=some (.next (S (k+1)))) (h2:∀k,k<n->¬p k->f (S k)=some (.stop no)) (h3:f (S n)=some (.stop yes)) :
  loop f (S 0)=some (if ∀k,k<n->p k then yes else no):=by
 classical
 have key:∀d k,k+d=n->loop f (S k)=some (if ∀j,k<=j->j<n->p j then yes else no):=by
  intro d;induction d with
  | zero =>
   intro k hk;obtain rfl:k=n:=by omega
   rw[bM h3,if_pos (fun j a b=>by omega)]
  | succ d ih =>
   intro k hk;by_cases hp:p k
   ·rw[bU (h1 k (by omega) hp),ih (k+1) (by omega)];by_cases h:∀j,k+1<=j->j<n->p j
    ·rw[if_pos h,if_pos];intro j a b;by_cases e:j=k
     ·subst e;exact hp
     ·exact h j (by omega) b
    ·rw[if_neg h,if_neg];exact fun q=>h fun j a b=>q j (by omega) b
   ·rw[bM (h2 k (by omega) hp),if_neg];exact fun q=>hp (q k (lB _) (by omega))
 have:=key n 0 (by omega);rw[this];by_cases h:∀k,k<n->p k
 ·rw[if_pos h,if_pos (fun j _ b=>h j b)]
 ·rw[if_neg h,if_neg (fun q=>h fun k a=>q k (jT _) a)]
theorem K3{α σ ρ:Type}{f:σ->Option (Step σ ρ)}(l:List α)(S:Nat->σ)(p:α->Prop)[DecidablePred p](yes no:ρ)
  (h1:∀k (h:k<l.length),p l[k]->f (S k)=some (.next (S (k+1)))) (h2:∀k (h:k<l.length),¬p l[k]->f (S k)=some (.stop no)) (h3:f (S l.length)=some (.stop yes)) :
  loop f (S 0)=some (if ∀x∈l,p x then yes else no):=by
 classical
 have:=VX (f:=f) l.length S (fun k=>∀h:k<l.length,p l[k]) yes no (fun k h hp=>h1 k h (hp h)) (fun k h hp=>h2 k h (fun q=>hp fun _=>q)) h3;rw[this];by_cases h:∀x∈l,p x
 ·rw[if_pos h,if_pos (fun k hk _=>h _ (dC hk))]
 ·rw[if_neg h,if_neg];intro q;refine h fun x hx=>?_;obtain⟨k,hk,rfl⟩:=aDW.1 hx;exact q k hk hk
theorem aP{x:Int}(h1:-9223372036854775808<=x)(h2:x<=9223372036854775807):bE x=x:=LF ⟨h1,h2⟩
theorem iC{α:Type}{l:List α}{i:Int}(h0:0<=i)(h1:i<l.length):idx l i=some (l[i.toNat]'(by omega)):=idx_eq h0 h1
theorem wrap_i64{x:Int}(h1:-9223372036854775808<=x)(h2:x<=9223372036854775807):IntKind.i64.wrap x=x:=LF ⟨h1,h2⟩
theorem aP9{x y:Int}(h1:0<=x):x.tdiv y=x / y:=Int.tdiv_eq_ediv_of_nonneg h1
theorem MD{x y:Int}(h1:0<=x):x.tmod y=x % y:=Int.tmod_eq_emod_of_nonneg h1
theorem aVL{x:Int}{k:Nat}(h1:0<=x)(hk:k<=63):o9 .i64 x k=x / 2 ^ k:=by
 unfold o9;have:min ((k:Int).toNat) IntKind.i64.bits=k:=by simp[IntKind.bits];omega
 rw[this,Int.fdiv_eq_ediv_of_nonneg _ (by exact Int.le_of_lt (Int.pow_pos (by omega)))]
end Go.Gv
end
noncomputable section
namespace Go.Gv
structure GOp where
 Kind:Int
 Cell:Int
 bF9:Int
 dO:Int
 deriving DecidableEq,Inhabited
structure Job where
 bX:Bool
 Op:GOp
 aI:Int
 Pc:Int
 Sub:Sub
 H:Int
 Old:Int
 dO:Int
 Code:Int
 deriving DecidableEq,Inhabited
end Go.Gv
end
noncomputable section
namespace Go.Gv
noncomputable section
variable {α:Type} {p:α->Bool}
theorem VY{f:Int->Option (Step Int (Out Unit Int))}{s:List α}(hl:s.length<=4611686018427387904)
  (hf:∀k:Nat,f (k:Int)=if h:k<s.length then(if p s[k] then some (.stop (Out.ret (k:Int))) else some (.next ((k+1:Nat):Int))) else some (.stop (Out.brk ()))) :
  ∀d k,k+d=s.length->(∃j,∃h:j<s.length,k<=j/\(∀i (h:i<s.length),k<=i->i<j->p s[i]=false)/\p s[j]=true/\loop f (k:Int)=some (Out.ret (j:Int)))\/((∀i (h:i<s.length),k<=i->p s[i]=false)/\loop f (k:Int)=some (Out.brk ()))
 | 0,k,hk=>.inr ⟨fun i h h2=>by omega,bM (by grind)⟩
 | d + 1, k, hk => by
  have hks:k<s.length:=by omega
  by_cases hp:p s[k]=true
  ·exact .inl ⟨k,hks,lB _,fun i h h1 h2=>by omega,hp,bM (by rw[hf k,dif_pos hks,if_pos hp])⟩
  ·have hp:p s[k]=false:=by simpa using hp
   have hn:f (k:Int)=some (.next ((k+1:Nat):Int)):=by rw[hf k,dif_pos hks,if_neg (by simp[hp])]
   rcases VY hl hf d (k+1) (by omega) with ⟨j,h,h1,h2,h3,h4⟩ | ⟨h1,h2⟩
   ·refine .inl ⟨j,h,by omega,fun i hi a b=>?_,h3,by rw[bU hn];exact h4⟩;by_cases e:i=k
    ·subst e;exact hp
    ·exact h2 i hi (by omega) b
   ·refine .inr ⟨fun i hi a=>?_,by rw[bU hn];exact h2⟩;by_cases e:i=k
    ·subst e;exact hp
    ·exact h1 i hi (by omega)
theorem aNW{f:List α×Int×Int->Option (Step (List α×Int×Int) (List α×Int))}{n:Nat}(hl:n<=4611686018427387904)
  (hf:∀(L:List α) (i j:Nat) (h:j<L.length),L.length=n->i<=j->f (L,(i:Int),(j:Int))=if p L[j] then some (.next (L,(i:Int),((j+1:Nat):Int))) else some (.next (L.set i L[j],((i+1:Nat):Int),((j+1:Nat):Int))))
  (he:∀(L:List α) (i j:Nat),j=L.length->f (L,(i:Int),(j:Int))=some (.stop (L,(i:Int)))) :
  ∀d (L:List α) (i j:Nat),j+d=L.length->L.length=n->i<=j->∃(M:List α) (k:Nat),loop f (L,(i:Int),(j:Int))=some (M,(k:Int))/\M.length=n/\k<=n/\M.take k=L.take i++(L.drop j).filter (fun x=>!p x)
 | 0,L,i,j,hj,hn,hi=>⟨L,i,bM (he L i j (by omega)),hn,by omega,by grind⟩
 | d + 1, L, i, j, hj, hn, hi => by
  have hjl:j<L.length:=by omega
  have hd:L.drop j=L[j] :: L.drop (j+1):=zK hjl;by_cases hp:p L[j]=true
  ·obtain⟨M,k,h1,h2,h3,h4⟩:=aNW hl hf he d L i (j+1) (by omega) hn (by omega);refine⟨M,k,by rw[bU (by rw[hf L i j hjl hn hi,if_pos hp])];exact h1,h2,h3,by grind⟩
  ·have hp:p L[j]=false:=by grind
   obtain⟨M,k,h1,h2,h3,h4⟩:=aNW hl hf he d (L.set i L[j]) (i+1) (j+1) (by simp;omega) (by grind) (by omega);refine⟨M,k,by rw[bU (by rw[hf L i j hjl hn hi,if_neg (by simp[hp])])];exact h1,h2,h3,?_⟩;rw[h4,hd,List.filter_cons_of_pos (by simp[hp])];have e1:(L.set i L[j]).take (i+1)=L.take i ++ [L[j]]:=by rw[K9 (by simp;omega),List.take_set_of_le (lB _)];simp
   grind[List.drop_set_of_lt]
end
theorem aXH{α:Type}{l xs:List α}{a:Nat}(h:a<=l.length):((cT l a xs).take a).drop 0=l.take a:=by grind[cT]
theorem a10{α:Type}{q:α->Bool}{s:List α}{j:Nat}(h:j<s.length)(h1:∀i (h:i<s.length),i<j->q s[i]=true)(h2:q s[j]=false):s.take j++(s.drop (j+1)).filter q=s.filter q:=by
 have e:s=s.take j++s[j] :: s.drop (j+1):=by simp
 have e3:(s.take j).filter q=s.take j:=by grind[List.filter_eq_self,Z4]
 grind
theorem aQA(x y:Int):cmp_Less_int x y=some (decide (x<y)):=by simp[cmp_Less_int,cmp_isNaN_int,tV]
theorem aNX{A B:List Int}{x:Int}{k:Int}(h:k=(A.length:Int)):idx (A++x :: B) k=some x:=by grind[aV]
theorem aQB{data:List Int}(hd:data.length<=4611686018427387904):∀(j:Nat) (A B C:List Int) (x:Int),A.length=j->(A++x :: (B++C)).length=data.length->(A++B).Pairwise (·<=·)->(∀b∈B,x<=b) ->
  ∃M:List Int,loop (dS data 0) (A++x :: (B++C),(j:Int))=some (M++C)/\M.Perm (A++x :: B)/\M.Pairwise (·<=·)
 | 0, A, B, C, x, hj, hn, hs, hx => by obtain rfl:A=[]:=rY hj;refine⟨x :: B,bM ?_,.refl _,List.pairwise_cons.2 ⟨hx,hs⟩⟩;simp only[dS,dR];rw[aM hn,if_neg (by simp),aM hn,if_neg (by simp)];rfl
 | j + 1, A, B, C, x, hj, hn, hs, hx => by
  obtain⟨A,y,rfl⟩:∃A' y,A=A' ++ [y]:=by
   rcases Z2 A with h | ⟨A',y,h⟩
   ·rw[h] at hj;cases hj
   ·exact⟨A',y,by rw[h,aGY]⟩
  have hjA:A.length=j:=by grind
  have e0:A ++ [y]++x :: (B++C)=A++y :: (x :: (B++C)):=by simp
  have ew:bE (((j+1:Nat):Int) - 1)=(j:Int):=by grind[aP]
  have i1:idx (A++y :: (x :: (B++C))) ((j+1:Nat):Int)=some x:=by grind[aNX]
  have i2:idx (A++y :: (x :: (B++C))) (j:Int)=some y:=aNX (by omega);rw[e0] at hn ⊢;have hyB:∀b∈B,y<=b:=fun b hb=>(List.pairwise_append.1 hs).2.2 y (by simp) b hb;by_cases hlt:x<y
  ·have st:dS data 0 (A++y :: (x :: (B++C)),((j+1:Nat):Int))=some (.next (A++x :: ((y :: B)++C),(j:Int))):=by simp_all[dS,aM,aQA,dR,jF,aNX]
   obtain⟨M,h1,h2,h3⟩:=aQB hd j A (y :: B) C x hjA (by grind) (by grind) (fun b hb=>by
    grind)
   refine⟨M,by grind[bU],h2.trans ?_,h3⟩;grind
  ·refine⟨A ++ [y]++x :: B,bM ?_,.refl _,?_⟩
   ·simp_all[dS,aM,aQA,dR,if_neg]
   grind
theorem aL0{data:List Int}(hd:data.length<=4611686018427387904):∀d (S R:List Int),R.length=d->S≠[]->(S++R).length=data.length->S.Pairwise (·<=·) ->
  ∃M:List Int,loop (cX data 0 (data.length:Int)) (S++R,(S.length:Int))=some M/\M.Perm (S++R)/\M.Pairwise (·<=·)
 | 0, S, R, hR, h0, hn, hs => by simp_all[bM,cX,aM]
 | d+1,S,[],hR,h0,hn,hs=>by cases hR
 | d + 1, S, x :: R, hR, h0, hn, hs => by
  obtain⟨M,h1,h2,h3⟩:=aQB hd S.length S [] R x rfl (by grind) (by grind) (fun b hb=>by cases hb);have hl:=h2.length_eq;simp at hl;have hn':=hn;simp at hn';have st:cX data 0 (data.length:Int) (S++x :: R,(S.length:Int))=some (.next (M++R,((S.length+1:Nat):Int))):=by simp only[cX];rw[aM hn,if_pos (by simp;omega)];grind[nW,nV,aM,aP]
  obtain⟨N,g1,g2,g3⟩:=aL0 hd d M R (by grind) (by grind) (by simp;omega) h3;refine⟨N,by grind[bU],g2.trans ?_,g3⟩;grind
theorem a11{x:List Int}(h:x.length<=12)(hb:∃n,zW (IntKind.u64.wrap (x.length:Int))=some n):∃y:List Int,A2 x=some y/\y.Perm x/\y.Pairwise (·<=·):=by
 have key:∃y:List Int,iG x 0 (x.length:Int)=some y/\y.Perm x/\y.Pairwise (·<=·):=by
  unfold iG;rw[aP (by omega) (by omega)];cases x with
  | nil =>
   simp[bM,cX,aM,jG,jE]
  | cons a r =>
   obtain⟨M,h1,h2,h3⟩:=aL0 (data:=a :: r) (by omega) r.length [a] r rfl (by simp) (by simp) (List.pairwise_singleton _ _);refine⟨M,?_,by grind,h3⟩;have h1':loop (cX (a :: r) 0 ((a :: r).length:Int)) (a :: r,(0:Int)+1)=some M:=h1;rw[h1',aK];simp only[jG,jE];have h4:=h2.length_eq;grind[aM]
 obtain⟨y,h1,h2,h3⟩:=key;obtain⟨n,hn⟩:=hb;refine⟨y,?_,h2,h3⟩;unfold A2 oR;rw[hn,aK,bM (r:=y) (by
  simp only[tW];rw[aP (by omega) (by omega),if_pos (by simp;omega),h1];rfl),aK]
 rfl
def bAI(n:Nat):Bool:=(zW (IntKind.u64.wrap (n:Int))).isSome
theorem a12:(List.range 13).all bAI=true:=by kernel_rfl
theorem aSW(n:Nat)(h:n<=12):∃m,zW (IntKind.u64.wrap (n:Int))=some m:=
 aG4.1 (UF.1 a12 n (List.mem_range.2 (by omega)))
theorem aQC{l:List Int}(h:l.Pairwise (·<=·)):(CZ l).Pairwise (· < ·)/\∀a,a∈CZ l↔a∈l:=by
 obtain⟨n,hn⟩:∃n,l.length=n:=⟨_,rfl⟩
 revert l
 induction n with
 | zero=>intro l h hn;obtain rfl:l=[]:=rY hn;exact⟨.nil,fun a=>Iff.rfl⟩
 | succ n ih=>
 intro l h hn;obtain⟨l,x,rfl⟩:∃L z,l=L ++ [z]:=by
  rcases Z2 l with h0 | ⟨L,z,h0⟩
  ·rw[h0] at hn;cases hn
  ·exact⟨L,z,by rw[h0,aGY]⟩
 rw[List.pairwise_append] at h;obtain⟨i1,i2⟩:=ih h.1 (by grind);rw[aCR];split
 ·grind
 ·rename_i hx;refine⟨List.pairwise_append.2 ⟨i1,List.pairwise_singleton _ _,fun a ha b hb=>?_⟩,fun a=>by grind⟩;simp at hb;subst hb;have hle:a<=b:=h.2.2 a ((i2 a).1 ha) b (by simp);by_cases e:a=b
  ·subst e;exfalso;obtain⟨L,z,hz⟩:∃L z,CZ l=L ++ [z]:=by
    rcases Z2 (CZ l) with h0 | ⟨L,z,h0⟩
    ·rw[h0] at ha;cases ha
    ·exact⟨L,z,by rw[h0,aGY]⟩
   rw[hz] at ha hx i1;have hz':z<=a:=h.2.2 z ((i2 z).1 (by grind)) a (by simp);rcases fB.1 ha with ha' | ha'
   ·have:=(List.pairwise_append.1 i1).2.2 a ha' z (by simp);omega
   grind
  ·omega
end Go.Gv
end
noncomputable section
namespace Go.Gv
theorem dL(n a b:Int):bP n a b=some (decide (a<=n/\n<=b)):=by grind[bP,qZ]
theorem fQ(n a b:Int):dE n a b=some (decide (a<=n/\n<=b)):=by grind[dE,J3]
end Go.Gv
end
noncomputable section
namespace Go.Gv
def jB(c:Int):Int:=if c=0 then 8 else if c=1 then 16 else if c=2 then 40 else 0
def bD(c:Int):Int:=if c=0 then 12 else if c=1 then 20 else if c=2 then 44 else 0
def cM(c:Int):Int:=if c=0 then 4 else if c=1 then 2 else if c=2 then 1 else 0
theorem nQ{c:Int}(h:0<=c/\c<=2):c=0\/c=1\/c=2:=by omega
theorem a13{c:Int}(h:¬(0<=c/\c<=2)):jB c=0:=by unfold jB;omega
theorem aIR{c:Int}(h:¬(0<=c/\c<=2)):bD c=0:=by unfold bD;omega
theorem aNY{c:Int}(h:¬(0<=c/\c<=2)):cM c=0:=by unfold cM;omega
theorem pQ(c:Int):0<=cM c/\cM c<=4:=by grind[cM]
theorem aSX(c:Int):0<=bD c/\bD c<=44:=by grind[bD]
theorem jR{c:Int}:0<cM c↔0<=c/\c<=2:=by grind[cM]
theorem VZ(c:Int):N3 c=some (jB c):=by grind[N3,jB]
theorem kL(c:Int):lE c=some (decide (0<=c/\c<=2)):=by simp[lE,dL]
theorem V1(c:Int):CP c=some (jB c):=by
 unfold CP;rw[kL];by_cases h:0<=c/\c<=2
 ·rcases nQ h with rfl | rfl | rfl<;>rfl
 grind[a13]
theorem aDG(c:Int):HJ c=some (bD c):=by
 unfold HJ;rw[fQ];by_cases h:0<=c/\c<=2
 ·rcases nQ h with rfl | rfl | rfl<;>rfl
 grind[aIR]
theorem Q3(c:Int):uJ c=some (bD c):=by
 unfold uJ;rw[kL];by_cases h:0<=c/\c<=2
 ·rcases nQ h with rfl | rfl | rfl<;>rfl
 grind[aIR]
theorem o5(c:Int):xX c=some (cM c):=by
 unfold xX;rw[fQ];by_cases h:0<=c/\c<=2
 ·rcases nQ h with rfl | rfl | rfl<;>rfl
 grind[aNY]
theorem BI(c:Int):pE c=some (cM c):=by
 unfold pE;rw[kL];by_cases h:0<=c/\c<=2
 ·rcases nQ h with rfl | rfl | rfl<;>rfl
 grind[aNY]
theorem V2(s:Int):IC s=some (if 0<=s/\s<=23 then s / 4 else -1):=by grind[IC,fQ,aP]
theorem TX(s:Int):EM s=some (if 0<=s/\s<=23 then s % 4 else -1):=by grind[EM,fQ]
def iY(s c:Int):Int:=if(0<=s/\s<=23)/\s % 4<cM c then s / 4*64+8+s % 4*bD c else -1
theorem SI{i c:Int}(h0:0<=i)(h1:i<cM c):0<=i*bD c/\i*bD c+bD c<=56:=by unfold cM at h1;unfold bD;grind
theorem AG(s c:Int):GH s c=some (iY s c):=by
 unfold GH O1 iY;rw[V2,TX,o5,aDG];by_cases h:0<=s/\s<=23
 ·have hp:=pQ c;have h1:¬s / 4<0:=by omega
  have h2:bE (cM c - 1)=cM c - 1:=aP (by omega) (by omega);by_cases h3:s % 4<cM c
  ·have hm:=SI (by omega) h3;have hs:=aSX c;have h4:0<=s % 4/\s % 4<=cM c - 1:=by omega
   have h5:¬cM c - 1<s % 4:=by omega
   have e1:bE (s / 4*64)=s / 4*64:=aP (by omega) (by omega);have e2:bE (s / 4*64+8)=s / 4*64+8:=aP (by omega) (by omega);have e3:bE (s % 4*bD c)=s % 4*bD c:=aP (by omega) (by omega);have e4:bE (s / 4*64+8+s % 4*bD c)=s / 4*64+8+s % 4*bD c:=aP (by omega) (by omega);simp[h,h1,h2,h3,h4,h5,fQ,e1,e2,e3,e4]
  grind[fQ]
 ·simp[h]
theorem xC(s:Int):nD s=some (decide (0<=s/\s<=23)):=by simp[nD,dL]
theorem AH(s c:Int):wB s c=some (iY s c):=by
 unfold wB zO iY;rw[xC,kL,BI,Q3];by_cases h:0<=s/\s<=23
 ·have hp:=pQ c;rw[MD h.1,aP9 h.1];grind[cM,aP,bD]
 ·simp[h]
end Go.Gv
end
noncomputable section
namespace Go.Gv
def ldF(l:List Int):Int:=l.foldl (fun n x=>n*256+x) 0
def sC(l:List Int):Prop:=∀x∈l,0<=x/\x<=255
instance (l:List Int):Decidable (sC l):=by unfold sC;infer_instance
theorem aIS{l:List Int}{k:Nat}(h:k<l.length):ldF (l.take (k+1))=ldF (l.take k)*256+l[k]:=by grind[ldF,K9]
theorem aL1{l:List Int}(h:sC l):∀k,k<=l.length->0<=ldF (l.take k)/\ldF (l.take k)<256 ^ k:=by
 intro k;induction k with
 | zero=>grind[ldF]
 | succ k ih =>
  intro hk;have h1:=ih (by omega);have h2:=h _ (dC (show k<l.length by omega));grind[aIS]
theorem bAJ{k:Nat}(h:k<=6):(256:Int) ^ k<=281474976710656:=by have h1:(256:Nat) ^ k<=256 ^ 6:=Nat.pow_le_pow_right (by omega) h;grind
def ld(b:List Int)(at_ w:Nat):Int:=ldF ((b.drop at_).take w)
theorem aVM{n x:Int}{k:Nat}(hk:k<=6)(h:0<=n/\n<256 ^ k)(hx:0<=x/\x<=255):bE (bE (n*256)+x)=n*256+x/\bE (bE (256*n)+x)=n*256+x:=by have:=bAJ hk;grind[aP]
theorem aSY{b:List Int}{a w:Nat}(h:a+w<=b.length):((b.drop a).take w).length=w:=by simp;omega
theorem aSZ{b:List Int}{a w k:Nat}(h:k<((b.drop a).take w).length)(h':a+k<b.length):((b.drop a).take w)[k]=b[a+k]:=by simp
theorem aNZ{b:List Int}(hb:sC b)(a w:Nat):sC ((b.drop a).take w):=fun x hx=>hb x (Z6 (aYU hx))
theorem aIT{b:List Int}(hb:sC b){a w:Nat}(hw:w<=7)(h:a+w<=b.length)(hl:b.length<=100000):U9 b (a:Int) (w:Int)=some (ld b a w):=by
 unfold U9;have hlen:=aSY h;have hbb:=aNZ hb a w;have key:loop (wQ b (a:Int) (w:Int)) (0,0)=some (ld b a w):=by
  refine iH (f:=wQ b (a:Int) (w:Int)) w (fun k=>(ldF (((b.drop a).take w).take k),(k:Int))) _ (fun k hk=>?_) ?_
  ·have hb1:=aL1 hbb k (by omega);have hk':k<((b.drop a).take w).length:=by omega
   have hx:=hbb _ (dC hk');have hs:=aVM (by omega) hb1 hx;rw[aSZ hk' (by omega)] at hs;have e1:bE ((a:Int)+k)=((a+k:Nat):Int):=by grind[aP]
   simp only[wQ];rw[if_pos (by simp;omega),e1,aV (by omega)];simp only[aK,hs.1,aIS hk',aSZ hk' (show a+k<b.length by omega)];grind[aP]
  grind[wQ,ld]
 rw[key];rfl
theorem uD{b:List Int}(hb:sC b){a w:Nat}(hw:w<=7)(h:a+w<=b.length)(hl:b.length<=100000):pD b (a:Int) (w:Int)=some (ld b a w):=by
 unfold pD;have hlen:=aSY h;have hbb:=aNZ hb a w;have e0:bE ((a:Int)+w)=((a+w:Nat):Int):=by grind[aP]
 have e2:(b.take (a+w)).drop a=(b.drop a).take w:=by grind
 rw[aM (by omega)];have key:loop (tQ b (a:Int) (w:Int)) (0,0)=some (ld b a w):=by
  refine iH (f:=tQ b (a:Int) (w:Int)) w (fun k=>(ldF (((b.drop a).take w).take k),(k:Int))) _ (fun k hk=>?_) ?_
  ·have hb1:=aL1 hbb k (by omega);have hk':k<((b.drop a).take w).length:=by omega
   have hx:=hbb _ (dC hk');have hs:=aVM (by omega) hb1 hx;simp only[tQ,e0,K7,e2];rw[if_pos (by simp;omega),aV hk'];simp only[aK,hs.2,aIS hk'];rw[aP (x:=(k:Int)+1) (by omega) (by omega)];rfl
  ·have:((b.drop a).take w).take w=(b.drop a).take w:=by grind
   simp only[tQ,e0,K7,e2,this,ld];grind
 rw[key];rfl
theorem E0{l:List Int}(hl:l.length<=maxLen)(f:Int->Bool):eT l (fun x=>some (f x))=some (l.any f):=by
 unfold eT v8;have key:∀k:Nat,k<=l.length->loop (jK l (fun x=>some (f x))) (k:Int)=some (if(l.drop k).any f then Out.ret ((k+(l.drop k).findIdx f:Nat):Int) else Out.brk ()):=by
  refine aMX l.length _ fun k hk=>?_;by_cases h3:k<l.length
  ·have hd:l.drop k=l[k] :: l.drop (k+1):=zK h3;simp only[jK];rw[if_pos (by simp;omega),aV h3,sE (UN h3 hl),hd];grind
  grind[jK]
 have t0:loop (jK l (fun x=>some (f x))) 0=_:=key 0 (by omega);rw[t0];simp only[UH];by_cases h:l.any f=true
 ·simp[h,qY]
 grind[qY,CN]
def BOk(b:List Int):Prop:=b.length<=1000/\sC b
instance (b:List Int):Decidable (BOk b):=by unfold BOk;infer_instance
theorem W6{α:Type}{p:α->Prop}[DecidablePred p](l:List α):(l.any fun x=>!decide (p x))=!decide (∀x∈l,p x):=by grind
theorem aFR{b:List Int}(hl:b.length<=maxLen):J8 b=some (decide (BOk b)):=by
 unfold J8 AP;have e:(fun y0=>DQ y0)=fun y:Int=>some (!decide (0<=y/\y<=255)):=by grind[DQ,UX,dL]
 rw[e,E0 hl,W6];by_cases h:b.length<=1000
 ·have:BOk b↔∀x∈b,0<=x/\x<=255:=⟨fun q=>q.2,fun q=>⟨h,q⟩⟩;grind
 grind[BOk]
def iD(h:Heap):Prop:=h.Bytes.length=384/\h.Class.length=6/\sC h.Bytes/\∀c∈h.Class,-1<=c/\c<=2
instance (h:Heap):Decidable (iD h):=by unfold iD;infer_instance
theorem ME{h:Heap}(hl:h.Bytes.length<=maxLen):HW h=some (decide (iD h)):=by
 unfold HW rA;by_cases h1:h.Bytes.length=384
 ·have n1:((h.Bytes.length:Int) == 384)=true:=by simp;omega
  rw[aFR hl];by_cases h3:sC h.Bytes
  ·have b1:BOk h.Bytes:=⟨by omega,h3⟩;by_cases h2:h.Class.length=6
   ·have n2:((h.Class.length:Int) == 6)=true:=by simp;omega
    have e:(fun y0=>G0 y0)=fun y:Int=>some (!decide (-1<=y/\y<=2)):=by grind[G0,dL]
    rw[e,E0 (by omega),W6];grind[iD]
   grind[iD]
  grind[BOk,iD]
 grind[iD]
end Go.Gv
end
noncomputable section
namespace Go.Gv
def lC(h:Heap)(p:Nat):List Int:=(h.Bytes.drop (p*64)).take 64
def cV(h:Heap)(p:Nat):Int:=h.Class.getD p 0
def E1(h:Heap)(p:Nat):Prop:=
 if cV h p<0 then ∀x∈lC h p,x=0
 else((lC h p).getD 0 0=171/\(lC h p).getD 1 0=cV h p/\(lC h p).getD 2 0=cM (cV h p))/\(∀x∈((lC h p).drop 3).take 5,x=0)/\∀i,i<(cM (cV h p)).toNat->1<=ld h.Bytes (p*64+8+i*(bD (cV h p)).toNat) 4/\ld h.Bytes (p*64+8+i*(bD (cV h p)).toNat) 4<=7
instance (h:Heap) (p:Nat):Decidable (E1 h p):=by unfold E1;infer_instance
noncomputable section
variable {h:Heap} (hs:iD h) {p:Nat} (hp:p<6)
include hs hp
theorem V3:(lC h p).length=64:=aSY (by have:=hs.1;omega)
theorem a15{k:Nat}(hk:k<64):h.Bytes[p*64+k]'(by have:=hs.1;omega)=(lC h p)[k]'(by grind[V3]):=(aSZ (show k<((h.Bytes.drop (p*64)).take 64).length by have:=V3 hs hp;grind[lC]) _).symm
theorem aXI{k:Nat}(hk:k<64):h.Bytes[p*64+k]'(by have:=hs.1;omega)=(lC h p).getD k 0:=by grind[a15]
theorem W7:h.Class[p]'(by have:=hs.2.1;omega)=cV h p:=by grind[cV]
theorem aN0:idx h.Class (p:Int)=some (cV h p):=by rw[aV (by have:=hs.2.1;omega),W7 hs hp]
theorem aXJ:sC (lC h p):=aNZ hs.2.2.1 _ _
theorem yE{c:Int}(hc:cV h p=c){i:Nat}(hi:i<(cM c).toNat):(8+i*(bD c).toNat)+4<=64/\0<=(i:Int)*bD c/\((8+i*(bD c).toNat:Nat):Int)=8+(i:Int)*bD c:=by grind[cM,bD]
end
end Go.Gv
end
noncomputable section
namespace Go.Gv
theorem V4{l:List Int}(hl:l.length<=maxLen):HX l=some (decide (∀x∈l,x=0)):=by
 unfold HX;have e:(fun y0=>G3 y0)=fun y:Int=>some (!decide (y=0)):=by grind[G3]
 simp_all[E0,W6]
noncomputable section
variable {h:Heap} (hs:iD h) {p:Nat} (hp:p<6)
include hs hp
theorem a8N:(h.Bytes.take ((p+1)*64)).drop (p*64)=lC h p:=by grind[lC,List.drop_take]
theorem a6F{a:Nat}(ha:a+4<=64):ld (lC h p) a 4=ld h.Bytes (p*64+a) 4:=by grind[ld,lC,List.drop_take,List.drop_drop]
theorem aS0{k:Nat}(hk:k<64):idx (lC h p) (k:Int)=some ((lC h p).getD k 0):=by grind[V3,aV]
theorem V5:NU h (p:Int)=some (decide (E1 h p)):=by
 have hb:=hs.1;have hl:=V3 hs hp;have hm:(lC h p).length<=maxLen:=by grind[maxLen]
 have e0:bE ((p:Int)*64)=((p*64:Nat):Int):=by grind[aP]
 have e1:bE (bE ((p:Int)+1)*64)=(((p+1)*64:Nat):Int):=by grind[aP]
 have i0:=aS0 hs hp (show 0<64 by omega);have i1:=aS0 hs hp (show 1<64 by omega);have i2:=aS0 hs hp (show 2<64 by omega);rw[show((0:Nat):Int)=0 from rfl] at i0;rw[show((1:Nat):Int)=1 from rfl] at i1;rw[show((2:Nat):Int)=2 from rfl] at i2;unfold NU;rw[aN0 hs hp];simp only[aK,e0,e1,K7,a8N hs hp];rw[aM (by omega)];by_cases hc:cV h p<0
 ·simp_all[E1,V4]
 ·have hP:E1 h p↔((lC h p).getD 0 0=171/\(lC h p).getD 1 0=cV h p/\(lC h p).getD 2 0=cM (cV h p))/\(∀x∈((lC h p).drop 3).take 5,x=0)/\∀i,i<(cM (cV h p)).toNat->1<=ld h.Bytes (p*64+8+i*(bD (cV h p)).toNat) 4/\ld h.Bytes (p*64+8+i*(bD (cV h p)).toNat) 4<=7:=by simp_all[E1,if_neg]
  simp only[hc,decide_false,bT,if_false,i0,i1,i2,aK,BI];by_cases a0:(lC h p).getD 0 0=171
  ·by_cases a1:(lC h p).getD 1 0=cV h p
   ·by_cases a2:(lC h p).getD 2 0=cM (cV h p)
    ·have n0:((lC h p).getD 0 0 != 171)=false:=by grind
     have n1:((lC h p).getD 1 0 != cV h p)=false:=by grind
     have n2:((lC h p).getD 2 0 != cM (cV h p))=false:=by grind
     have t8:((lC h p).take (8:Int).toNat).drop (3:Int).toNat=((lC h p).drop 3).take 5:=by grind[List.drop_take]
     simp only[n0,n1,n2,bT,if_false,jZ,t8];rw[aM (by omega),V4 (by grind)];by_cases h4:∀x∈((lC h p).drop 3).take 5,x=0
     ·simp only[cZ h4,aK,kV,bT,if_false,BI];have key2:loop (rB h (p:Int) (cV h p) (cM (cV h p))) 0=some (if ∀i,i<(cM (cV h p)).toNat->1<=ld h.Bytes (p*64+8+i*(bD (cV h p)).toNat) 4/\ld h.Bytes (p*64+8+i*(bD (cV h p)).toNat) 4<=7 then Out.brk () else Out.ret false):=by
       have hle:=pQ (cV h p);have hst:∀k:Nat,k<(cM (cV h p)).toNat->rB h (p:Int) (cV h p) (cM (cV h p)) (k:Int)=if 1<=ld h.Bytes (p*64+8+k*(bD (cV h p)).toNat) 4/\ld h.Bytes (p*64+8+k*(bD (cV h p)).toNat) 4<=7 then some (.next ((k+1:Nat):Int)) else some (.stop (Out.ret false)):=by
        intro k hk;have hz:=yE hs hp rfl hk;have e5:bE (8+bE ((k:Int)*bD (cV h p)))=((8+k*(bD (cV h p)).toNat:Nat):Int):=by grind[aP]
        have l1:=uD (aXJ hs hp) (a:=8+k*(bD (cV h p)).toNat) (w:=4) (by omega) (by omega) (by omega);rw[show((4:Nat):Int)=4 from rfl,a6F hs hp (by omega)] at l1;simp only[rB,Q3,aK,e0,e1,K7,a8N hs hp,e5];rw[if_pos (by simp;omega),l1,X9,aP (x:=(k:Int)+1) (by omega) (by omega)];simp only[aK,dL];grind
       refine VX (f:=rB h (p:Int) (cV h p) (cM (cV h p))) (cM (cV h p)).toNat (fun k=>(k:Int)) (fun i=>1<=ld h.Bytes (p*64+8+i*(bD (cV h p)).toNat) 4/\ld h.Bytes (p*64+8+i*(bD (cV h p)).toNat) 4<=7) _ _ (fun k hk hx=>?_) (fun k hk hx=>?_) ?_
       ·grind
       ·simp_all
       ·simp only[rB];rw[if_neg (by simp;omega)]
      rw[key2];by_cases h5:∀i,i<(cM (cV h p)).toNat->1<=ld h.Bytes (p*64+8+i*(bD (cV h p)).toNat) 4/\ld h.Bytes (p*64+8+i*(bD (cV h p)).toNat) 4<=7
      ·rw[if_pos h5,cZ (hP.2 ⟨⟨a0,a1,a2⟩,h4,h5⟩)];rfl
      ·rw[if_neg h5,gZ (fun q=>h5 (hP.1 q).2.2)];rfl
     grind
    ·have n0:((lC h p).getD 0 0 != 171)=false:=by grind
     have n1:((lC h p).getD 1 0 != cV h p)=false:=by grind
     have n2:((lC h p).getD 2 0 != cM (cV h p))=true:=by grind
     simp_all[jZ]
   simp_all[jZ]
  simp_all[jZ]
end
instance (h:Heap):Decidable (∀p,p<6->E1 h p):=Nat.decidableBallLT 6 fun p _=>E1 h p
def YP(h:Heap):Prop:=iD h/\∀p,p<6->E1 h p
instance (h:Heap):Decidable (YP h):=by unfold YP;infer_instance
theorem MF{h:Heap}(hl:h.Bytes.length<=maxLen):HY h=some (decide (YP h)):=by
 unfold HY;rw[ME hl];by_cases hs:iD h
 ·have key:loop (wA h) 0=some (if ∀p,p<6->E1 h p then Out.brk () else Out.ret false):=by
   refine VX (f:=wA h) 6 (fun k=>(k:Int)) (fun p=>E1 h p) _ _ (fun k hk hx=>?_) (fun k hk hx=>?_) ?_
   ·simp only[wA];rw[if_pos (by simp;omega),V5 hs hk,aP (by omega) (by omega),cZ hx];rfl
   ·simp only[wA];rw[if_pos (by simp;omega),V5 hs hk,gZ hx];rfl
   ·rfl
  simp only[aK,cZ hs,kV,bT,if_false];rw[key];by_cases h4:∀p,p<6->E1 h p
  ·rw[if_pos h4,cZ (show YP h from⟨hs,h4⟩)];rfl
  ·rw[if_neg h4,gZ (fun q:YP h=>h4 q.2)];rfl
 grind[YP]
def bN(h:Heap)(s:Int):Int:=if(0<=s/\s<=23)/\s % 4<cM (cV h (s / 4).toNat) then cV h (s / 4).toNat else -1
theorem tK{h:Heap}{s:Int}(hc:0<=bN h s):(0<=s/\s<=23)/\s % 4<cM (cV h (s / 4).toNat)/\bN h s=cV h (s / 4).toNat:=by unfold bN at hc ⊢;omega
theorem BJ{h:Heap}(hs:iD h)(s:Int):EN h s=some (bN h s):=by
 unfold EN BC bN;rw[V2,TX];by_cases h1:0<=s/\s<=23
 ·obtain⟨k,rfl⟩:=a4N h1.1;have hk:k / 4<6:=by omega
  have e1:((k:Int) / 4)=((k / 4:Nat):Int):=by omega
  have hi:=aN0 hs hk;have n1:¬((k / 4:Nat):Int)<0:=by omega
  simp only[h1,and_self,if_true,aK,e1,n1,decide_false,bT,if_false,hi,K7,true_and];grind[aNY,o5]
 ·simp[h1]
theorem kM{h:Heap}(hs:iD h)(s:Int):lG h s=some (bN h s):=by
 unfold lG AR bN;rw[xC];by_cases h1:0<=s/\s<=23
 ·obtain⟨k,rfl⟩:=a4N h1.1;have hk:k / 4<6:=by omega
  have e1:((k:Int) / 4)=((k / 4:Nat):Int):=by omega
  have hi:=aN0 hs hk;have e2:bE (Int.tdiv (k:Int) 4)=((k / 4:Nat):Int):=by grind[aP]
  simp only[h1,and_self,decide_true,kV,bT,if_true,aK,e1,e2,if_false,hi,K7,true_and,AH];by_cases h3:(k:Int) % 4<cM (cV h (k / 4))
  ·have hm:=SI (c:=cV h (k / 4)) (by omega) h3;have hg:¬iY (k:Int) (cV h (k / 4))<0:=by unfold iY;omega
   grind
  simp_all[iY,if_neg]
 ·simp[h1]
def kU(h:Heap)(s:Int):Int:=ld h.Bytes (iY s (bN h s)).toNat 4
theorem W8{h:Heap}{s:Int}(hc:0<=bN h s):0<=iY s (bN h s)/\iY s (bN h s)+4<=384:=by
 obtain⟨h1,h2,h3⟩:=tK hc;rw[h3];have hm:=SI (c:=cV h (s / 4).toNat) (by omega) h2;have hst:0<bD (cV h (s / 4).toNat):=by have:0<=cV h (s / 4).toNat/\cV h (s / 4).toNat<=2:=jR.1 (by omega);rcases nQ this with e | e | e<;>rw[e]<;>decide
 have:4<=bD (cV h (s / 4).toNat):=by have:0<=cV h (s / 4).toNat/\cV h (s / 4).toNat<=2:=jR.1 (by omega);rcases nQ this with e | e | e<;>rw[e]<;>decide
 unfold iY;omega
theorem uR{h:Heap}(hs:iD h){s:Int}(hc:0<=bN h s):GI h s=some (kU h s):=by have hg:=W8 hc;unfold GI;rw[BJ hs];simp only[aK,AG];have l1:=aIT hs.2.2.1 (a:=(iY s (bN h s)).toNat) (w:=4) (by omega) (by have:=hs.1;omega) (by have:=hs.1;omega);rw[show((4:Nat):Int)=4 from rfl,Int.toNat_of_nonneg hg.1] at l1;rw[l1];rfl
theorem HM{h:Heap}(hs:iD h){s:Int}(hc:0<=bN h s):BU h s=some (kU h s):=by
 have hg:=W8 hc;have hm:h.Bytes.length<=maxLen:=by rw[hs.1];simp[maxLen]
 unfold BU DS;rw[ME hm,kM hs];have l1:=uD hs.2.2.1 (a:=(iY s (bN h s)).toNat) (w:=4) (by omega) (by have:=hs.1;omega) (by have:=hs.1;omega);grind[AH,kU]
end Go.Gv
end
noncomputable section
namespace Go.Gv
def eY(l:List aW):List Int:=l.flatMap aW.aT
def iE(l:aD):List Int:=eY l.Global++eY l.Own
def LOk(l:aD):Prop:=l.Global.length=3/\l.Own.length=9/\(∀s∈l.Own,s.aT.length<=2)/\(∀x∈iE l,0<=x/\x<=23)/\(iE l).Nodup
instance (l:aD):Decidable (LOk l):=by unfold LOk;infer_instance
theorem Q4{l:List aW}{k:Nat}(h:k<l.length):eY (l.take (k+1))=eY (l.take k)++l[k].aT:=by grind[eY,K9]
theorem aN1(l:List aW)(k:Nat):(eY (l.take k)).length<=(eY l).length:=by grind[eY,aDY]
theorem aIU(l:List aW){k:Nat}(h:k<l.length):l[k].aT.length<=(eY l).length:=by have h1:=aN1 l (k+1);grind[Q4]
theorem aK8{l:aD}(h:(iE l).length<=1073741824)(hg:l.Global.length<=maxLen)(ho:l.Own.length<=maxLen):ZD l=some (iE l):=by
 have hsum:(eY l.Global).length+(eY l.Own).length<=1073741824:=by grind[iE]
 unfold ZD;have k1:loop (z7 l) ([],0)=some (eY l.Global):=by
  refine iH (f:=z7 l) l.Global.length (fun k=>(eY (l.Global.take k),(k:Int))) _ (fun k hk=>?_) ?_
  ·have h1:=aN1 l.Global (k+1);rw[Q4 hk] at h1;simp only[z7];rw[if_pos (by simp;omega),aV hk];grind[aM,Q4,sE]
  grind[z7]
 rw[k1];simp only[aK,YG,YF];have k2:loop (z6 l) (eY l.Global,0)=some (iE l):=by
  have:=iH (f:=z6 l) l.Own.length (fun k=>(eY l.Global++eY (l.Own.take k),(k:Int))) (iE l) (fun k hk=>?_) ?_
  ·grind[eY]
  ·have h1:=aN1 l.Own (k+1);rw[Q4 hk] at h1;simp only[z6];rw[if_pos (by simp;omega),aV hk];grind[aM,Q4,sE]
  grind[z6,iE]
 rw[k2];rfl
theorem aK9{l:List Int}(hl:l.length<=maxLen)(x:Int):ZC l x=some (decide (x∈l)):=by
 unfold ZC;have key:loop (uO l x) 0=some (if ∀y∈l,y≠x then Out.brk () else Out.ret true):=by
  refine K3 (f:=uO l x) l (fun k=>(k:Int)) (fun y=>y≠x) _ _ (fun k h hp=>?_) (fun k h hp=>?_) ?_
  ·simp only[uO];rw[if_pos (by simp;omega),aV h,sE (UN h hl)];have:(l[k] == x)=false:=by simpa using hp
   simp only[aK,this,bT,if_false]
  ·simp only[uO];rw[if_pos (by simp;omega),aV h];have:(l[k] == x)=true:=by simpa using hp
   simp only[aK,this,if_true]
  ·simp[uO]
 rw[key];by_cases h:x∈l
 ·rw[if_neg (fun q=>q x h rfl),cZ h];rfl
 ·rw[if_pos (fun y hy (e:y=x)=>h (e ▸ hy)),gZ h];rfl
theorem aS1(l:List Int):l.Nodup↔∀k (h:k<l.length),l[k]∉l.take k:=by grind[List.pairwise_iff_getElem,List.mem_take_iff_getElem]
def AI:List Bool->List Int->Option (List Bool)
 | met,[]=>some met
 | met,x :: r=>if(0<=x/\x<=23)/\met.getD x.toNat true=false then AI (met.set x.toNat true) r else none
theorem aL2:∀{xs:List Int} {met m:List Bool},AI met xs=some m->m.length=met.length
 | [],met,m,h=>by grind[AI]
 | x :: r, met, m, h => by
  simp only[AI] at h;split at h
  ·have:=aL2 h;grind
  ·cases h
theorem aBP:∀(a b:List Int) (met:List Bool),AI met (a++b)=(AI met a).bind fun m=>AI m b
 | [],b,met=>rfl
 | x :: r, b, met => by
  simp only[UG,AI];split
  ·exact aBP r b _
  ·rfl
theorem ZR:∀(xs:List Int) (met:List Bool),met.length=24->((AI met xs).isSome=true↔(∀x∈xs,0<=x/\x<=23)/\xs.Nodup/\∀x∈xs,met.getD x.toNat true=false)
 | [],met,hm=>by simp[AI]
 | x :: r, met, hm => by
  simp only[AI];by_cases h:(0<=x/\x<=23)/\met.getD x.toNat true=false
  ·rw[if_pos h,ZR r _ (by grind)];grind
  grind
def aN2:Option (List Bool)->Out (List Bool) Bool
 | some m=>.brk m
 | none=>.ret false
theorem bCQ{s:aW}(hl:s.aT.length<=maxLen):∀d k (met:List Bool),k+d=s.aT.length->met.length=24->loop (mG s) ((k:Int),met)=some (aN2 (AI met (s.aT.drop k))):=by
 intro d;induction d with
 | zero =>
  intro k met hk hm;rw[bM (r:=Out.brk met) (by grind[mG]),aGZ (by omega)];rfl
 | succ d ih =>
  intro k met hk hm;have hk':k<s.aT.length:=by omega
  have hd:s.aT.drop k=s.aT[k] :: s.aT.drop (k+1):=zK hk';have hst:mG s ((k:Int),met)=if(0<=s.aT[k]/\s.aT[k]<=23)/\met.getD s.aT[k].toNat true=false then some (.next (((k+1:Nat):Int),met.set s.aT[k].toNat true)) else some (.stop (Out.ret false)):=by
   simp only[mG];rw[if_pos (by simp;omega),aV hk'];simp only[aK,xC];generalize s.aT[k]=x;by_cases q:0<=x/\x<=23
   ·obtain⟨j,rfl⟩:=a4N q.1;have hj:j<met.length:=by omega
    have e:met.getD j true=met[j]:=by grind
    simp only[q,and_self,decide_true,kV,bT,if_false,oX,K7,true_and,e];rw[aM (by omega),aV hj];simp only[aK];cases met[j]
    ·simp only[bT,if_false,if_true];grind[aM,sE]
    ·simp
   ·rw[gZ q];simp only[PQ,if_true,oX];grind
  rw[hd,AI];by_cases q:(0<=s.aT[k]/\s.aT[k]<=23)/\met.getD s.aT[k].toNat true=false
  ·rw[if_pos q] at hst ⊢;grind[bU]
  ·rw[if_neg q] at hst ⊢;rw[bM hst];rfl
def aD7(l:List aW):Prop:=∀s∈l,s.aT.length<=2
instance (l:List aW):Decidable (aD7 l):=by unfold aD7;infer_instance
theorem bCR{l:aD}(ho:l.Own.length=9)(hn:(l.Own++l.Global).length<=1000)(hs:∀s∈l.Own++l.Global,s.aT.length<=maxLen):∀d k (met:List Bool),k+d=(l.Own++l.Global).length->met.length=24 ->
  loop (mI l) ((k:Int),met)=some (if aD7 (((l.Own++l.Global).drop k).take (9 - k))/\(AI met (eY ((l.Own++l.Global).drop k))).isSome=true then Out.brk () else Out.ret false):=by
 intro d;induction d with
 | zero =>
  intro k met hk hm;rw[aGZ (by omega),if_pos ⟨by simp[aD7],rfl⟩];simp_all[bM,mI]
 | succ d ih =>
  intro k met hk hm;have hk':k<(l.Own++l.Global).length:=by omega
  have hd:(l.Own++l.Global).drop k=(l.Own++l.Global)[k] :: (l.Own++l.Global).drop (k+1):=zK hk';have hsk:=hs _ (dC hk');have hf:eY ((l.Own++l.Global).drop k)=(l.Own++l.Global)[k].aT++eY ((l.Own++l.Global).drop (k+1)):=by grind[eY]
  have hin:∀b:Bool,mH (k:Int) met (l.Own++l.Global)[k] b=if b then some (.stop (Out.ret false)) else(match AI met (l.Own++l.Global)[k].aT with | some m=>some (.next (((k+1:Nat):Int),m)) | none=>some (.stop (Out.ret false))):=by
   intro b;have h4:=bCQ hsk _ 0 met (YA _) hm;rw[show((0:Nat):Int)=0 from rfl,UH] at h4;unfold mH;rw[h4];cases b
   ·simp only[bT,if_false,aK];cases AI met (l.Own++l.Global)[k].aT with
    | none=>rfl
    | some m=>simp only[aN2,S9,AQ];rw[aP (by omega) (by omega)];rfl
   ·rfl
  have hst:mI l ((k:Int),met)=mH (k:Int) met (l.Own++l.Global)[k] (decide (k<9/\2<(l.Own++l.Global)[k].aT.length)):=by
   simp only[mI];rw[if_pos (by grind),aV hk'];simp only[aK];by_cases h9:k<9
   ·rw[if_pos (by simp;omega)];congr 1
    (simp_all;omega)
   grind
  rw[hin] at hst;by_cases h2:k<9/\2<(l.Own++l.Global)[k].aT.length
  ·rw[cZ h2] at hst;simp only[if_true] at hst;rw[bM hst,if_neg];rintro⟨q,_⟩;have e:9 - k=(9 - (k+1))+1:=by omega
   rw[hd,e,List.take_succ_cons] at q;have:=q _ aLH;omega
  ·rw[gZ h2] at hst;simp only[bT,if_false] at hst;have hcond:aD7 (((l.Own++l.Global).drop k).take (9 - k))↔aD7 (((l.Own++l.Global).drop (k+1)).take (9 - (k+1))):=by
    unfold aD7;by_cases h9:k<9
    ·have e:9 - k=(9 - (k+1))+1:=by omega
     simp_all
    ·have e:9 - k=0:=by omega
     have e':9 - (k+1)=0:=by omega
     simp_all
   rw[hf,aBP];cases hg:AI met (l.Own++l.Global)[k].aT with
   | none =>
    simp_all[bM]
   | some m =>
    rw[hg] at hst;rw[bU hst,ih (k+1) m (by omega) (by grind[aL2])];simp_all
theorem TY{l:aD}(h:(iE l).length<=1073741824):lF l=some (decide (LOk l)):=by
 unfold lF tR;by_cases hg:l.Global.length=3
 ·by_cases ho:l.Own.length=9
  ·have n1:((l.Global.length:Int) != 3)=false:=by simp;omega
   have n2:((l.Own.length:Int) != 9)=false:=by simp;omega
   simp only[n1,n2,bT,if_false];rw[aM (by omega)];have hsl:∀s∈l.Own++l.Global,s.aT.length<=maxLen:=by grind[iE,maxLen,aDW,aIU]
   have key:=bCR ho (by simp;omega) hsl (l.Own++l.Global).length 0 [false,false,false,false,false,false,false,false,false,false,false,false,false,false,false,false,false,false,false,false,false,false,false,false] (by omega) rfl;rw[show((0:Nat):Int)=0 from rfl,UH,Nat.sub_zero] at key;rw[key];have et:(l.Own++l.Global).take 9=l.Own:=by grind
   have ef:eY (l.Own++l.Global)=eY l.Own++eY l.Global:=by simp[eY]
   have hm0:∀j:Nat,j<24->[false,false,false,false,false,false,false,false,false,false,false,false,false,false,false,false,false,false,false,false,false,false,false,false].getD j true=false:=by decide
   have hiff:LOk l↔aD7 ((l.Own++l.Global).take 9)/\(AI [false,false,false,false,false,false,false,false,false,false,false,false,false,false,false,false,false,false,false,false,false,false,false,false] (eY (l.Own++l.Global))).isSome=true:=by
    rw[ZR _ _ rfl,et,ef];have hp:(eY l.Own++eY l.Global).Perm (iE l):=List.perm_append_comm;constructor
    ·rintro⟨_,_,q1,q2,q3⟩;exact⟨q1,fun x hx=>q2 x (hp.mem_iff.1 hx),hp.nodup_iff.2 q3,fun x hx=>hm0 _ (by grind)⟩
    ·rintro⟨q1,q2,q3,_⟩;exact⟨hg,ho,q1,fun x hx=>q2 x (hp.mem_iff.2 hx),hp.nodup_iff.1 q3⟩
   by_cases q:LOk l
   ·rw[if_pos (hiff.1 q),cZ q];rfl
   ·rw[if_neg (fun x=>q (hiff.2 x)),gZ q];rfl
  ·have n1:((l.Global.length:Int) != 3)=false:=by simp;omega
   have n2:((l.Own.length:Int) != 9)=true:=by simp;omega
   simp_all[LOk]
 ·have n1:((l.Global.length:Int) != 3)=true:=by simp;omega
  simp_all[LOk]
end Go.Gv
end
noncomputable section
namespace Go.Gv
def Q5(h:Heap)(l:List Int)(c:Int):Prop:=∀x∈l,bN h x=c/\kU h x<=6
instance (h:Heap) (l:List Int) (c:Int):Decidable (Q5 h l c):=by unfold Q5;infer_instance
theorem Q6{h:Heap}(hs:iD h){s:aW}(hl:s.aT.length<=maxLen){c:Int}(hc:0<=c):zP h s c=some (decide (Q5 h s.aT c)):=by
 unfold zP;have key:loop (nL h s c) 0=some (if ∀x∈s.aT,bN h x=c/\kU h x<=6 then Out.brk () else Out.ret false):=by
  have hst:∀k (hk:k<s.aT.length),nL h s c (k:Int)=if bN h s.aT[k]=c/\kU h s.aT[k]<=6 then some (.next ((k+1:Nat):Int)) else some (.stop (Out.ret false)):=by
   intro k hk;simp only[nL];rw[if_pos (by simp;omega),aV hk];generalize s.aT[k]=x;simp only[aK,kM hs,xL];by_cases q:bN h x=c
   ·have n1:(bN h x != c)=false:=by simp only[bne_eq_false_iff_eq];exact q
    simp only[n1,bT,if_false,HM hs (show 0<=bN h x by omega),aK,sE (UN hk hl)];by_cases q2:kU h x<=6
    ·rw[if_neg (by simp;omega),if_pos ⟨q,q2⟩]
    ·rw[if_pos (by simp;omega),if_neg (fun x=>q2 x.2)]
   ·have n1:(bN h x != c)=true:=by simp only[bne_iff_ne];exact q
    simp only[n1,if_true];rw[if_neg (fun x=>q x.1)]
  refine K3 (f:=nL h s c) s.aT (fun k=>(k:Int)) (fun x=>bN h x=c/\kU h x<=6) _ _ (fun k hk hp=>?_) (fun k hk hp=>?_) ?_
  ·rw[hst k hk,if_pos hp]
  ·rw[hst k hk,if_neg hp]
  ·simp[nL]
 rw[key];by_cases q:∀x∈s.aT,bN h x=c/\kU h x<=6
 ·rw[if_pos q,cZ (show Q5 h s.aT c from q)];rfl
 ·rw[if_neg q,gZ (show ¬Q5 h s.aT c from q)];rfl
def fJ(l:List aW)(k:Nat):List Int:=(l.getD k ⟨[]⟩).aT
theorem dZ{l:List aW}{k:Nat}(h:k<l.length):l[k].aT=fJ l k:=by grind[fJ]
def aBQ(m:Mem)(k:Nat):Prop:=Q5 m.Heap (fJ m.aD.Global k) (k:Int)
def X4(m:Mem)(k:Nat):Prop:=Q5 m.Heap (fJ m.aD.Own k) ((k % 3:Nat):Int)
instance (m:Mem) (k:Nat):Decidable (aBQ m k):=by unfold aBQ;infer_instance
instance (m:Mem) (k:Nat):Decidable (X4 m k):=by unfold X4;infer_instance
instance (m:Mem):Decidable (∀k,k<3->aBQ m k):=Nat.decidableBallLT 3 fun k _=>aBQ m k
instance (m:Mem):Decidable (∀k,k<9->X4 m k):=Nat.decidableBallLT 9 fun k _=>X4 m k
instance (m:Mem) (c:Nat):Decidable (∀w,w<3->X4 m (w*3+c)):=Nat.decidableBallLT 3 fun w _=>X4 m (w*3+c)
instance (m:Mem):Decidable (∀k,k<3->aBQ m k/\∀w,w<3->X4 m (w*3+k)):=Nat.decidableBallLT 3 fun k _=>aBQ m k/\∀w,w<3->X4 m (w*3+k)
def mO(m:Mem):Prop:=(YP m.Heap/\LOk m.aD)/\(∀k,k<3->aBQ m k)/\∀k,k<9->X4 m k
instance (m:Mem):Decidable (mO m):=by unfold mO;infer_instance
theorem LOk.aQD{l:aD}(h:LOk l)(hb:(iE l).length<=1073741824):(∀s∈l.Global,s.aT.length<=1073741824)/\∀s∈l.Own,s.aT.length<=1073741824:=by grind[iE,aDW,aIU]
theorem HN{m:Mem}(hb:m.Heap.Bytes.length<=maxLen)(hl:(iE m.aD).length<=1073741824):BV m=some (decide (mO m)):=by
 unfold BV G4;rw[MF hb,TY hl];by_cases h1:YP m.Heap
 ·by_cases h2:LOk m.aD
  ·have hmx:(1073741824:Nat)<=maxLen:=by simp[maxLen]
   have hsl:=LOk.aQD h2 hl;simp only[cZ h1,cZ h2,aK,kV,bT,if_false];have k3:loop (uK m) 0=some (if ∀k,k<9->X4 m k then Out.brk () else Out.ret false):=by
    have hst:∀w:Nat,w<9->uK m (w:Int)=if X4 m w then some (.next ((w+1:Nat):Int)) else some (.stop (Out.ret false)):=by
     intro w hw;have hk:w<m.aD.Own.length:=by rw[h2.2.1];omega
     have hlen:=hsl.2 _ (dC hk);have em:Int.tmod (w:Int) 3=((w % 3:Nat):Int):=by grind
     simp only[uK];rw[if_pos (by simp;omega)];simp only[aK,aV hk,em];rw[Q6 h1.1 (by omega) (by omega),dZ hk,aP (by omega) (by omega)];by_cases q:X4 m w
     ·rw[if_pos q,cZ (show Q5 m.Heap (fJ m.aD.Own w) ((w % 3:Nat):Int) from q)];rfl
     ·rw[if_neg q,gZ (show ¬Q5 m.Heap (fJ m.aD.Own w) ((w % 3:Nat):Int) from q)];rfl
    refine VX (f:=uK m) 9 (fun k=>(k:Int)) (fun w=>X4 m w) _ _ (fun k hk hx=>?_) (fun k hk hx=>?_) ?_
    ·grind
    ·grind
    ·simp[uK,h2.2.1]
   have k2:loop (uL m) 0=some (if ∀k,k<3->aBQ m k then Out.brk () else Out.ret false):=by
    have hst:∀w:Nat,w<3->uL m (w:Int)=if aBQ m w then some (.next ((w+1:Nat):Int)) else some (.stop (Out.ret false)):=by
     intro w hw;have hk:w<m.aD.Global.length:=by rw[h2.1];omega
     have hlen:=hsl.1 _ (dC hk);simp only[uL];rw[if_pos (by simp;omega)];simp only[aK,aV hk];rw[Q6 h1.1 (by omega) (by omega),dZ hk,aP (by omega) (by omega)];by_cases q:aBQ m w
     ·rw[if_pos q,cZ (show Q5 m.Heap (fJ m.aD.Global w) (w:Int) from q)];rfl
     ·rw[if_neg q,gZ (show ¬Q5 m.Heap (fJ m.aD.Global w) (w:Int) from q)];rfl
    refine VX (f:=uL m) 3 (fun k=>(k:Int)) (fun w=>aBQ m w) _ _ (fun k hk hx=>?_) (fun k hk hx=>?_) ?_
    ·grind
    ·grind
    ·simp[uL,h2.1]
   rw[k2];by_cases q:∀k,k<3->aBQ m k
   ·rw[if_pos q];simp only[aK,YE,YD];rw[k3];by_cases q2:∀k,k<9->X4 m k
    ·rw[if_pos q2,cZ (show mO m from⟨⟨h1,h2⟩,q,q2⟩)];rfl
    ·rw[if_neg q2,gZ (fun x:mO m=>q2 x.2.2)];rfl
   ·rw[if_neg q,gZ (fun x:mO m=>q x.2.1)];rfl
  grind[mO]
 grind[mO]
end Go.Gv
end
noncomputable section
namespace Go.Gv
theorem IJ{l:List aW}{s:aW}(h:s∈l):s.aT.length<=(eY l).length:=by grind[aDW,aIU]
theorem uE(l:aD):(iE l).length=(eY l.Global).length+(eY l.Own).length:=by simp[iE]
def zF(m:Mem):Prop:=m.Heap.Bytes.length<=1048576/\m.Heap.Class.length<=1048576/\m.aD.Global.length<=1048576/\m.aD.Own.length<=1048576/\(iE m.aD).length<=1048576
theorem zF.aQD{m:Mem}(h:zF m):(∀s∈m.aD.Global,s.aT.length<=1048576)/\∀s∈m.aD.Own,s.aT.length<=1048576:=by have:=uE m.aD;have h5:=h.2.2.2.2;exact⟨fun s hm=>by have:=IJ hm;omega,fun s hm=>by have:=IJ hm;omega⟩
end Go.Gv
end
noncomputable section
namespace Go.Gv
def POk(e:Int)(p:vR):Prop:=(0<=p.aG/\p.aG<=e)/\(0<=p.Seen/\p.Seen<=2)/\(p.On=false->p=⟨false,0,false,0⟩)
instance (e:Int) (p:vR):Decidable (POk e p):=by unfold POk;infer_instance
def JG(c:aA):Prop:=(0<=c.aG/\c.aG<=100000)/\c.cH.length=3/\∀p∈c.cH,POk c.aG p
instance (c:aA):Decidable (JG c):=by unfold JG;infer_instance
theorem kN(c:aA):xW c=some (decide (JG c)):=by
 unfold xW;rw[fQ];by_cases h1:0<=c.aG/\c.aG<=100000
 ·by_cases h2:c.cH.length=3
  ·simp only[aK,h1,h2,tZ];have key:∀k:Nat,k<=3->loop (tY c) (k:Int)=some (if ∀p∈c.cH.drop k,POk c.aG p then Out.brk () else Out.ret false):=by
    refine aMX 3 _ fun k hk=>?_;by_cases h3:k<3
    ·have hd:c.cH.drop k=c.cH[k] :: c.cH.drop (k+1):=zK (by omega);simp only[tY];rw[if_pos (by simp;omega),aV (by omega)];simp only[aK,fQ,oZ,hd];rw[sE (by simp[maxLen];omega)];generalize c.cH[k]=p;have hp:POk c.aG p↔decide (0<=p.aG/\p.aG<=c.aG)=true/\decide (0<=p.Seen/\p.Seen<=2)=true/\(p.On=false->decide (p=⟨false,0,false,0⟩)=true):=by simp only[POk,decide_eq_true_eq]
     simp only[List.forall_mem_cons,hp];generalize decide (0<=p.aG/\p.aG<=c.aG)=b1;generalize decide (0<=p.Seen/\p.Seen<=2)=b2;generalize decide (p=⟨false,0,false,0⟩)=b3;generalize p.On=b4;cases b1<;>cases b2<;>cases b3<;>cases b4<;>simp[h3]
    ·left;obtain rfl:k=3:=by omega
     simp[tY,aGZ (show c.cH.length<=3 by omega)]
   have:=key 0 (by omega);simp only[Int.ofNat_zero,UH] at this;have e:decide (JG c)=if ∀p∈c.cH,POk c.aG p then true else false:=by have:JG c↔∀p∈c.cH,POk c.aG p:=⟨fun h=>h.2.2,fun h=>⟨h1,h2,h⟩⟩;simp[this]
   rw[e];simp only[Int.cast_ofNat_Int] at *;have t0:loop (tY c) 0=_:=this;by_cases h5:∀p∈c.cH,POk c.aG p
   ·rw[if_pos h5] at t0 ⊢;rw[t0];simp[I9,TJ]
   ·rw[if_neg h5] at t0 ⊢;rw[t0];simp[I9]
  grind[tZ,JG]
 grind[tZ,JG]
theorem aQF(p:vR)(c:aA):wD p c=some (!decide (POk c.aG p)):=by
 unfold wD l9;rw[dL,dL];have hp:decide (POk c.aG p)=(decide (0<=p.aG/\p.aG<=c.aG) && (decide (0<=p.Seen/\p.Seen<=2) && (p.On || decide (p=⟨false,0,false,0⟩)))):=by rw[IS];simp only[POk,decide_eq_true_eq,BN,Bool.or_eq_true];grind
 grind
theorem aN3{l:List vR}(hl:l.length<=maxLen)(f:vR->Bool):l6 l (fun x=>some (f x))=some (l.any f):=by
 unfold l6 wC;have key:∀k:Nat,k<=l.length->loop (jL l (fun x=>some (f x))) (k:Int)=some (if(l.drop k).any f then Out.ret ((k+(l.drop k).findIdx f:Nat):Int) else Out.brk ()):=by
  refine aMX l.length _ fun k hk=>?_;by_cases h3:k<l.length
  ·have hd:l.drop k=l[k] :: l.drop (k+1):=zK h3;simp only[jL];rw[if_pos (by simp;omega),aV h3,sE (UN h3 hl),hd];grind
  grind[jL]
 have t0:loop (jL l (fun x=>some (f x))) 0=_:=key 0 (by omega);rw[t0];simp only[UH];by_cases h:l.any f=true
 ·simp[h,rC]
 grind[rC,CQ]
theorem uF{c:aA}(hc:c.cH.length<=maxLen):pG c=some (decide (JG c)):=by
 unfold pG tS;rw[dL];have e:(fun y0=>wD y0 c)=fun y0=>some (!decide (POk c.aG y0)):=funext fun y=>aQF y c;rw[e,aN3 hc];by_cases h1:0<=c.aG/\c.aG<=100000
 ·by_cases h2:c.cH.length=3
  ·have:JG c↔∀p∈c.cH,POk c.aG p:=⟨fun h=>h.2.2,fun h=>⟨h1,h2,h⟩⟩;grind
  grind[JG]
 grind[JG]
end Go.Gv
end
noncomputable section
namespace Go.Gv
def dQ(l:List bI):List eE:=l.flatMap bI.Rows
theorem MG{l:List bI}{k:Nat}(h:k<l.length):dQ (l.take (k+1))=dQ (l.take k)++l[k].Rows:=by grind[dQ,K9]
theorem aIV(l:List bI)(k:Nat):(dQ (l.take k)).length<=(dQ l).length:=by grind[dQ,aDY]
theorem aXK(l:List bI){k:Nat}(h:k<l.length):l[k].Rows.length<=(dQ l).length:=by have h1:=aIV l (k+1);grind[MG]
theorem W9{l:List bI}{s:bI}(h:s∈l):s.Rows.length<=(dQ l).length:=by grind[aDW,aXK]
theorem aIW{l:List bI}(h:(dQ l).length<=1073741824)(hl:l.length<=maxLen):VA l=some (dQ l):=by
 unfold VA;have k1:loop (wR l) ([],0)=some (dQ l):=by
  refine iH (f:=wR l) l.length (fun k=>(dQ (l.take k),(k:Int))) _ (fun k hk=>?_) ?_
  ·have h1:=aIV l (k+1);rw[MG hk] at h1;simp only[wR];rw[if_pos (by simp;omega),aV hk];grind[aM,MG,sE]
  grind[wR]
 rw[k1];rfl
def lW(h:Int):Prop:=(32<=h/\h<=223)/\h % 32<24
instance (h:Int):Decidable (lW h):=by unfold lW;infer_instance
theorem rU(h:Int):uP h=some (decide (lW h)):=by grind[uP,GJ,lW,fQ,MD]
theorem g9(h:Int):gN h=some (decide (lW h)):=by grind[gN,nM,lW,dL,MD]
theorem lW.mod{h:Int}(q:lW h):Int.tmod h 32=h % 32/\0<=h % 32/\h % 32<=23:=by grind[lW]
theorem jI(h:Int):mM h=some (if lW h then h % 32 else -1):=by grind[mM,rU,lW]
def OA(r:eE):Prop:=lW r.Handle/\0<=r.aG/\r.aG<=100000
instance (r:eE):Decidable (OA r):=by unfold OA;infer_instance
def FT(r:eE):Int:=r.Handle % 32
def yP(l:List bI):Prop:=l.length=3/\(dQ l).length<=24/\(∀r∈dQ l,OA r)/\((dQ l).map FT).Nodup
instance (l:List bI):Decidable (yP l):=by unfold yP;infer_instance
def goR:List Bool->List eE->Option (List Bool)
 | met,[]=>some met
 | met,r :: t=>if OA r/\met.getD (FT r).toNat true=false then goR (met.set (FT r).toNat true) t else none
theorem aVO:∀{xs:List eE} {met m:List Bool},goR met xs=some m->m.length=met.length
 | [],met,m,h=>by grind[goR]
 | x :: r, met, m, h => by
  simp only[goR] at h;split at h
  ·have:=aVO h;grind
  ·cases h
theorem aIX:∀(a b:List eE) (met:List Bool),goR met (a++b)=(goR met a).bind fun m=>goR m b
 | [],b,met=>rfl
 | x :: r, b, met => by
  simp only[UG,goR];split
  ·exact aIX r b _
  ·rfl
theorem aQG:∀(xs:List eE) (met:List Bool),(goR met xs).isSome=true↔(∀r∈xs,OA r)/\(AI met (xs.map FT)).isSome=true
 | [],met=>by simp[goR,AI]
 | x :: r, met => by
  simp only[goR,K8,AI];by_cases h:OA x
  ·have hm:=h.1.mod;have hs:0<=FT x/\FT x<=23:=hm.2;by_cases h2:met.getD (FT x).toNat true=false
   ·rw[if_pos ⟨h,h2⟩,if_pos ⟨hs,h2⟩,aQG r _];simp[h]
   grind
  grind
theorem aXL{s:bI}(hl:s.Rows.length<=maxLen):∀d k (met:List Bool),k+d=s.Rows.length->met.length=24->loop (mJ s) ((k:Int),met)=some (aN2 (goR met (s.Rows.drop k))):=by
 intro d;induction d with
 | zero =>
  intro k met hk hm;rw[bM (r:=Out.brk met) (by grind[mJ]),aGZ (by omega)];rfl
 | succ d ih =>
  intro k met hk hm;have hk':k<s.Rows.length:=by omega
  have hd:s.Rows.drop k=s.Rows[k] :: s.Rows.drop (k+1):=zK hk';have hst:mJ s ((k:Int),met)=if OA s.Rows[k]/\met.getD (FT s.Rows[k]).toNat true=false then some (.next (((k+1:Nat):Int),met.set (FT s.Rows[k]).toNat true)) else some (.stop (Out.ret false)):=by
   simp only[mJ];rw[if_pos (by simp;omega),aV hk'];simp only[aK,g9,dL];generalize s.Rows[k]=x;by_cases q:lW x.Handle
   ·by_cases q2:0<=x.aG/\x.aG<=100000
    ·have hm2:=q.mod;obtain⟨j,hj0⟩:=a4N hm2.2.1;have hj:j<met.length:=by omega
     have e:met.getD j true=met[j]:=by grind
     have hr:OA x:=⟨q,q2⟩;simp only[q,q2,and_self,decide_true,kV,bT,if_false,kH,hm2.1,hj0,K7,hr,true_and,FT,e];rw[aM (by omega),aV hj];simp only[aK];cases met[j]
     ·simp only[bT,if_false,if_true];grind[aM,sE]
     ·simp
    ·rw[cZ q,gZ q2];simp only[kV,PQ,bT,if_false,if_true,kH];rw[if_neg (fun y:OA x/\_=>q2 y.1.2)]
   simp_all[kH,OA]
  rw[hd,goR];by_cases q:OA s.Rows[k]/\met.getD (FT s.Rows[k]).toNat true=false
  ·rw[if_pos q] at hst ⊢;grind[bU]
  ·rw[if_neg q] at hst ⊢;rw[bM hst];rfl
theorem aXM{l:List bI}(hn:l.length<=1000)(hs:∀s∈l,s.Rows.length<=maxLen):∀d k (met:List Bool),k+d=l.length->met.length=24 ->
  loop (mK l) ((k:Int),met)=some (if(goR met (dQ (l.drop k))).isSome=true then Out.brk () else Out.ret false):=by
 intro d;induction d with
 | zero =>
  simp_all[goR,dQ,bM,mK]
 | succ d ih =>
  intro k met hk hm;have hk':k<l.length:=by omega
  have hd:l.drop k=l[k] :: l.drop (k+1):=zK hk';have hsk:=hs _ (dC hk');have hf:dQ (l.drop k)=l[k].Rows++dQ (l.drop (k+1)):=by grind[dQ]
  have h4:=aXL hsk _ 0 met (YA _) hm;rw[show((0:Nat):Int)=0 from rfl,UH] at h4;have hst:mK l ((k:Int),met)=(match goR met l[k].Rows with | some m=>some (.next (((k+1:Nat):Int),m)) | none=>some (.stop (Out.ret false))):=by
   simp only[mK];rw[if_pos (by simp;omega),aV hk'];simp only[aK];rw[h4];cases goR met l[k].Rows with
   | none=>rfl
   | some m=>simp only[aK,aN2,TA,AT];grind[aP]
  rw[hf,aIX];cases hg:goR met l[k].Rows with
  | none =>
   simp_all[bM]
  | some m =>
   rw[hg] at hst;rw[bU hst,ih (k+1) m (by omega) (by grind[aVO])];simp
theorem aBR{l:List bI}(hn:l.length<=1000)(h:(dQ l).length<=1073741824):wE l=some ((dQ l).length:Int):=by
 unfold wE;have key:loop (j3 l) (0,0)=some ((dQ l).length:Int):=by
  refine iH (f:=j3 l) l.length (fun k=>(((dQ (l.take k)).length:Int),(k:Int))) _ (fun k hk=>?_) ?_
  ·have h1:=aIV l (k+1);rw[MG hk,C1] at h1;simp only[j3];rw[if_pos (by simp;omega),aV hk];grind[aP,MG]
  grind[j3]
 rw[key];rfl
theorem BK{l:List bI}(h:(dQ l).length<=1073741824):m9 l=some (decide (yP l)):=by
 unfold m9;by_cases h3:l.length=3
 ·have n1:((l.length:Int) != 3)=false:=by simp;omega
  have hb:(1073741824:Nat)<=maxLen:=by simp[maxLen]
  simp only[n1,bT,if_false];have key:=aXM (l:=l) (by omega) (fun s hs=>by have:=W9 hs;omega) l.length 0 [false,false,false,false,false,false,false,false,false,false,false,false,false,false,false,false,false,false,false,false,false,false,false,false] (by omega) rfl;rw[show((0:Nat):Int)=0 from rfl,UH] at key;rw[key];have hm0:∀j:Nat,j<24->[false,false,false,false,false,false,false,false,false,false,false,false,false,false,false,false,false,false,false,false,false,false,false,false].getD j true=false:=by decide
  have hiff:yP l↔(dQ l).length<=24/\(goR [false,false,false,false,false,false,false,false,false,false,false,false,false,false,false,false,false,false,false,false,false,false,false,false] (dQ l)).isSome=true:=by
   rw[aQG,ZR _ _ rfl];have hr:(∀r∈dQ l,OA r)->∀x∈(dQ l).map FT,0<=x/\x<=23:=by intro q x hx;obtain⟨r,hr,rfl⟩:=UI.1 hx;exact(q r hr).1.mod.2
   constructor
   ·rintro⟨_,q1,q2,q3⟩;grind
   ·rintro⟨q1,q2,_,q3,_⟩;exact⟨h3,q1,q2,q3⟩
  by_cases q:(goR [false,false,false,false,false,false,false,false,false,false,false,false,false,false,false,false,false,false,false,false,false,false,false,false] (dQ l)).isSome=true
  ·rw[if_pos q];simp only[aK,TB,AS];rw[aBR (by omega) h];grind
  ·rw[if_neg q,gZ (fun x=>q (hiff.1 x).2)];rfl
 ·have n1:((l.length:Int) != 3)=true:=by simp;omega
  simp_all[yP]
def oS(h:Int):Prop:=h=0\/lW h
instance (h:Int):Decidable (oS h):=by unfold oS;infer_instance
def aDH(z:List Int):Prop:=z.length=3/\∀h∈z,oS h
instance (z:List Int):Decidable (aDH z):=by unfold aDH;infer_instance
theorem aLA{z:List Int}(hl:z.length<=maxLen):RV z=some (decide (aDH z)):=by
 unfold RV G5;have e:(fun y0=>J9 y0)=fun y:Int=>some (!decide (oS y)):=by
  funext y;unfold J9 nE wF;rw[g9];by_cases q:y=0
  ·simp_all[oS]
  grind[oS]
 rw[e,E0 hl,W6];by_cases h3:z.length=3
 ·have n:((z.length:Int) == 3)=true:=by simp;omega
  have:aDH z↔∀h∈z,oS h:=⟨fun a=>a.2,fun a=>⟨h3,a⟩⟩;grind
 ·have n:((z.length:Int) == 3)=false:=by simp;omega
  simp_all[aDH]
end Go.Gv
end
noncomputable section
namespace Go.Gv
theorem aBS{α:Type}(l:List α)(f:α->Bool){body:Int->Option (Step Int (Out Unit Int))}(hb:∀k (hk:k<l.length),body (k:Int)=if f l[k] then some (.stop (.ret (k:Int))) else some (.next ((k+1:Nat):Int)))(he:body (l.length:Int)=some (.stop (.brk ()))) :
  ∃o,loop body 0=some o/\match o with | .brk _=>l.any f=false | .ret r=>0<=r/\l.any f=true:=by
 have key:=aXG (f:=body) l.length (fun k=>(k:Int)) (fun k=>if(l.drop k).any f then Out.ret ((k+(l.drop k).findIdx f:Nat):Int) else Out.brk ()) (fun k hk=>by
  by_cases h:k<l.length
  ·have hd:l.drop k=l[k] :: l.drop (k+1):=zK h;grind
  grind) 0 (jT _)
 grind
theorem YQ{l:List eE}(hl:l.length<=maxLen)(f:eE->Bool):i6 l (fun x=>some (f x))=some (l.any f):=by
 obtain⟨o,e,h⟩:=aBS l f (body:=lH l (fun x=>some (f x))) (fun k hk=>by
  simp only[lH];rw[if_pos (by simp;omega),aV hk,sE (UN hk hl)];rfl) (by simp[lH])
 grind[i6,uV,zR,zQ]
theorem V6{l:List bI}(hl:l.length<=maxLen)(f:bI->Bool)(g:bI->Option Bool)(hg:∀x∈l,g x=some (f x)):iV l g=some (l.any f):=by
 obtain⟨o,e,h⟩:=aBS l f (body:=kQ l g) (fun k hk=>by
  simp only[kQ];rw[if_pos (by simp;omega),aV hk,sE (UN hk hl)];grind) (by simp[kQ])
 grind[iV,sJ,yK,yJ]
theorem V7{l:List aW}(hl:l.length<=maxLen)(f:aW->Bool)(g:aW->Option Bool)(hg:∀x∈l,g x=some (f x)):iW l g=some (l.any f):=by
 obtain⟨o,e,h⟩:=aBS l f (body:=kR l g) (fun k hk=>by
  simp only[kR];rw[if_pos (by simp;omega),aV hk,sE (UN hk hl)];grind) (by simp[kR])
 grind[iW,sK,yN,yL]
theorem contains_eq{l:List Int}(hl:l.length<=maxLen)(v:Int):kE l v=some (decide (v∈l)):=by
 obtain⟨o,e,h⟩:=aBS l (fun x=>v == x) (body:=eW l v) (fun k hk=>by
  simp only[eW];rw[if_pos (by simp;omega),aV hk,sE (UN hk hl)];rfl) (by simp[eW])
 have ha:l.any (fun x=>v == x)=decide (v∈l):=by grind
 grind[kE,nN,yU,JS]
theorem XA{l:List aW}{x:Int}:x∈eY l↔∃s∈l,x∈s.aT:=aDV
noncomputable section
variable {m:Mem} (hsh:iD m.Heap) (hl:(iE m.aD).length<=1073741824) (hg:m.aD.Global.length<=maxLen) (ho:m.aD.Own.length<=maxLen)
include hl hg ho
theorem aIY(s:Int):VB m.aD s=some (decide (s∈iE m.aD)):=by grind[maxLen,VB,aK8,aK9]
theorem V8(s:Int):HZ m.aD s=some (decide (s∈iE m.aD)):=by
 have hb:(1073741824:Nat)<=maxLen:=by simp[maxLen]
 have hal:=uE m.aD;have e1:∀x∈m.aD.Global,pX x s=some (decide (s∈x.aT)):=fun x hx=>by have:=IJ hx;grind[pX,contains_eq]
 have e2:∀x∈m.aD.Own,pX x s=some (decide (s∈x.aT)):=fun x hx=>by have:=IJ hx;grind[pX,contains_eq]
 unfold HZ DU;rw[V7 hg (fun x=>decide (s∈x.aT)) _ e1,V7 ho (fun x=>decide (s∈x.aT)) _ e2];have a1:(m.aD.Global.any fun x=>decide (s∈x.aT))=decide (s∈eY m.aD.Global):=by rw[IS];simp[XA]
 have a2:(m.aD.Own.any fun x=>decide (s∈x.aT))=decide (s∈eY m.aD.Own):=by rw[IS];simp[XA]
 grind[iE]
def eM(m:Mem)(s:Int):Int:=if bN m.Heap s<0 then 0 else if s∈iE m.aD then 1 else if 6<kU m.Heap s then 2 else 3
include hsh
theorem aFS(s:Int):R1 m s=some (eM m s):=by grind[R1,eM,BJ,aIY,uR]
theorem aFT(s:Int):KA m s=some (eM m s):=by grind[KA,eM,kM,V8,HM]
def m5(m:Mem)(h:Int):Prop:=lW h/\eM m (h % 32)=3/\kU m.Heap (h % 32)=h / 32
instance (m:Mem) (h:Int):Decidable (m5 m h):=by unfold m5;infer_instance
omit hl hg ho hsh in
theorem eB{m:Mem}{s:Int}(h:eM m s=3):0<=bN m.Heap s:=by grind[eM]
theorem TZ(h:Int):R3 m h=some (decide (m5 m h)):=by
 unfold R3 BD;rw[rU,jI];by_cases q:lW h
 ·have hm:=q.mod;rw[cZ q,if_pos q];simp only[aK,if_true,aFS hsh hl hg ho];by_cases q2:eM m (h % 32)=3
  ·have n:(eM m (h % 32) == 3)=true:=by grind
   have eg:LW h=some (h / 32):=by grind[LW,lW,rU,aP]
   rw[n,uR hsh (eB q2),eg];simp only[if_true,aK];congr 1;rw[IS];simp only[beq_iff_eq,decide_eq_true_eq];exact⟨fun a=>⟨q,q2,a⟩,fun a=>a.2.2⟩
  grind[m5]
 grind[m5]
theorem E2(h:Int):wH m h=some (decide (m5 m h)):=by
 unfold wH wG;rw[g9];by_cases q:lW h
 ·have hm:=q.mod;rw[cZ q,hm.1];simp only[aK,if_true,aFT hsh hl hg ho];by_cases q2:eM m (h % 32)=3
  ·have n:(eM m (h % 32) == 3)=true:=by grind
   have eg:bE (Int.tdiv h 32)=h / 32:=by grind[lW,aP]
   rw[n,HM hsh (eB q2),eg];simp only[if_true,aK];congr 1;rw[IS];simp only[beq_iff_eq,decide_eq_true_eq];exact⟨fun a=>⟨q,q2,a⟩,fun a=>a.2.2⟩
  grind[m5]
 grind[m5]
end
def OB(b:aC)(r:eE):Prop:=m5 b.Mem r.Handle/\r.aG<=b.aA.aG
instance (b:aC) (r:eE):Decidable (OB b r):=by unfold OB;infer_instance
def nC(b:aC):Prop:=(mO b.Mem/\JG b.aA/\yP b.aN/\aDH b.qH)/\∀r∈dQ b.aN,OB b r
instance (b:aC):Decidable (nC b):=by unfold nC;infer_instance
def MH(b:aC):Prop:=zF b.Mem/\b.aA.cH.length<=1048576/\b.aN.length<=1048576/\(dQ b.aN).length<=1048576/\b.qH.length<=1048576
theorem MH.rows{b:aC}(h:MH b):∀s∈b.aN,s.Rows.length<=1048576:=fun s hs=>by have:=W9 hs;have:=h.2.2.2.1;omega
noncomputable section
variable {b:aC} (hf:b.Mem.Heap.Bytes.length<=maxLen/\(iE b.Mem.aD).length<=1073741824/\b.aA.cH.length<=maxLen/\b.aN.length<=maxLen/\(dQ b.aN).length<=1073741824/\b.qH.length<=maxLen)
include hf
theorem V9:NV b=some (decide (nC b)):=by
 obtain⟨f1,f2,f3,f4,f5,f6⟩:=hf;unfold NV rD;rw[HN f1 f2,uF f3,BK f5,aLA f6];by_cases q1:mO b.Mem
 ·by_cases q2:JG b.aA
  ·by_cases q3:yP b.aN
   ·by_cases q4:aDH b.qH
    ·have hg:b.Mem.aD.Global.length<=maxLen:=by rw[q1.1.2.1];simp[maxLen]
     have ho:b.Mem.aD.Own.length<=maxLen:=by rw[q1.1.2.2.1];simp[maxLen]
     have hmx:(1073741824:Nat)<=maxLen:=by simp[maxLen]
     simp only[cZ q1,cZ q2,cZ q3,cZ q4,aK,kV,bT,if_false];have e1:(fun y0=>AU y0 b)=fun r:eE=>some (!decide (OB b r)):=by funext r;unfold AU sL;rw[E2 q1.1.1.1 f2 hg ho];grind[OB]
     have e2:∀l∈b.aN,(fun y0=>G6 y0 b) l=some (!decide (∀r∈l.Rows,OB b r)):=fun l hl=>by have:=W9 hl;simp only[G6];rw[e1,YQ (by omega),W6];rfl
     rw[V6 f4 _ _ e2,W6];have hiff:nC b↔∀l∈b.aN,∀r∈l.Rows,OB b r:=by
      constructor
      ·intro x l hl r hr;exact x.2 r (aDV.2 ⟨l,hl,hr⟩)
      ·intro x;refine⟨⟨q1,q2,q3,q4⟩,fun r hr=>?_⟩;obtain⟨l,hl,hr⟩:=aDV.1 hr;grind
     grind
    grind[nC]
   grind[nC]
  grind[nC]
 grind[nC]
end
end Go.Gv
end
noncomputable section
namespace Go.Gv
theorem SJ{s:List aS}{p:aS->Bool}(hl:s.length<=4611686018427387904) :
  (∃j,∃h:j<s.length,(∀i (h:i<s.length),i<j->p s[i]=false)/\p s[j]=true/\cS s (fun y=>some (p y))=some (j:Int))\/((∀i (h:i<s.length),p s[i]=false)/\cS s (fun y=>some (p y))=some (-1)):=by
 rcases VY (f:=oQ s (fun y=>some (p y))) (p:=p) hl (fun k=>by
  simp only[oQ];by_cases h:k<s.length
  ·rw[dif_pos h,if_pos (by simp;omega),aV h,aK,aK,aP (by omega) (by omega)];rfl
  grind) s.length 0 (by omega) with ⟨j,h,_,h2,h3,h4⟩ | ⟨h1,h2⟩
 ·refine .inl ⟨j,h,fun i hi a=>h2 i hi (jT _) a,h3,?_⟩;unfold cS;rw[show(0:Int)=((0:Nat):Int) from rfl,h4];rfl
 ·refine .inr ⟨fun i hi=>h1 i hi (jT _),?_⟩;unfold cS;rw[show(0:Int)=((0:Nat):Int) from rfl,h2];rfl
theorem aD8{s:List Seen}{p:Seen->Bool}(hl:s.length<=4611686018427387904) :
  (∃j,∃h:j<s.length,(∀i (h:i<s.length),i<j->p s[i]=false)/\p s[j]=true/\eR s (fun y=>some (p y))=some (j:Int))\/((∀i (h:i<s.length),p s[i]=false)/\eR s (fun y=>some (p y))=some (-1)):=by
 rcases VY (f:=i7 s (fun y=>some (p y))) (p:=p) hl (fun k=>by
  simp only[i7];by_cases h:k<s.length
  ·rw[dif_pos h,if_pos (by simp;omega),aV h,aK,aK,aP (by omega) (by omega)];rfl
  grind) s.length 0 (by omega) with ⟨j,h,_,h2,h3,h4⟩ | ⟨h1,h2⟩
 ·refine .inl ⟨j,h,fun i hi a=>h2 i hi (jT _) a,h3,?_⟩;unfold eR;rw[show(0:Int)=((0:Nat):Int) from rfl,h4];rfl
 ·refine .inr ⟨fun i hi=>h1 i hi (jT _),?_⟩;unfold eR;rw[show(0:Int)=((0:Nat):Int) from rfl,h2];rfl
theorem aLB{s:List aS}{p:aS->Bool}(hl:s.length<=4611686018427387904):jM s (fun y=>some (p y))=some (s.filter fun x=>!p x):=by
 unfold jM;rcases SJ (p:=p) hl with ⟨j,h,h1,h2,h3⟩ | ⟨h1,h3⟩
 ·have ne:¬(((j:Int) == -1)=true):=by simp
  rw[h3,aK,if_neg ne,aP (by omega) (by omega)];obtain⟨M,k,g1,g2,g3,g4⟩:=aNW (p:=p) (n:=s.length) (f:=j5 (fun y=>some (p y))) hl (fun L i j h hn hi=>by
   simp only[j5];rw[if_pos (by simp;omega),aV h,aK,aK];by_cases hp:p L[j]=true
   ·rw[if_pos hp,if_neg (by simp[hp])];grind[iL,aP]
   ·rw[if_neg hp,if_pos (by grind),aV (by omega),aK];grind[iL,aP]) (fun L i j h=>by
   simp_all[j5]) (s.length - (j+1)) s j (j+1) (by omega) rfl (by omega)
  grind[wM,wL,aM,fP,aXH,a10]
 ·rw[h3,aK,if_pos (by rfl),List.filter_eq_self.2];grind[Z4]
theorem aVP{α:Type}{q:α->Bool}:∀{s:List α} {j:Nat} (h:j<s.length),(∀i (h:i<s.length),i<j->q s[i]=true)->q s[j]=false->s.takeWhile q=s.take j/\s.dropWhile q=s.drop j
 | [],j,h,_,_=>by cases h
 | x :: r, 0, h, _, h2 => by simp_all
 | x :: r, j + 1, h, h1, h2 => by have hx:q x=true:=h1 0 (Nat.zero_lt_succ _) (Nat.zero_lt_succ _);have:=aVP (s:=r) (j:=j) (by grind) (fun i hi hj=>h1 (i+1) (by omega) (by omega)) h2;simp_all
theorem bAL{α:Type}{q:α->Bool}{s:List α}(h:∀i (h:i<s.length),q s[i]=true):s.takeWhile q=s/\s.dropWhile q=[]:=by
 have h':∀x∈s,q x=true:=fun x hx=>by grind[Z4]
 clear h;induction s with
 | nil=>simp
 | cons x r ih =>
  simp_all
def J0(l:List aS)(x:aS):List aS:=
 (l.filter fun y=>!(y.Key == x.Key)).takeWhile (fun y=>!decide (x.Key<y.Key)) ++ [x]++(l.filter fun y=>!(y.Key == x.Key)).dropWhile (fun y=>!decide (x.Key<y.Key))
theorem aDI{l:List aS}(hl:l.length<=1000)(x:aS):HE l x=some (J0 l x):=by
 unfold HE nT J0;rw[aM (by simp;omega)];simp only[aK,aG3];have hd:jM l (fun y0=>I3 y0 x)=some (l.filter fun y=>!(y.Key == x.Key)):=aLB (p:=fun y=>y.Key == x.Key) (by omega);rw[hd,aK];have hlen:(l.filter fun y=>!(y.Key == x.Key)).length<=1000:=tN (List.length_filter_le _ _) hl;generalize (l.filter fun y=>!(y.Key == x.Key))=o at hlen ⊢;have hi:(∃j,∃h:j<o.length,(∀i (h:i<o.length),i<j->decide (x.Key<o[i].Key)=false)/\decide (x.Key<o[j].Key)=true/\cS o (fun y0=>A0 y0 x)=some (j:Int))\/((∀i (h:i<o.length),decide (x.Key<o[i].Key)=false)/\cS o (fun y0=>A0 y0 x)=some (-1)):=SJ (p:=fun y=>decide (x.Key<y.Key)) (by omega);rcases hi with ⟨j,h,h1,h2,h3⟩ | ⟨h1,h3⟩
 ·obtain⟨t1,t2⟩:=aVP (q:=fun y:aS=>!decide (x.Key<y.Key)) h (fun i hi a=>by grind) (by simp[h2]);rw[h3,aK,if_neg (by simp),t1,t2];grind[rL,qO,aM]
 ·obtain⟨t1,t2⟩:=bAL (s:=o) (q:=fun y:aS=>!decide (x.Key<y.Key)) (fun i hi=>by grind);rw[h3,aK,if_pos (by decide),t1,t2];grind[rL,qO,aM,List.drop_length]
def aFU(l:List aS)(k:Int):aS×Bool:=match l.find? (fun y=>y.Key == k) with | some x=>(x,true) | none=>(⟨0,false,0⟩,false)
theorem aIZ{α:Type}{p:α->Bool}{s:List α}{j:Nat}(h:j<s.length)(h1:∀i (h:i<s.length),i<j->p s[i]=false)(h2:p s[j]=true):s.find? p=some s[j]:=by grind[List.find?_eq_some_iff_getElem]
theorem aVQ{α:Type}{p:α->Bool}{s:List α}(h1:∀i (h:i<s.length),p s[i]=false):s.find? p=none:=by grind[Z4]
theorem aFV{l:List aS}(hl:l.length<=1000)(k:Int):KG l k=some (aFU l k):=by
 unfold KG aFU;have hi:(∃j,∃h:j<l.length,(∀i (h:i<l.length),i<j->(l[i].Key == k)=false)/\(l[j].Key == k)=true/\cS l (fun y0=>EA y0 k)=some (j:Int))\/((∀i (h:i<l.length),(l[i].Key == k)=false)/\cS l (fun y0=>EA y0 k)=some (-1)):=SJ (p:=fun y=>y.Key == k) (by omega);rcases hi with ⟨j,h,h1,h2,h3⟩ | ⟨h1,h3⟩
 ·rw[h3,aK,if_neg (by simp),aV h,aIZ (p:=fun y:aS=>y.Key == k) h h1 h2];rfl
 simp_all[aVQ]
def FU(l:List Seen)(b v:Int):List Seen×Bool:=match l.find? (fun y=>y.bY == b) with | some x=>(l,x.fX == v) | none=>(l ++ [⟨b,v⟩],true)
theorem aFW{l:List Seen}(hl:l.length<=1000)(b v:Int):KI l b v=some (FU l b v):=by
 unfold KI pC FU;rw[aM (by simp;omega)];simp only[aK,aG3];have hi:(∃j,∃h:j<l.length,(∀i (h:i<l.length),i<j->(l[i].bY == b)=false)/\(l[j].bY == b)=true/\eR l (fun y0=>EF y0 b)=some (j:Int))\/((∀i (h:i<l.length),(l[i].bY == b)=false)/\eR l (fun y0=>EF y0 b)=some (-1)):=aD8 (p:=fun y=>y.bY == b) (by omega);rcases hi with ⟨j,h,h1,h2,h3⟩ | ⟨h1,h3⟩
 ·rw[h3,aK,if_neg (by simp),aV h,aIZ (p:=fun y:Seen=>y.bY == b) h h1 h2];rfl
 ·rw[h3,aK,if_pos (by decide),aM (by simp;omega),aVQ (p:=fun y:Seen=>y.bY == b) h1]
def fS(l:List aS)(n:Int):Int:=(((l.take n.toNat).filter fun x=>!x.FR).length:Int)
theorem aS2(l:List aS)(n:Int):(l.take ((if(if(l.length:Int)<n then(l.length:Int) else n)<0 then 0 else(if(l.length:Int)<n then(l.length:Int) else n)).toNat)).drop 0=l.take n.toNat:=by
 (simp_all;omega)
theorem aBT{l:List aS}(hl:l.length<=1000)(n:Int):QT l n=some (fS l n):=by
 unfold QT fS;rw[aM (by omega)];have hc:=aS2 l n;obtain⟨s,hs⟩:∃s,s=l.take n.toNat:=⟨_,rfl⟩;have hsl:s.length<=1000:=by grind
 rw[show((0:Int),(0:Int))=((((s.take 0).filter fun x=>!x.FR).length:Int),((0:Nat):Int)) from rfl,
  iH s.length (fun k=>((((s.take k).filter fun x=>!x.FR).length:Int),(k:Int))) (((s.filter fun x=>!x.FR).length:Nat):Int) (fun k hk=>by
   have ht:s.take (k+1)=s.take k ++ [s[k]]:=K9 hk;have hle:((s.take k).filter fun x=>!x.FR).length<=1000:=tN (List.length_filter_le _ _) (by grind);simp only[RY,hc,<-hs];rw[if_pos (by simp;omega),aV hk,aK,ht,List.filter_append];cases hd:s[k].FR
   ·rw[if_pos (by rfl),aP (by omega) (by omega)];simp only[EG];rw[aP (by omega) (by omega)];simp[hd]
   ·rw[if_neg (by simp)];grind[EG,aP]) (by
   simp only[RY,hc,<-hs];simp)]
 rw[hs];rfl
def oJ(k:Int):Int:=if 0<=k/\k<=99 then k % 2 else -1
theorem PC(k:Int):GC k=some (oJ k):=by unfold GC oJ;rw[dL,aK];grind
def qI(l:List aS):List Int:=(if l.any (fun x=>x.Key % 2 == 0) then [0] else [])++(if l.any (fun x=>x.Key % 2 == 1) then [1] else [])
theorem aS3{l:List Int}(hs:l.Pairwise (· < ·))(hm:∀x∈l,x=0\/x=1):l=(if 0∈l then [0] else [])++(if 1∈l then [1] else []):=by
 match l,hs,hm with
 | [],_,_=>rfl
 | [x],_,hm=>rcases hm x (by simp) with rfl | rfl<;>rfl
 | [x, y], hs, hm =>
  have hxy:x<y:=by grind
  rcases hm x (by simp) with rfl | rfl<;>rcases hm y (by simp) with rfl | rfl<;>first | omega | rfl
 | x :: y :: z :: r, hs, hm =>
  (simp_all;omega)
theorem aFX{l:List aS}(hl:l.length<=12)(hk:∀x∈l,0<=x.Key/\x.Key<=99):KJ l=some (qI l):=by
 unfold KJ;rw[show(([]:List Int),(0:Int))=((l.take 0).map (fun x=>x.Key % 2),((0:Nat):Int)) from rfl,
  iH l.length (fun k=>((l.take k).map (fun x=>x.Key % 2),(k:Int))) (l.map fun x=>x.Key % 2) (fun k hlt=>by
   have ht:l.take (k+1)=l.take k ++ [l[k]]:=K9 hlt;have hkk:=hk l[k] (dC hlt);simp only[I6];rw[if_pos (by simp;omega),aV hlt,aK,PC,aK];unfold oJ;rw[if_pos hkk,if_pos (by simp;omega),aM (by simp;omega),ht,uX];grind[A3,aP]) (by
   simp[I6]),aK]
 simp only[TD,I5];obtain⟨y,h1,h2,h3⟩:=a11 (x:=l.map fun x=>x.Key % 2) (by grind) (by grind[aSW]);rw[h1,aK];obtain⟨c1,c2⟩:=aQC h3;have hmem:∀a,a∈CZ y↔∃x∈l,x.Key % 2=a:=fun a=>by grind
 have h01:∀a∈CZ y,a=0\/a=1:=fun a ha=>by grind
 show some (CZ y)=_;rw[aS3 c1 h01];grind[qI]
theorem aN4(l:List aS):(qI l).length<=2:=by grind[qI]
theorem WA{l:List aS}{b:Int}(h:b∈qI l):b=0\/b=1:=by grind[qI]
end Go.Gv
end
noncomputable section
namespace Go.Gv
theorem aI0{α:Type}{f:(List α×Int)->Option (Step (List α×Int) (List α))}(l:List α)
  (h:∀k (hk:k<l.length),f (l.take k,(k:Int))=some (.next (l.take k ++ [l[k]],((k+1:Nat):Int)))) (he:f (l,(l.length:Int))=some (.stop l)):loop f ([],0)=some l:=by
 have:=iH (f:=f) l.length (fun k=>(l.take k,(k:Int))) l (fun k hk=>by simp_all) (by grind);grind
theorem XB{α:Type}{f:(Int×List α)->Option (Step (Int×List α) (List α))}(l:List α)
  (h:∀k (hk:k<l.length),f ((k:Int),l.take k)=some (.next (((k+1:Nat):Int),l.take k ++ [l[k]]))) (he:f ((l.length:Int),l)=some (.stop l)):loop f (0,[])=some l:=by
 have:=iH (f:=f) l.length (fun k=>((k:Int),l.take k)) l (fun k hk=>by simp_all) (by grind);grind
theorem pR{l:List Int}(h:l.length<=1073741824):gD l=some l:=by grind[gD,aM]
theorem aN5{l:List vR}(h:l.length<=1073741824):xK l=some l:=by grind[xK,aM]
theorem aLC{l:List eE}(h:l.length<=1073741824):vD l=some l:=by grind[vD,aM]
theorem PD{l:aD}(h1:l.Global.length<=1048576)(h2:l.Own.length<=1048576)(h3:∀s∈l.Global,s.aT.length<=1048576)(h4:∀s∈l.Own,s.aT.length<=1048576):i5 l=some l:=by
 unfold i5;rw[XB l.Global]
 ·simp only[aK,NR,NQ];rw[XB l.Own]
  ·rfl
  ·intro k hk;have:=h4 _ (dC hk);simp only[DF];rw[if_pos (by simp;omega),aV hk];simp only[aK];rw[pR (by omega),aK,aM (by simp;omega),DE,aP (by omega) (by omega)];rfl
  grind[DF]
 ·intro k hk;have:=h3 _ (dC hk);simp only[DH];rw[if_pos (by simp;omega),aV hk];simp only[aK];rw[pR (by omega),aK,aM (by simp;omega),DG,aP (by omega) (by omega)];rfl
 grind[DH]
theorem SK{h:Heap}(h1:h.Bytes.length<=1048576)(h2:h.Class.length<=1048576):uI h=some h:=by unfold uI;rw[pR (by omega),pR (by omega)];rfl
theorem OC{m:Mem}(h:zF m):pB m=some m:=by have a:=SK h.1 h.2.1;have b:=PD h.2.2.1 h.2.2.2.1 h.aQD.1 h.aQD.2;simp_all[pB]
theorem nH{c:aA}(h:c.cH.length<=1048576):xZ c=some c:=by unfold xZ;rw[aM (by simp;omega)];rfl
theorem AJ{c:aA}(h:c.cH.length<=1048576):lM c=some c:=by unfold lM;rw[aN5 (by omega)];rfl
theorem PE{l:List bI}(hl:l.length<=1048576)(hs:∀s∈l,s.Rows.length<=1048576):lN l=some l:=by
 unfold lN;rw[aI0 l]
 ·rfl
 ·intro k hk;have:=hs _ (dC hk);simp only[DI];rw[if_pos (by simp;omega),aV hk];simp only[aK];rw[aLC (by omega),aK,aM (by simp;omega),aP (by omega) (by omega)];rfl
 grind[DI]
theorem aN6{b:aC}(h:MH b):GY b=some b:=by have m:=OC h.1;have c:=AJ h.2.1;have l:=PE h.2.2.1 h.rows;have:=h.2.2.2.2;unfold GY;rw[m,c,l,pR (by omega)];rfl
end Go.Gv
end
noncomputable section
namespace Go.Gv
theorem nI(w:Int):g8 w=some (decide (0<=w/\w<=2)):=by grind[g8,dL]
noncomputable section
variable {c:aA} (hc:JG c) {w:Int} (hw:0<=w/\w<=2)
include hc
theorem JG.small:c.cH.length<=1048576/\c.cH.length<=maxLen:=by have:=hc.2.1;grind[maxLen]
theorem JG.aN7{k:Nat}{p:vR}(hp:POk c.aG p):JG ⟨c.aG,c.cH.set k p⟩:=⟨hc.1,by simpa using hc.2.1,fun q hq=>(uY hq).elim (hc.2.2 q) (fun e=>e ▸ hp)⟩
theorem JG.later(h:c.aG+1<=100000):JG ⟨c.aG+1,c.cH⟩:=by
 have h1:=hc.1;exact⟨⟨by grind,h⟩,hc.2.1,fun q hq=>by
  obtain⟨a,b,d⟩:=hc.2.2 q hq;exact⟨⟨a.1,by grind⟩,b,d⟩⟩
include hw
theorem aS4:∃p,idx c.cH w=some p/\POk c.aG p:=by have h3:=hc.2.1;rw[iC hw.1 (by omega)];exact⟨_,rfl,hc.2.2 _ (dC _)⟩
theorem aXN(e:Int):∃r,IE c w e=some r/\NX c w e=some r/\JG r.1/\r.1.aG=c.aG:=by
 obtain⟨p,hp,h1,⟨hs0,hs1⟩,h2⟩:=aS4 hc hw;have h3:=hc.2.1;unfold IE NX;rw[nH hc.small.1,AJ hc.small.1,kN,uF hc.small.2,nI,fQ,cZ hc,cZ hw];simp only[aK,kV,bT,if_false,ET,D6,hp];cases h4:p.On
 ·exact⟨_,rfl,rfl,hc,rfl⟩
 ·cases h5:p.fU
  ·by_cases h6:p.aG=e
   ·simp_all[rP,rK]
   ·have h6':(p.aG == e)=false:=by grind
    simp only[rP,rK,h6',kV,bT,if_false,hp,aK];by_cases h7:p.Seen=2
    ·simp only[h7,beq_self_eq_true,if_true,show ¬((2:Int)<2) by omega,decide_false,bT,if_false];exact⟨_,rfl,rfl,hc.aN7 ⟨h1,by simp,fun q=>by grind⟩,rfl⟩
    ·have h7':(p.Seen == 2)=false:=by grind
     simp only[h7',show p.Seen<2 by omega,decide_true,if_true,bT,if_false];have hw7:bE (p.Seen+1)=p.Seen+1:=aP (by omega) (by omega);exact⟨_,rfl,rfl,hc.aN7 ⟨h1,by grind,fun q=>by grind⟩,rfl⟩
  ·exact⟨_,rfl,rfl,hc,rfl⟩
theorem a16(e:Int):∃r,L4 c w e=some r/\RX c w e=some r/\(JG r.1/\r.1.aG=c.aG)/\(r.2=false->r.1=c):=by
 obtain⟨p,hp,hpk⟩:=aS4 hc hw;have h3:=hc.2.1;unfold L4 RX;rw[nH hc.small.1,AJ hc.small.1,kN,uF hc.small.2,nI,fQ,fQ,dL,cZ hc,cZ hw];simp only[aK,kV,bT,if_false,AB,zV,hp];by_cases h:0<=e/\e<=c.aG
 ·simp only[cZ h,kV,bT,if_false];exact⟨_,rfl,rfl,⟨hc.aN7 ⟨h,by simp,fun q=>by cases q⟩,rfl⟩,fun q=>by cases q⟩
 simp_all[gZ]
omit hw in
theorem a6G(e:Int):∃r,QW c e=some r/\W5 c e=some r/\JG r.1/\c.aG<=r.1.aG:=by
 have h3:=hc.2.1;unfold QW W5;rw[nH hc.small.1,AJ hc.small.1,kN,uF hc.small.2,cZ hc];simp only[aK,kV,bT,if_false,EU,D7];by_cases h:c.aG=e
 ·subst h;simp only[bne_self_eq_false,bT,if_false];by_cases h:c.aG=100000
  ·simp_all
  ·have h':(c.aG == 100000)=false:=by grind
   have hE:=hc.1;have hw7:bE (c.aG+1)=c.aG+1:=aP (by omega) (by omega);simp only[h',bT,if_false,hw7];exact⟨_,rfl,rfl,hc.later (by omega),by grind⟩
 simp_all
end
theorem bAM{b:aC}(hc:JG b.aA){w:Int}(hw:0<=w/\w<=2)(s:Sub) :
  ∃x y,IF b w s=some (x,y)/\xS s b w=some (y,x)/\∃cl,x=⟨b.Mem,cl,b.aN,b.qH⟩/\JG cl/\b.aA.aG<=cl.aG:=by
 obtain⟨r,e1,e2,h3,h4⟩:=a16 hc hw s.E;unfold IF xS;rw[e1,e2];simp only[bQ,bG,yX,aK];by_cases p0:s.Pc=0
 ·simp only[p0,beq_self_eq_true,if_true];exact⟨_,_,rfl,rfl,_,rfl,hc,by omega⟩
 ·have p0':(s.Pc == 0)=false:=by grind
  simp only[p0',bT,if_false];by_cases p1:s.Pc=1
  ·simp only[p1,beq_self_eq_true,if_true];cases h:r.2
   ·rw[h4 h];exact⟨_,_,rfl,rfl,_,rfl,hc,by omega⟩
   ·exact⟨_,_,rfl,rfl,_,rfl,h3.1,by omega⟩
  ·have p1':(s.Pc == 1)=false:=by grind
   simp only[p1',bT,if_false];by_cases p2:s.Pc=2
   ·simp only[p2,beq_self_eq_true,if_true];by_cases q:b.aA.aG=s.E
    ·simp only[q,beq_self_eq_true,if_true];exact⟨_,_,rfl,rfl,_,rfl,hc,by omega⟩
    ·have q':(b.aA.aG == s.E)=false:=by grind
     simp only[q',bT,if_false];exact⟨_,_,rfl,rfl,_,rfl,hc,by omega⟩
   ·have p2':(s.Pc == 2)=false:=by grind
    simp only[p2',bT,if_false];exact⟨_,_,rfl,rfl,_,rfl,hc,by omega⟩
theorem aS5{b:aC}(hc:JG b.aA)(s:Sub) :
  ∃x y,uA b s=some (x,y)/\pH s b=some (y,x)/\∃cl,x=⟨b.Mem,cl,b.aN,b.qH⟩/\JG cl/\b.aA.aG<=cl.aG:=by
 obtain⟨r2,e3,e4,h4⟩:=a6G hc s.E;unfold uA pH mB;rw[e3,e4,fQ,nI];simp only[bQ,bG,tF,tG,mA,aK];by_cases p0:s.Pc=0
 ·simp only[p0,beq_self_eq_true,if_true];exact⟨_,_,rfl,rfl,_,rfl,hc,by omega⟩
 ·have p0':(s.Pc == 0)=false:=by grind
  simp only[p0',bT,if_false];by_cases p1:s.Pc=1
  ·simp only[p1,beq_self_eq_true,if_true,show((1:Int) == 2)=false from rfl,bT,if_false];by_cases hB:0<=s.B/\s.B<=2
   ·obtain⟨r,e1,e2,h3,h3'⟩:=aXN hc hB s.E;simp only[cZ hB,kV,bT,if_false,if_true,e1,e2,aK];cases h:r.2
    ·exact⟨_,_,rfl,rfl,_,rfl,h3,by omega⟩
    ·by_cases q:bE (s.B+1)=3
     ·simp only[q,beq_self_eq_true,if_true,kV,bT,if_false];exact⟨_,_,rfl,rfl,_,rfl,h3,by omega⟩
     ·have q':(bE (s.B+1) == 3)=false:=by grind
      simp only[q',kV,bT,if_false];exact⟨_,_,rfl,rfl,_,rfl,h3,by omega⟩
   ·simp only[gZ hB,PQ,bT,if_false,if_true];exact⟨_,_,rfl,rfl,_,rfl,hc,by omega⟩
  ·have p1':(s.Pc == 1)=false:=by grind
   simp only[p1',bT,if_false];by_cases p2:s.Pc=2
   ·simp only[p2,beq_self_eq_true,if_true];cases h:r2.2
    ·simp only[bT,if_false];exact⟨_,_,rfl,rfl,_,rfl,h4⟩
    ·simp only[if_true];exact⟨_,_,rfl,rfl,_,rfl,h4⟩
   ·have p2':(s.Pc == 2)=false:=by grind
    simp only[p2',bT,if_false];exact⟨_,_,rfl,rfl,_,rfl,hc,by omega⟩
end Go.Gv
end
