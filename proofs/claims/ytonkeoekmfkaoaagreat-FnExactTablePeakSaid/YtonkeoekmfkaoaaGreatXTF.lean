import Derived.Test.YtonkeoekmfkaoaaGreatXTE
set_option linter.unusedVariables false
set_option linter.unusedSimpArgs false
set_option linter.unusedSectionVars false
set_option linter.constructorNameAsVariable false
set_option linter.unnecessarySimpa false
noncomputable section
set_option maxHeartbeats 4000000
set_option maxRecDepth 100000
namespace Go.Proofs.YtonkeoekmfkaoaaGreat
open Go.Gv Tryz
variable{s1 s10 s11 s2 s3 s4 s5 s6 s7 s8 s9:AC}{g_f:FuncId}{h:Heap}{a_ c e_ i k0 n w_ x:Int}{s:List Int}{cap_f:List Value}{l:List bR}{m:Mem}{t:Table}{j:aE}
section
variable {U:Ctx}
theorem y8{x:List Int}{count:Int}(h1:bU U s1 x):VS prog U 379 (uQ x count) [.h s1 x.length,I count] [] [] (λr (y:AC)=>.h y r.length) (λr y=>[ow y r]):=
 b7 call379 func379 Q Q2<|aZ [10] Q2 (λhF=>nomatch hF)<|c0 Q (λ_=>aDU) λx1=>dX 0 0 (oD x x1) [0,6] 26 [] Q (fV [22,23] Q2 (b8 [] Q2)<|b8 [] Q2) λx2=>aZ [26] Q2 (λhF=>nomatch hF)<|λhF=>mks (0:Int) bB (λw=>YT Q w) Q7 hF λhF s2=>cp0 (xs:=x) 0 (λh=>(h.a h1)) Q Q Q Q Q Q Q Q<|rr s2 (fB (xs:=x) (jT _)).symm [7,30,31] [] [] Q Q Q Q<|wi hF<|LW () [] (λ(p:(List Int)×Int) (_:Unit)=>[(7,.h s2 p.1.length),(8,I p.2)]) [0] [] (λp _=>[ow s2 (p.1:List Int)]) id [] (λ(x7:(List Int)) (_:Unit)=>[(7,.h s2 x7.length)]) [] (λx7 _=>[ow s2 (x7:List Int)]) Q Q (λhF2 ⟨x5,x6⟩ _ hr2=>aZ [37] Q2 (dM aC [] Q<|λhG2=>cpc 0 Q Q λhc1=>YW hc1 Q6 hG2 λhG2 h2=>aOV hc1 Q Q Q Q Q Q hG2 λhG2 h3=>cpy (xs:=(x5.take x6.toNat).drop 0) 0 x6.toNat h2 (λh=>((h.o 0 Q).sub (MH h3.1 h3.2) h3)) Q Q Q Q Q Q Q Q<|rr s2 (fB (xs:=(x5.take x6.toNat).drop 0) h2.1).symm [7,35,39,42] [] [] Q Q Q Q<|wi hG2<|CS [0] Q)<|wY [0] Q) λx7 _=>dL s2 [0] Q2
theorem aHC:VS prog U 300 JW [] [] [] (λr (y:AC×AC)=>.g [.h y.1 r.Bytes.length,.h y.2 r.Class.length]) (λr y=>[ow y.1 r.Bytes,ow y.2 r.Class]):=
 b7 call300 func300 Q Q2<|cG 0 1 R9 [0] (λ(x1:(List Int)) (u:AC×AC)=>[]) [] (λx1 u=>[ow u.1 (List.replicate ((384:Int).toNat) 0:List Int),ow u.2 (x1:List Int),.box 0 [.h u.1 (List.replicate ((384:Int).toNat) 0).length,.h u.2 x1.length]]) Q (dM aC [] Q<|λhF=>nd hF λhA1 hF=>bd hF λx2 hA2 hF=>dJ Q2 (have hq1:=rn hA1;mks (0:Int) bB (λw=>YT Q w) Q7 hq1 λhq1 s6=>lt1 Q bB Q4 λs7=>LS hA2 Q (λh=>y8 (h.o 2 Q)) λs8=>wi hF<|lI (p:=(x2)) (s6,s8) [1,3,0] Q2) (lt1 Q bB Q4 λs9=>dJ Q2 (have hq3:=rn hA1;mks (0:Int) bB (λw=>YT Q w) Q7 hq3 λhq3 s10=>LS hA2 Q (λh=>y8 (h.o 1 Q)) λs11=>wi hF<|lI (p:=(x2)) (s10,s11) [2,3,0] Q2) (LS hA2 Q (λh=>y8 (h.o 1 Q)) λs12=>have hq6:=rn hA1;mks (0:Int) bB (λw=>YT Q w) Q7 hq6 λhq6 s13=>wi hF<|lI (p:=(x2)) (s13,s12) [3,2,0] Q2))) λx1 ⟨s1,s2⟩=>dL (s1,s2) [0,1] Q2
theorem aDV:VS prog U 301 NV [] [] [] (λr (y:AC×AC)=>.g [.h y.1 r.Global.length,.h y.2 r.Own.length]) (λr y=>[ow y.1 r.Global,ow y.2 r.Own]):=
 b7 call301 func301 Q Q2<|cG 0 1 (λ(_:Unit)=>PB) [0] (λ(_:Unit) (u:AC×AC)=>[]) [] (λ_ u=>[ow u.1 (List.replicate ((3:Int).toNat) zL2:List aW),ow u.2 (List.replicate ((9:Int).toNat) zL2:List aW),.box 0 [.h u.1 zR5.length,.h u.2 zR4.length]]) Q (dM aC [] Q<|λhF=>nd hF λhA1 hF=>nd hF λhA2 hF=>dJ Q2 (have hq1:=rn hA1;mks zL2 fT (λ_=>(uJ (CZ zL2) (rC YI))) Q7 hq1 λhq1 s5=>have hq2:=rn hA2;mks zL2 fT (λ_=>(uJ (CZ zL2) (rC YI))) Q7 hq2 λhq2 s6=>wi hF<|lI (p:=()) (s5,s6) [1,2,0] Q2) (have hq3:=rn hA2;mks zL2 fT (λ_=>(uJ (CZ zL2) (rC YI))) Q7 hq3 λhq3 s7=>have hq4:=rn hA1;mks zL2 fT (λ_=>(uJ (CZ zL2) (rC YI))) Q7 hq4 λhq4 s8=>wi hF<|lI (p:=()) (s8,s7) [2,1,0] Q2)) λ_ ⟨s1,s2⟩=>dL (s1,s2) [0,1] Q2
theorem aJ8:VS prog U 188 UF [] [] [] (λr (y:X8)=>.g (yM r y)) (λr y=>(zM r y [])):=
 b7 call188 func188 Q Q2<|c1 Q (λ_=>aHC) λx1 s1=>c1 Q (λ_=>aDV) λx2 s2=>dL (s1.1,s1.2,s2.1,s2.2) [1,2,3,4] Q2
theorem aDW:VS prog U 189 NW [] [] [] (λr (y:AC)=>.g [I r.aO,.h y r.bX.length]) (λr y=>[ow y r.bX]):=
 b7 call189 func189 Q Q2<|λhF=>mks zL3 CF (λw=>YT (aZY zL3) w) Q7 hF λhF s1=>wi hF<|dL s1 [1] Q2
theorem aDX:VS prog U 190 NX [] [] [] (λr (y:AC)=>.h y r.length) (λr y=>[ow y r]):=
 b7 call190 func190 Q Q2<|λhF=>mks ((⟨[]⟩:bR):bR) HQ (λ_=>(uJ (aF0 (⟨[]⟩:bR)) (rC YI))) Q7 hF λhF s1=>wi hF<|dL s1 [0] Q2
theorem aJ9:VS prog U 191 UG [] [] [] (λr (y:AC)=>.h y r.length) (λr y=>[ow y r]):=
 b7 call191 func191 Q Q2<|λhF=>mks (0:Int) bB (λw=>YT Q w) Q7 hF λhF s1=>wi hF<|dL s1 [0] Q2
theorem aHD:VS prog U 84 JX [] [] [] (λr (y:A7C)=>.g (yB r y)) (λr y=>(zB r y [])):=
 b7 call84 func84 Q Q2<|c1 Q (λ_=>aJ8) λx1 s1=>c1 Q (λ_=>aDW) λx2 s2=>c1 Q (λ_=>aDX) λx3 s3=>c1 Q (λ_=>aJ9) λx4 s4=>dL (t4U s1 (s2,s3,s4)) [1,2,3,4,5,6,7] Q2
theorem LA{s:List jJ}(h1:bU U s1 s):VS prog U 195 (qF s) [.h s1 s.length] [] [] (λr (y:AC)=>.h y r.length) (λr y=>[ow y r]):=
 b7 call195 func195 Q Q2<|λhF=>eqn Q Q Q Q (λh2=>have hF:=cln h1 h2 hF;sR Q<|nV jJ<|l6 ⟨none,0⟩ [0] hF Q2 Q4)<|lt0 (O:=jJ) HR Q4 λs2=>ap 0 HR Q Q Q Q Q Q Q (λh=>(h.a h1)) Q Q hF λhF s3=>wi hF<|dL s3 [0] Q2
theorem PL{b:Batch}(h1:bU U s1 b.bI):VS prog U 192 (DS b) [.g [.b b.Collect,.h s1 b.bI.length]] [] [] (λr (y:AC)=>.g [.b r.Collect,.h y r.bI.length]) (λr y=>[ow y r.bI]):=
 b7 call192 func192 Q Q2<|dM aC [0] Q<|c1 Q (λh=>LA (h.a h1)) λx1 s2=>dL s2 [2] Q2
theorem aBA{todo:List aP}(h1:bU U s1 todo):VS prog U 85 (DW todo) [.h s1 todo.length] [] [] (λr (y:AC)=>.h y r.length) (λr y=>[ow y r]):=
 b7 call85 func85 Q Q2<|λhF=>lt0 (O:=aP) wH Q4 λs2=>wi hF<|LW s2 [10,11] (λ(p:(List aP)×Int) (s4:AC)=>[(3,.h s4 p.1.length),(12,I p.2)]) [0] [] (λp s4=>[ow s4 (p.1:List aP)]) id [] (λ(x5:(List aP)) (s5:AC)=>[(3,.h s5 x5.length)]) [] (λx5 s5=>[ow s5 (x5:List aP)]) Q Q (λhF1 ⟨x3,x4⟩ s4 hr1=>aZ [13] Q2 (vB uW Q h1 Q λx6 s6 h2=>λhG1=>nw Batch Q<|wi hG1<|LW ⟨none,0⟩ [3,6,10,11,12,18,19] (λ(p:Int×(List Batch)) (s8:AC)=>[(20,I p.1)]) [4,3,0] [0] (λp s8=>[ow s8 (p.2:List Batch),.box 2 [.h s8 p.2.length]]) id [3,6,10,11,12] (λ(x11:(List Batch)) (s9:AC)=>[]) [0] (λx11 s9=>[ow s9 (x11:List Batch),.box 2 [.h s9 x11.length]]) Q Q (λhF2 ⟨x9,x10⟩ s8 hr2=>aZ [21] Q2 (vB K6 Q h2 Q λx12 s12 h3=>cG 0 5 (DT x9) [3,6,10,11,12,18,19,20] (λ(x13:(List Batch)) (s13:AC)=>[]) [2] (λx13 s13=>[ow s13 (x13:List Batch),.box 2 [.h s13 x13.length]]) Q (dM aC [3,4] Q<|λhG2=>bd hG2 λx14 hA1 hG2=>nd hG2 λhA2 hG2=>dJ Q2 (LS hA1 Q (λh=>PL (h.a h3)) λs17=>WR UP [5] (x14) s17 o8 WS λs18=>have hq2:=rn hA2;apN 0 6 o8 Q Q Q9 hq2 λhq2 s19=>wi hG2<|lI (p:=(x10++([x14]))) s19 [7,1,2] Q2) (LS hA1 Q (λh=>PL (h.a h3)) λs20=>(by refine dJ Q2 ?_ ?_<;>exact WR UP [5] (x14) s20 o8 WS λs21=>have hq4:=rn hA2;apN 0 6 o8 Q Q Q9 hq4 λhq4 s22=>wi hG2<|lI (p:=(x10++([x14]))) s22 [7,1,2] Q2))) λx13 s13=>nxW s13 [0,1,2] Q)<|bkW s8 [0,1,2] Q) λx11 s9=>λhG1=>WR sI [0] ((⟨x11⟩:aP)) s9 wH WS λs10=>apN 2 3 wH Q Q Q9 hG1 λhG1 s11=>wi hG1<|nxW s11 [4] Q)<|bkW s4 [0] Q) λx5 s5=>dL s5 [0] Q2
theorem aDY{todo:List aP}(h1:bU U s1 todo):VS prog U 32 (GQ todo) [.h s1 todo.length] [] [] (λr (y:aVR)=>.g (yTb r y)) (λr y=>(zTb r y [])):=
 b7 call32 func32 Q Q2<|c0 Q (λh=>aHB (h.a h1)) λx1=>aZ [5] Q2 (λhF=>sR Q<|nV Int<|nV Int<|nV aW<|nV aW<|nV vC<|nV bR<|nV Int<|nV cM<|nV aE<|nV aP<|nV qZ<|l6 (⟨none,0⟩,⟨none,0⟩,⟨none,0⟩,⟨none,0⟩,⟨none,0⟩,⟨none,0⟩,⟨none,0⟩,⟨none,0⟩,⟨none,0⟩,⟨none,0⟩,⟨none,0⟩) [1,2,3,4,5,6,7,8,9,10,11] hF Q2 Q4)<|cG 0 1 PC [2] (λ(x2:Table) (u:a9A)=>[]) [] (λx2 u=>(CN x2.aA u.1 u.2.1 u.2.2.1 u.2.2.2.1 u.2.2.2.2.1 u.2.2.2.2.2.1 u.2.2.2.2.2.2.1 [ow u.2.2.2.2.2.2.2.1 (x2.aT:List cM),ow u.2.2.2.2.2.2.2.2.1 (x2.aM:List aE),ow u.2.2.2.2.2.2.2.2.2 (x2.bL:List aP),.box 0 [.h u.1 x2.aA.Mem.Heap.Bytes.length,.h u.2.1 x2.aA.Mem.Heap.Class.length,.h u.2.2.1 x2.aA.Mem.aD.Global.length,.h u.2.2.2.1 x2.aA.Mem.aD.Own.length,I x2.aA.aI.aO,.h u.2.2.2.2.1 x2.aA.aI.bX.length,.h u.2.2.2.2.2.1 x2.aA.a8.length,.h u.2.2.2.2.2.2.1 x2.aA.kZ.length,.h u.2.2.2.2.2.2.2.1 x2.aT.length,.h u.2.2.2.2.2.2.2.2.1 x2.aM.length,.h u.2.2.2.2.2.2.2.2.2 x2.bL.length,.h ⟨none,0⟩ 0,I x2.aK]])) Q (dM aC [] Q<|λhF=>bd hF λx3 hA1 hF=>nd hF λhA2 hF=>nd hF λhA3 hF=>bd hF λx4 hA4 hF=>(by repeat' first|refine dJ Q2 ?_ ?_|refine aCK Q Q ?_ ?_ ?_|refine LS hA1 Q (λ_=>aHD) λs16=>?_|refine have hq2:=rn hA2;mks zL1 aGH (λw=>YT (aZ2 zL1) w) Q7 hq2 λhq2 s17=>?_|refine have hq3:=rn hA3;mks zL0 aGI (λ_=>(uJ (aMU zL0) (rC (rC (rC (rC (rC (rC (rC YI))))))))) Q7 hq3 λhq3 s18=>?_|refine LS hA4 Q (λh=>aBA (h.a h1)) λs19=>?_|exact wi hF<|lI (p:=((⟨x3,zR7,zR6,x4,[],0⟩:Table))) (t7U s16 (s17,s18,s19)) [1,2,3,4,5,6,7,8,9,10,0] Q2|exact wi hF<|lI (p:=((⟨x3,zR7,zR6,x4,[],0⟩:Table))) (t7U s16 (s17,s18,s19)) [1,2,3,4,5,6,7,8,10,9,0] Q2|exact wi hF<|lI (p:=((⟨x3,zR7,zR6,x4,[],0⟩:Table))) (t7U s16 (s17,s18,s19)) [1,2,3,4,5,6,7,9,8,10,0] Q2|exact wi hF<|lI (p:=((⟨x3,zR7,zR6,x4,[],0⟩:Table))) (t7U s16 (s17,s18,s19)) [1,2,3,4,5,6,7,10,8,9,0] Q2|exact wi hF<|lI (p:=((⟨x3,zR7,zR6,x4,[],0⟩:Table))) (t7U s16 (s17,s18,s19)) [1,2,3,4,5,6,7,9,10,8,0] Q2|exact wi hF<|lI (p:=((⟨x3,zR7,zR6,x4,[],0⟩:Table))) (t7U s16 (s17,s18,s19)) [1,2,3,4,5,6,7,10,9,8,0] Q2|exact wi hF<|lI (p:=((⟨x3,zR7,zR6,x4,[],0⟩:Table))) (t7U s16 (s17,s18,s19)) [2,3,4,5,6,7,8,1,9,10,0] Q2|exact wi hF<|lI (p:=((⟨x3,zR7,zR6,x4,[],0⟩:Table))) (t7U s16 (s17,s18,s19)) [2,3,4,5,6,7,8,1,10,9,0] Q2|exact wi hF<|lI (p:=((⟨x3,zR7,zR6,x4,[],0⟩:Table))) (t7U s16 (s17,s18,s19)) [3,4,5,6,7,8,9,1,2,10,0] Q2|exact wi hF<|lI (p:=((⟨x3,zR7,zR6,x4,[],0⟩:Table))) (t7U s16 (s17,s18,s19)) [2,3,4,5,6,7,8,9,1,10,0] Q2|exact wi hF<|lI (p:=((⟨x3,zR7,zR6,x4,[],0⟩:Table))) (t7U s16 (s17,s18,s19)) [2,3,4,5,6,7,8,10,1,9,0] Q2|exact wi hF<|lI (p:=((⟨x3,zR7,zR6,x4,[],0⟩:Table))) (t7U s16 (s17,s18,s19)) [3,4,5,6,7,8,9,2,1,10,0] Q2)) λx2 ⟨s2,s3,s4,s5,s6,s7,s8,s9,s10,s11⟩=>λhF=>sR Q<|nV qZ<|l6 (s2,s3,s4,s5,s6,s7,s8,s9,s10,s11,⟨none,0⟩) [0,1,2,3,4,5,6,7,8,9,11] hF Q2 Q4
theorem gT:V0 prog U 33 (fX w_) [I w_] .b:=
 b7 call33 func33 Q Q2<|c0 Q (λ_=>bY) λx1=>cA Q2
theorem QX{U:Ctx}{s:List R2}{j:Int}:VS prog U 193 (aZR s i j) [.h s1 s.length,I i,I j] [] [ow s1 (s:List R2)] (λr (y:AC)=>.h y r.length) (λr y=>[ow y r]):=
 b7 call193 func193 Q Q2<|λhF=>cpc 0 Q Q λhc1=>aRA hc1 Q Q Q Q Q Q Q Q hF λhF h1=>wi hF<|aZ [16] Q2 (dL s1 [0] Q2)<|dM aC [] Q<|λhF=>aOV hc1 Q Q Q Q Q Q hF λhF h2=>YW hc1 Q6 hF λhF h3=>nd hF λhab hF=>ap2 0 i.toNat j.toNat ⟨hab,h3.1⟩ Q Q Q Q Q Q Q Q Q λh4=>aZF 0 (i.toNat+(s.length-j.toNat)) h4.2 (wW h4.1 h4.2) Q Q Q Q Q Q Q Q Q hF λhF h5=>clr 0 (((((cO s i.toNat (s.drop j.toNat)).take (i.toNat+(s.length-j.toNat))).drop 0).length:Int).toNat) ((s.length:Int).toNat) zR2 h5 o8 Q (λ_=>a6P) Q Q Q Q Q Q Q Q<|sR Q<|poR 0 0 (i.toNat+(s.length-j.toNat)) Q Q (aQ9 h4 (pG h5.1 h5.2)) (aML (RR (by rw[BC,wW h4.1 h4.2];rfl)) (pG h5.1 h5.2))<|l6 (AC.sub s1 2 0) [0] hF Q2 Q4
theorem o9{kind:Int}:V0 prog U 194 (j6 kind a_) [I kind,I a_] (λr=>.g (VY r)):=
 b7 call194 func194 Q Q2<|cA Q2
theorem XX{b0:Nat×Nat}:VS prog U 87 (xN t w_) [.p 0 0,I w_] [b0] ([.box 0 (IY t s1 s2 s3 s4 s5 s6 s7 s8 s9 s10 s11)]++(SK t s1 s2 s3 s4 s5 s6 s7 s8 s9 s10 s11 [])) (λr (y:AC)=>.t []) (λr y=>([.box 0 (IY r s1 s2 s3 s4 s5 s6 s7 s8 s9 s10 y)]++(SK r s1 s2 s3 s4 s5 s6 s7 s8 s9 s10 y []))):=
 b7 call87 func87 Q Q2<|dX 0 1 (lB t w_) [0,1] 22 [1,2,3,4,5,6,7,8,9,10,11,0] Q (gZ sI 10 Q3 λx12 h7 s28 h8=>λhF=>fM 1 h8 h7 Q5<|wi hF<|fV [15,16] Q2 (λhF=>sF Q<|fC sI 12 [15] h7 s28 Q7<|fR Q2<|gI () [1,2,3,4,5,6,7,8,9,16,11,0] hF Q)<|λhF=>sF Q<|fC sI 12 [15] h7 s28 Q7<|fR Q2<|gI () [1,2,3,4,5,6,7,8,9,16,11,0] hF Q) λx1=>aZ [22] Q2 (dL s11 [11,0,1,2,3,4,5,6,7,8,9,10] Q2)<|gZ sI 9 Q3 λx2 h1 s12 h2=>λhF=>fM 1 h2 h1 Q5<|wi hF<|gZ UP 15 Q3 λx3 h3 s13 h4=>λhF=>fM 2 h4 h3 Q5<|wi hF<|dM aC [11,14,18,20] Q<|λhF=>fM 1 h2 h1 Q5<|hzR Q 16 17 18 Q Q Q Q Q Q Q λus1 cc1 hu1 hd1 hl1=>wi hF<|dlW Q 21 22 Q Q Q Q Q Q hu1 hd1 hl1 QX λs14=>λhF=>fM 1 h2 h1 Q5<|wi hF<|cG 0 5 (yR t w_ x2 x3) [0,1,4] (λ(x5:aE) (_:Unit)=>[(5,.p 4 0)]) [0,1,2,3,4,5,6,7,8,10,19,20] (λx5 _=>[ow s10 (t.bL.set w_.toNat (⟨x2.List.drop 1⟩:aP):List aP),.box 0 [.h s1 t.aA.Mem.Heap.Bytes.length,.h s2 t.aA.Mem.Heap.Class.length,.h s3 t.aA.Mem.aD.Global.length,.h s4 t.aA.Mem.aD.Own.length,I t.aA.aI.aO,.h s5 t.aA.aI.bX.length,.h s6 t.aA.a8.length,.h s7 t.aA.kZ.length,.h s8 t.aT.length,.h s9 t.aM.length,.h s10 (t.bL.set w_.toNat (⟨x2.List.drop 1⟩:aP)).length,.h s11 t.Log.length,I (bC (t.aK+1))],.box 4 [.b x5.m0,.b x5.Batch.Collect,.h s13 x3.bI.length,I x5.aK,I x5.Pc,I x5.At,I x5.K,I x5.cM,I x5.fF,I x5.H,I x5.gO,I x5.Node.Key,I x5.Node.fE,I x5.Node.Next,.b x5.Found,I x5.Code,I x5.Sub.Kind,I x5.Sub.A,I x5.Sub.Pc,I x5.Sub.E,I x5.Sub.Row,I x5.Sub.B,I x5.Sub.H,I x5.Sub.Out,I x5.Sub.Code,.b x5.Sub.jC,.h ⟨none,0⟩ 0,.h ⟨none,0⟩ 0,.h ⟨none,0⟩ 0,.h ⟨none,0⟩ 0,.h ⟨none,0⟩ 0,.h ⟨none,0⟩ 0]]) Q (dM aC [11,14,18,20] Q<|λhF=>bd hF λx11 hA3 hF=>(by refine dJ Q2 ?_ ?_<;>exact z8 hA3 Q (λ_=>o9)<|sF Q<|jB sI 12 [24] [26,36,41] (⟨x2.List.drop 1⟩:aP) s14 Q8<|fR Q2<|kE s10 bV.symm [] [(11,10)] Q3<|fR Q2<|gI (p:=((⟨true,x3,bC (t.aK+1),0,0,0,0,0,0,0,(⟨0,0,0⟩:dW),false,0,x11,[],[],[],[],[],[]⟩:aE))) () [26,11,25,0,1,2,3,4,5,6,7,8,10,19,20] hF Q)) λx5 _=>cG 0 5 (lA t w_ x2 x3) [0,1,4,5] (λ(x6:aE) (_:Unit)=>[]) [3,4,5,6,7,8,9,10,11,0,12,1,13,14] (λx6 _=>[.box 4 [.b x6.m0,.b x6.Batch.Collect,.h s13 x3.bI.length,I x6.aK,I x6.Pc,I x6.At,I x6.K,I x6.cM,I x6.fF,I x6.H,I x6.gO,I x6.Node.Key,I x6.Node.fE,I x6.Node.Next,.b x6.Found,I x6.Code,I x6.Sub.Kind,I x6.Sub.A,I x6.Sub.Pc,I x6.Sub.E,I x6.Sub.Row,I x6.Sub.B,I x6.Sub.H,I x6.Sub.Out,I x6.Sub.Code,.b x6.Sub.jC,.h ⟨none,0⟩ 0,.h ⟨none,0⟩ 0,.h ⟨none,0⟩ 0,.h ⟨none,0⟩ 0,.h ⟨none,0⟩ 0,.h ⟨none,0⟩ 0]]) Q (aZ [64] Q2 (c0 Q (λ_=>o9) λx10=>b8 [2,3,4,5,6,7,8,9,10,11,0,12,1,13,14] Q2)<|b8 [2,3,4,5,6,7,8,9,10,11,0,12,1,13,14] Q2) λx6 _=>dM aC [0,12,14] Q<|gZ aY 9 Q3 λx7 h5 s15 h6=>λhF=>fM 5 h6 h5 Q5<|wi hF<|cG 0 6 (yQ t w_ x2 x3 x6) [0] (λ(x8:(List qZ)) (s16:AC)=>[]) [1,2,3,4,5,6,7,8,10] (λx8 s16=>[ow s9 (t.aM.set w_.toNat ({x6 with Batch:=(⟨x6.Batch.Collect,x3.bI⟩:Batch),Reads:=[],aH:=[],cV:=[],cT:=[],bA:=[],bG:=[]}:aE):List aE),ow s16 (x8:List qZ),.box 0 [.h s1 t.aA.Mem.Heap.Bytes.length,.h s2 t.aA.Mem.Heap.Class.length,.h s3 t.aA.Mem.aD.Global.length,.h s4 t.aA.Mem.aD.Own.length,I t.aA.aI.aO,.h s5 t.aA.aI.bX.length,.h s6 t.aA.a8.length,.h s7 t.aA.kZ.length,.h s8 t.aT.length,.h s9 (t.aM.set w_.toNat ({x6 with Batch:=(⟨x6.Batch.Collect,x3.bI⟩:Batch),Reads:=[],aH:=[],cV:=[],cT:=[],bA:=[],bG:=[]}:aE)).length,.h s10 (t.bL.set w_.toNat (⟨x2.List.drop 1⟩:aP)).length,.h s16 x8.length,I (bC (t.aK+1))]]) Q (dM aC [0,14,17] Q<|λhF=>bd hF λx9 hA1 hF=>nd hF λhA2 hF=>(by repeat' first|refine dJ Q2 ?_ ?_|refine LS hA1 Q (λh=>LA (h.o 13 Q)) λs20=>?_|refine nw cV Q<|WR aGL [25,26] ((⟨1,w_,x6.aK,0,x9,[]⟩:qZ)) (s20,⟨none,0⟩) dO WS λs21=>?_|refine have hq2:=rn hA2;apN 11 27 dO Q Q Q9 hq2 λhq2 s22=>sF Q<|fR Q2<|?_|exact nV Seen<|nV aQ<|nV cV<|nV Int<|nV Int<|nV Int<|fR Q2<|jB aY 15 [13,29,30,31,32,33,34] [71] ({x6 with Batch:=(⟨x6.Batch.Collect,x3.bI⟩:Batch),Reads:=[],aH:=[],cV:=[],cT:=[],bA:=[],bG:=[]}:aE) (s13,⟨none,0⟩,⟨none,0⟩,⟨none,0⟩,⟨none,0⟩,⟨none,0⟩,⟨none,0⟩) Q8<|fR Q2<|kE s9 bV.symm [] [(12,9)] Q3<|fR Q2<|gI (p:=(t.Log++([(⟨1,w_,x6.aK,0,x9,[]⟩:qZ)]))) s22 [35,28,12,1,2,3,4,5,6,7,8,10] hF Q)) λx8 s16=>E9 s16 [2,3,4,5,6,7,8,9,10,0,11,1] Q Q
theorem cS{s:Sub}{code:Int}{b0:Nat×Nat}:VS prog U 307 (bJ s code) [.p 0 0,I code] [b0] [.box 0 (VY s)] (λr (y:Unit)=>.t []) (λr y=>[.box 0 (VY r)]):=
 b7 call307 func307 Q Q2<|E9 () [0] Q Q
theorem mR:V0 prog U 439 (jX c) [I c] .b:=
 b7 call439 func439 Q Q2<|c0 Q (λ_=>bY) λx1=>cA Q2
theorem OB:V0 prog U 399 (CB c) [I c] I:=
 b7 call399 func399 Q Q2<|c0 Q (λ_=>mR) λx1=>aZ [5] Q2 (cA Q2)<|λhF=>qba [I 8,I 16,I 40] zeroValue358 underlying358 sizeOf3 Q Q Q Q Q Q<|qai (λq:Int=>.int .i64 q) (λq=>.i .i64 q) (l:=([8,16,40]:List Int)) underlying358 sizeOf3 isAgg3 (λ_=>Q) Q Q Q Q Q Q hF λx2 _ hF=>wi hF<|cA Q2
theorem aHE{size:Int}:V0 prog U 380 (JY size) [I size] I:=
 b7 call380 func380 Q Q2<|LX 4 [0] [] Out.brk [] [] Q Q (λhF1 x2 hr1=>aZ [5] Q2 (dX 0 0 (AQ x2) [0,3,4] 14 [] Q (fV [8,9] Q2 (c0 Q (λ_=>OB) λx4=>b8 [] Q2)<|b8 [] Q2) λx3=>aZ [14] Q2 (HC hr1 hF1<|cA Q2)<|CS [] Q)<|wY [] Q)<|cA Q2
theorem sJ(h1:bU U s1 s):VS prog U 230 (jR s) [.h s1 s.length] [] [] (λr (y:AC)=>.h y r.length) (λr y=>[ow y r]):=
 b7 call230 func230 Q Q2<|λhF=>eqn Q Q Q Q (λh2=>have hF:=cln h1 h2 hF;sR Q<|nV Int<|l6 ⟨none,0⟩ [0] hF Q2 Q4)<|lt0 (O:=Int) bB Q4 λs2=>ap 0 bB Q Q Q Q Q Q Q (λh=>(h.a h1)) Q Q hF λhF s3=>wi hF<|dL s3 [0] Q2
theorem iT{l:aD}(h1:bU U s1 l.Global)(h2:bU U s2 l.Own):VS prog U 331 (iB l) [.g [.h s1 l.Global.length,.h s2 l.Own.length]] [] [] (λr (y:AC×AC)=>.g [.h y.1 r.Global.length,.h y.2 r.Own.length]) (λr y=>[ow y.1 r.Global,ow y.2 r.Own]):=
 b7 call331 func331 Q Q2<|λhF=>nw aW Q<|wi hF<|LW ⟨none,0⟩ [1,2,3,10,11] (λ(p:Int×(List aW)) (s4:AC)=>[(12,I p.1)]) [3,2,0,1] [0,1] (λp s4=>[ow s4 (p.2:List aW),.box 2 [.h s4 p.2.length,.h ⟨none,0⟩ 0]]) id [1,2,3] (λ(x5:(List aW)) (s5:AC)=>[]) [0,1] (λx5 s5=>[ow s5 (x5:List aW),.box 2 [.h s5 x5.length,.h ⟨none,0⟩ 0]]) Q Q (λhF1 ⟨x3,x4⟩ s4 hr1=>aZ [13] Q2 (vB BS Q h1 Q λx14 s22 h4=>cG 0 5 (DZ x3) [1,2,3,10,11,12] (λ(x15:(List aW)) (s23:AC)=>[]) [2,3] (λx15 s23=>[ow s23 (x15:List aW),.box 2 [.h s23 x15.length,.h ⟨none,0⟩ 0]]) Q (dM aC [2,3,4,5] Q<|λhG1=>bd hG1 λx16 hA3 hG1=>nd hG1 λhA4 hG1=>(by repeat' first|refine dJ Q2 ?_ ?_|refine LS hA3 Q (λh=>sJ (h.a h4)) λs27=>?_|refine WR kV [6] ((⟨x16⟩:aW)) s27 fT WS λs28=>?_|refine have hq7:=rn hA4;apN 0 7 fT Q Q Q9 hq7 λhq7 s29=>?_|exact wi hG1<|lI (p:=(x4++([(⟨x16⟩:aW)]))) s29 [8,1,2,3] Q2)) λx15 s23=>nxW s23 [0,1,2,3] Q)<|bkW s4 [0,1,2,3] Q) λx5 s5=>λhF=>nw aW Q<|wi hF<|LW ⟨none,0⟩ [2,3,27,28] (λ(p:Int×(List aW)) (s7:AC)=>[(29,I p.1)]) [4,1,3,0] [3,0] (λp s7=>[ow s7 (p.2:List aW),.box 2 [.h s5 x5.length,.h s7 p.2.length]]) id [2,3] (λ(x10:(List aW)) (s8:AC)=>[]) [3,0] (λx10 s8=>[ow s8 (x10:List aW),.box 2 [.h s5 x5.length,.h s8 x10.length]]) Q Q (λhF2 ⟨x8,x9⟩ s7 hr2=>aZ [30] Q2 (vB BS Q h2 Q λx11 s9 h3=>cG 0 5 (DX x8) [2,3,27,28,29] (λ(x12:(List aW)) (s10:AC)=>[]) [2,3] (λx12 s10=>[ow s10 (x12:List aW),.box 2 [.h s5 x5.length,.h s10 x12.length]]) Q (dM aC [2,4,5] Q<|λhG2=>bd hG2 λx13 hA1 hG2=>nd hG2 λhA2 hG2=>(by repeat' first|refine dJ Q2 ?_ ?_|refine LS hA1 Q (λh=>sJ (h.a h3)) λs14=>?_|refine WR kV [6] ((⟨x13⟩:aW)) s14 fT WS λs15=>?_|refine have hq2:=rn hA2;apN 0 7 fT Q Q Q9 hq2 λhq2 s16=>?_|exact wi hG2<|lI (p:=(x9++([(⟨x13⟩:aW)]))) s16 [8,1,2,3] Q2)) λx12 s10=>nxW s10 [0,1,2,3] Q)<|bkW s7 [0,1,2,3] Q) λx10 s8=>dL (s5,s8) [3,0] Q2
theorem zZ{slot:Int}:V0 prog U 397 (rH slot) [I slot] .b:=
 b7 call397 func397 Q Q2<|c0 Q (λ_=>bY) λx1=>cA Q2
theorem aRO:VS prog U 461 (aTD Raw n) [.h ⟨none,0⟩ 0,I n] [] [] (λr (y:AC)=>.h y r.length) (λr y=>[ow y r]):=
 b7 call461 func461 Q Q2<|λhF=>nd hF λhn hF=>wi hF<|aZ [6] Q2 (λhF=>nomatch hF)<|λhF=>qcn Q Q Q Q<|wi hF<|aVL [16] Q Q (λhb=>λhF=>qcn Q Q Q Q<|qn0 Q Q Q Q Q Q<|apZ (a86 hn hb) fT Q Q Q Q Q Q Q Q λs1=>rn0 Raw 0 Q Q Q Q Q Q Q Q Q λs2=>wi hF<|dL s2 [0] Q2) λhb=>λhF=>sR Q<|nV Raw<|l6 ⟨none,0⟩ [0] hF Q2 Q4
theorem S7{slices:List (List Raw)}(h1:bU U s1 slices):VS prog U 411 (yS slices) [.h s1 slices.length] [] [] (λr (y:AC)=>.h y r.length) (λr y=>[ow y r]):=
 b7 call411 func411 Q Q2<|LW () [0,9,10] (λ(p:Int×Int) (_:Unit)=>[(3,I p.1),(11,I p.2)]) [] [] (λp _=>[]) id [0] (λ(x5:Int) (_:Unit)=>[(3,I x5)]) [] (λx5 _=>[]) Q Q (λhF1 ⟨x3,x4⟩ _ hr1=>aZ [12] Q2 (vB cL Q h1 Q λx13 s8 h3=>aZ [20] Q2 (λhG1=>nomatch hG1)<|CS [] Q)<|wY [] Q) λx5 _=>c1 Q (λ_=>aRO) λx6 s2=>LW s2 [25,26] (λ(p:(List Raw)×Int) (s4:AC)=>[(6,.h s4 p.1.length),(27,I p.2)]) [0] [] (λp s4=>[ow s4 (p.1:List Raw)]) id [] (λ(x11:(List Raw)) (s5:AC)=>[(6,.h s5 x11.length)]) [] (λx11 s5=>[ow s5 (x11:List Raw)]) Q Q (λhF2 ⟨x9,x10⟩ s4 hr2=>aZ [28] Q2 (vB cL Q h1 Q λx12 s6 h2=>λhG2=>ap 0 fT Q Q Q Q Q Q Q (λh=>(h.a h2)) Q Q hG2 λhG2 s7=>wi hG2<|nxW s7 [0] Q)<|bkW s4 [0] Q) λx11 s5=>dL s5 [0] Q2
theorem EY{l:aD}(h1:bU U s1 l.Global)(h2:bU U s2 l.Own):V0 prog U 335 (oE l) [.g [.h s1 l.Global.length,.h s2 l.Own.length]] .b:=
 b7 call335 func335 Q Q2<|dX 0 1 (AR l) [1] 17 [0] Q (fV [11,12] Q2 (b8 [0] Q2)<|b8 [0] Q2) λx1=>aZ [17] Q2 (cA Q2)<|λhF=>qba [.l false,.l false,.l false,.l false,.l false,.l false,.l false,.l false,.l false,.l false,.l false,.l false,.l false,.l false,.l false,.l false,.l false,.l false,.l false,.l false,.l false,.l false,.l false,.l false] zeroValue300 underlying300 sizeOf4 Q Q Q Q Q Q<|rwX Q h2 λus1 hu1 hr1=>rwX Q h1 λus2 hu2 hr2=>ltK oAH () [⟨s2,l.Own.length⟩,⟨s1,l.Global.length⟩] aRL Q Q Q Q Q Q Q Q Q Q (λ_=>Q) λs3=>brL (ds:=([us1,us2]:List (List Raw))) 2 (ah2 ⟨hr1.1.symm,hu1⟩ ⟨hr2.1.symm,hu2⟩) Q Q Q<|nd hF λhn1 hF=>LS (PJ ⟨hr1.1,hr2.1⟩ hn1) Q (λh=>S7 (h.b 2 Q)) λs4=>rr s4 (hr1.append hr2).1 [24] [] [] Q Q Q Q<|wi hF<|lkC (d:=l.Own++l.Global) 3 (a6R Q (hr1.append hr2)) Q Q λhk1 h3=>LW () [1,3,24,25] (λ(p:Int×(List Bool)) (_:Unit)=>[(26,I p.1)]) [1,0] [0] (λp _=>[.box 1 (aB p.2)]) Out.brk [] (λ(_:Unit) (_:Unit)=>[]) [] (λ_ _=>[]) Q Q (λhF2 ⟨x4,x5⟩ _ hr2=>aZ [27] Q2 (vB BS Q h3 Q λx6 s5 h4=>dX 0 4 (nO x4 x5 x6) [1,3,5,24,25,26] 41 [1,0,3] Q (fV [35,36] Q2 (b8 [1,0,3] Q2)<|b8 [1,0,3] Q2) λx7=>aZ [41] Q2 (HC hr2 hF2<|cA Q2)<|LW () [1,3,24,25,26,43,44] (λ(p:Int×(List Bool)) (_:Unit)=>[(45,I p.1)]) [1,0] [0] (λp _=>[.box 1 (aB p.2)]) Out.brk [1,3,24,25,26] (λ(x12:(List Bool)) (_:Unit)=>[]) [0] (λx12 _=>[.box 1 (aB x12)]) Q Q (λhF4 ⟨x10,x11⟩ _ hr4=>aZ [46] Q2 (WT Q h4 Q λx13=>dX 0 5 (tE x10 x11 x13) [1,3,7,24,25,26,43,44,45] 56 [1,0] Q (c0 Q (λ_=>zZ) λx16=>fV [51,52] Q2 (b8 [1,0] Q2)<|λhG4=>qia underlying300 sizeOf4 Q Q Q Q hG4 λha2 hG4 b2 z2=>qal (l:=x11) 3 ha2 Q Q Q Q Q Q hG4 λx17 hG4=>wi hG4<|b8 [1,0] Q2) λx14=>aZ [56] Q2 (HC hr4 hF4<|HC hr2 hF2<|cA Q2)<|λhG4=>qia underlying300 sizeOf4 Q Q Q Q hG4 λha1 hG4 b1 z1=>qas (l:=x11) (u:=true) 2 ha1 Q Q Q Q Q Q Q Q Q hG4 λx15 hG4=>wi hG4<|CS [1,0] Q)<|wY [0,1] Q) λx12 _=>CS [0,1] Q)<|wY [] Q) λ() _=>cA Q2
theorem ZM:V0 prog U 437 (KY w_ c) [I w_,I c] I:=
 b7 call437 func437 Q Q2<|dX 0 0 (GR w_ c) [0,1] 12 [] Q (c0 Q (λ_=>gT) λx2=>fV [7,8] Q2 (b8 [] Q2)<|c0 Q (λ_=>mR) λx3=>b8 [] Q2) λx1=>aZ [12] Q2 (cA Q2)<|cA Q2
theorem PM{s:aW}{b0:Nat×Nat}:VS prog U 438 (vW s) [.p 0 0] [b0] [.box 0 [.h s1 s.aR.length],ow s1 (s.aR:List Int)] (λr (y:AC)=>I r.1) (λr y=>[.box 0 [.h y r.2.aR.length],ow y r.2.aR]):=
 b7 call438 func438 Q Q2<|aZ [12] Q2 (dL s1 [0,1] Q2)<|gZ oI 1 Q3 λx1 h1 _ h2=>λhF=>fM 1 h2 h1 Q5<|cqS oI 2 [] h1 () Q9<|cpc 5 Q Q λhc1=>a8W hc1 Q Q Q Q Q Q Q hF λhF h3=>sR Q<|pmR 5 ((bC ((s.aR.length:Int)-1)).toNat) ((bC ((s.aR.length:Int)-1)).toNat) Q Q h3 Q<|l6 ⟨(AC.sub s1 1 0).a,(bC ((s.aR.length:Int)-1)).toNat⟩ [0,5] hF Q2 Q4
theorem aHF{l:aD}(h1:bU U s1 l.Global)(h2:bU U s2 l.Own):VS prog U 381 (JZ l w_ c) [.g [.h s1 l.Global.length,.h s2 l.Own.length],I w_,I c] [] [] (λr (y:AC×AC)=>.t [.g [.h y.1 r.1.Global.length,.h y.2 r.1.Own.length],I r.2]) (λr y=>[ow y.1 r.1.Global,ow y.2 r.1.Own]):=
 b7 call381 func381 Q Q2<|c1 Q (λh=>iT (h.a h1) (h.a h2)) λx1 s3=>c0 Q (λ_=>ZM) λx2=>dX 0 3 (AS x1 x2) [6,8,9] 22 [1,2,3,4] Q (c0 Q (λh=>EY (h.a h1) (h.a h2)) λx6=>fV [18,19] Q2 (b8 [1,2,3,4] Q2)<|b8 [1,2,3,4] Q2) λx3=>aZ [22] Q2 (dL (s3.1,s3.2) [1,2] Q2)<|gZ kV 2 Q3 λx4 h3 s4 h4=>λhF=>fM 3 h4 h3 Q5<|wi hF<|jN 5 3 0 1 [7] Q5 (λ_=>PM) λx5 s5=>λhF=>sR Q<|jB kV 4 [8] [25] x5.2 s5 Q8<|kE s3.2 bV.symm [(29,1)] [(0,1),(3,1)] Q3<|fR Q2<|l6 (s3.1,s3.2) [1,9] hF Q2 Q4
theorem ZN{l:aD}(h1:bU U s1 l.Global)(h2:bU U s2 l.Own):VS prog U 382 (AT l c) [.g [.h s1 l.Global.length,.h s2 l.Own.length],I c] [] [] (λr (y:AC×AC)=>.t [.g [.h y.1 r.1.Global.length,.h y.2 r.1.Own.length],I r.2]) (λr y=>[ow y.1 r.1.Global,ow y.2 r.1.Own]):=
 b7 call382 func382 Q Q2<|c1 Q (λh=>iT (h.a h1) (h.a h2)) λx1 s3=>dX 0 3 (rU c x1) [1,4,6] 17 [1,2,3,4] Q (c0 Q (λh=>EY (h.a h1) (h.a h2)) λx5=>fV [12,13] Q2 (b8 [1,2,3,4] Q2)<|c0 Q (λ_=>mR) λx6=>b8 [1,2,3,4] Q2) λx2=>aZ [17] Q2 (dL (s3.1,s3.2) [1,2] Q2)<|gZ kV 1 Q3 λx3 h3 s4 h4=>λhF=>fM 3 h4 h3 Q5<|wi hF<|jN 5 3 0 1 [7] Q5 (λ_=>PM) λx4 s5=>λhF=>sR Q<|jB kV 4 [8] [20] x4.2 s5 Q8<|kE s3.1 bV.symm [(24,0)] [(0,0),(3,0)] Q3<|fR Q2<|l6 (s3.1,s3.2) [9,2] hF Q2 Q4
theorem LB{v:Int}(h1:bU U s1 s):V0 prog U 319 (l4 s v) [.h s1 s.length,I v] I:=
 b7 call319 func319 Q Q2<|LX 8 [0,1,7] [] Out.brk [] [] Q Q (λhF1 x2 hr1=>aZ [9] Q2 (WT Q h1 Q λx3=>aZ [16] Q2 (HC hr1 hF1<|cA Q2)<|CS [] Q)<|wY [] Q)<|cA Q2
theorem fP{b:List Int}{at_:Int}{text:List UInt8}:VS prog U 321 (lT b at_ text) [.h s1 b.length,I at_,.s text] [] [ow s1 (b:List Int)] (λr (y:Unit)=>.t []) (λr y=>[.o (eK [AC.v s1 b.length] r)]):=
 b7 call321 func321 Q Q2<|LW () [1,2,8] (λ(p:(List Int)×Int) (_:Unit)=>[(0,.h s1 p.1.length),(9,I p.2)]) [0] [] (λp _=>[ow s1 (p.1:List Int)]) id [] (λ(x5:(List Int)) (_:Unit)=>[(0,.h s1 x5.length)]) [] (λx5 _=>[ow s1 (x5:List Int)]) Q Q (λhF1 ⟨x3,x4⟩ _ hr1=>λhG1=>nd hG1 λhl3 hG1=>wi hG1<|aZ [10] Q2 (λhG1=>qsi Q Q Q Q Q hG1 λx6 _ hG1=>wi hG1<|gZ oI 0 Q3 λx7 h1 _ h2=>λhG1=>fM 0 h2 h1 Q5<|sF Q<|jB oI 1 [] [0,12] (x6.toNat:Int) () Q8<|nxR () [4] hG1 Q)<|wY [0] Q) λx5 _=>λhF=>nd hF λhl2 hF=>sF Q<|pnR 0 hl2 Q<|l6 () [0] hF Q2 Q4
theorem aHG{width:Int}:V0 prog U 404 (xO width) [I width] .b:=
 b7 call404 func404 Q Q2<|c0 Q (λ_=>bY) λx1=>cA Q2
theorem dI{width:Int}:V0 prog U 323 (kS n width) [I n,I width] .s:=
 b7 call323 func323 Q Q2<|dX 0 0 (tZ n width) [0,1] 21 [] Q (c0 Q (λ_=>aHG) λx10=>fV [9,10] Q2 (b8 [] Q2)<|fV [12,13,14] Q2 (b8 [] Q2)<|λhF=>bAJ Q Q Q Q hF λhF=>wi hF<|b8 [] Q2) λx1=>aZ [21] Q2 (cA Q2)<|λhF=>mks (0:UInt8) aVP (λw=>YT Q w) Q7 hF λhF s1=>wi hF<|LW () [] (λ(p:Int×(List UInt8)×Int) (_:Unit)=>[(0,I p.1),(5,.h s1 p.2.1.length),(6,I p.2.2)]) [0] [] (λp _=>[ow s1 (p.2.1:List UInt8)]) id [] (λ(x8:(List UInt8)) (_:Unit)=>[(5,.h s1 x8.length)]) [] (λx8 _=>[ow s1 (x8:List UInt8)]) Q Q (λhF2 ⟨x5,x6,x7⟩ _ hr2=>aZ [27] Q2 (gZ oU 0 Q3 λx9 h1 _ h2=>λhG2=>fM 0 h2 h1 Q5<|sF Q<|jB oU 1 [] [5,30] (u8 x5) () Q8<|nxR () [4] hG2 Q)<|wY [0] Q) λx8 _=>λhF=>qbo 0 Q Q Q Q Q Q Q<|wi hF<|cA Q2
theorem A8(h1:bU U s1 h.Bytes)(h2:bU U s2 h.Class):VS prog U 330 (uA h) [.g [.h s1 h.Bytes.length,.h s2 h.Class.length]] [] [] (λr (y:AC×AC)=>.g [.h y.1 r.Bytes.length,.h y.2 r.Class.length]) (λr y=>[ow y.1 r.Bytes,ow y.2 r.Class]):=
 b7 call330 func330 Q Q2<|dM aC [0] Q<|c1 Q (λh=>sJ (h.a h1)) λx1 s3=>c1 Q (λh=>sJ (h.a h2)) λx2 s4=>dL (s3,s4) [2,3] Q2
theorem QY{f:(Int->Option Bool)}(h1:bU U s1 s)(h_f:YS prog U (cI:FI Int) .b g_f cap_f f):V0 prog U 413 (vX s f) [.h s1 s.length,.k (.func (.func g_f) #[] cap_f.toArray)] I:=
 b7 call413 func413 Q Q2<|LX 8 [0,1,7] [] Out.brk [] [] Q Q (λhF1 x2 hr1=>aZ [9] Q2 (WT Q h1 Q λx3=>λhG1=>fa1 h_f x3 () Q Q Q Q Q trivial hG1 λx4 _ hG1=>wi hG1<|aZ [16] Q2 (HC hr1 hF1<|cA Q2)<|CS [] Q)<|wY [] Q)<|cA Q2
theorem m8{f:(Int->Option Bool)}(h1:bU U s1 s)(h_f:YS prog U (cI:FI Int) .b g_f cap_f f):V0 prog U 339 (gJ s f) [.h s1 s.length,.k (.func (.func g_f) #[] cap_f.toArray)] .b:=
 b7 call339 func339 Q Q2<|c0 Q (λh=>QY (h.a h1) (h.u1 h_f)) λx1=>cA Q2
theorem aKA:V0 prog U 477 (UH x) [I x] .b:=
 b7 call477 func477 Q Q2<|c0 Q (λ_=>bY) λx1=>cA Q2
theorem aBB:V0 prog U 476 (D3 x) [I x] .b:=
 b7 call476 func476 Q Q2<|c0 Q (λ_=>aKA) λx1=>cA Q2
theorem aHH{b:List Int}(h1:bU U s1 b):V0 prog U 458 (J0 b) [.h s1 b.length] .b:=
 b7 call458 func458 Q Q2<|dX 0 0 AU [] 2 [] Q (fV [5,6] Q2 (c0 Q (λh=>m8 (h.a h1) (aVM call476 λ_=>aBB)) λx2=>b8 [] Q2)<|b8 [] Q2) λx1=>cA Q2
theorem aDZ:V0 prog U 459 (GS c) [I c] .b:=
 b7 call459 func459 Q Q2<|c0 Q (λ_=>bY) λx1=>cA Q2
theorem W5(h1:bU U s1 h.Bytes)(h2:bU U s2 h.Class):V0 prog U 409 (HI h) [.g [.h s1 h.Bytes.length,.h s2 h.Class.length]] .b:=
 b7 call409 func409 Q Q2<|dX 0 1 qH [] 2 [] Q (fV [6,7] Q2 (c0 Q (λh=>aHH (h.a h1)) λx2=>fV [10,11,12] Q2 (fV [16,17,18] Q2 (c0 Q (λh=>m8 (h.a h2) (aVM call459 λ_=>aDZ)) λx3=>b8 [] Q2)<|b8 [] Q2)<|b8 [] Q2)<|b8 [] Q2) λx1=>cA Q2
theorem wK{b:List Int}{at_ width:Int}(h1:bU U s1 b):V0 prog U 400 (oF b at_ width) [.h s1 b.length,I at_,I width] I:=
 b7 call400 func400 Q Q2<|λhF=>aQ4 Q Q Q Q Q h1 Q Q Q hF λhF s2 h2=>wi hF<|LW () [15,16] (λ(p:Int×Int) (_:Unit)=>[(7,I p.1),(17,I p.2)]) [] [] (λp _=>[]) id [] (λ(x5:Int) (_:Unit)=>[(7,I x5)]) [] (λx5 _=>[]) Q Q (λhF1 ⟨x3,x4⟩ _ hr1=>aZ [18] Q2 (WT Q h2 Q λx6=>CS [] Q)<|wY [] Q) λx5 _=>cA Q2
theorem IJ:V0 prog U 446 (uB c) [I c] I:=
 b7 call446 func446 Q Q2<|c0 Q (λ_=>mR) λx1=>aZ [5] Q2 (cA Q2)<|c0 Q (λ_=>OB) λx2=>cA Q2
theorem qU:V0 prog U 445 (oG c) [I c] I:=
 b7 call445 func445 Q Q2<|c0 Q (λ_=>mR) λx1=>aZ [5] Q2 (cA Q2)<|c0 Q (λ_=>IJ) λx2=>λhF=>a8P Q Q Q Q hF λhF=>wi hF<|cA Q2
theorem aD0:V0 prog U 478 (GU x) [I x] .b:=
 b7 call478 func478 Q Q2<|cA Q2
theorem W6{b:List Int}(h1:bU U s1 b):V0 prog U 460 (HJ b) [.h s1 b.length] .b:=
 b7 call460 func460 Q Q2<|c0 Q (λh=>m8 (h.a h1) (aVM call478 λ_=>aD0)) λx1=>cA Q2
theorem aKB{page:Int}(h1:bU U s1 h.Bytes)(h2:bU U s2 h.Class):V0 prog U 410 (M7 h page) [.g [.h s1 h.Bytes.length,.h s2 h.Class.length],I page] .b:=
 b7 call410 func410 Q Q2<|dM aC [0] Q<|WT Q h2 Q λx1=>λhF=>aQ4 Q Q Q Q Q h1 Q Q Q hF λhF s3 h3=>wi hF<|aZ [22] Q2 (c0 Q (λh=>W6 (h.a h3)) λx2=>cA Q2)<|dX 0 2 (i5 h page x1) [5,6] 49 [] Q (dM aC [0,1] Q<|WT Q h3 Q λx10=>fV [28,29] Q2 (b8 [] Q2)<|WT Q h3 Q λx11=>fV [34,35,36] Q2 (b8 [] Q2)<|WT Q h3 Q λx12=>c0 Q (λ_=>qU) λx13=>fV [42,43,44] Q2 (b8 [] Q2)<|λhF=>aQ4 Q Q Q Q Q h3 Q Q Q hF λhF s4 h4=>wi hF<|c0 Q (λh=>W6 (h.a h4)) λx14=>b8 [] Q2) λx3=>aZ [49] Q2 (cA Q2)<|c0 Q (λ_=>qU) λx4=>LX 52 [5,6,51] [] Out.brk [] [] Q Q (λhF2 x6 hr2=>aZ [53] Q2 (c0 Q (λ_=>IJ) λx7=>c0 Q (λh=>wK (h.a h3)) λx8=>c0 Q (λ_=>bY) λx9=>aZ [63] Q2 (HC hr2 hF2<|cA Q2)<|CS [] Q)<|wY [] Q)<|cA Q2
theorem W7(h1:bU U s1 h.Bytes)(h2:bU U s2 h.Class):V0 prog U 334 (HK h) [.g [.h s1 h.Bytes.length,.h s2 h.Class.length]] .b:=
 b7 call334 func334 Q Q2<|c0 Q (λh=>W5 (h.a h1) (h.a h2)) λx1=>aZ [6] Q2 (cA Q2)<|LX 7 [1] [0] Out.brk [] [] Q Q (λhF1 x3 hr1=>aZ [8] Q2 (c0 Q (λh=>aKB (h.a h1) (h.a h2)) λx4=>aZ [13] Q2 (HC hr1 hF1<|cA Q2)<|CS [0] Q)<|wY [] Q)<|cA Q2
theorem sK{slot:Int}:V0 prog U 398 (vZ slot c) [I slot,I c] I:=
 b7 call398 func398 Q Q2<|dX 0 0 (zO slot c) [0,1] 19 [] Q (c0 Q (λ_=>zZ) λx3=>fV [7,8] Q2 (b8 [] Q2)<|c0 Q (λ_=>mR) λx4=>fV [11,12,13] Q2 (b8 [] Q2)<|c0 Q (λ_=>qU) λx5=>b8 [] Q2) λx1=>aZ [19] Q2 (cA Q2)<|c0 Q (λ_=>IJ) λx2=>cA Q2
theorem aKC{page index:Int}:V0 prog U 468 (M8 page index) [I page,I index] I:=
 b7 call468 func468 Q Q2<|dX 0 0 (D4 page index) [0,1] 12 [] Q (c0 Q (λ_=>bY) λx2=>fV [7,8] Q2 (b8 [] Q2)<|c0 Q (λ_=>bY) λx3=>b8 [] Q2) λx1=>aZ [12] Q2 (cA Q2)<|cA Q2
theorem aM7(h1:bU U s1 h.Bytes)(h2:bU U s2 h.Class):VS prog U 440 (FV h c) [.g [.h s1 h.Bytes.length,.h s2 h.Class.length],I c] [] [] (λr (y:AC×AC×AC)=>.t [.g [.h y.1 r.1.Bytes.length,.h y.2.1 r.1.Class.length],.h y.2.2 r.2.length]) (λr y=>[ow y.1 r.1.Bytes,ow y.2.1 r.1.Class,ow y.2.2 r.2]):=
 b7 call440 func440 Q Q2<|c1 Q (λh=>A8 (h.a h1) (h.a h2)) λx1 s3=>λhF=>lt0 (O:=Int) bB Q4 λs4=>wi hF<|c0 Q (λh=>LB (h.a h2)) λx2=>dX 0 3 (zP c x1 x2) [1,4,6,7,8] 28 [4,1,2,3,5] Q (c0 Q (λh=>W7 (h.a h1) (h.a h2)) λx21=>fV [19,20] Q2 (b8 [4,1,2,3,5] Q2)<|c0 Q (λ_=>mR) λx22=>fV [23,24,25] Q2 (b8 [4,1,2,3,5] Q2)<|b8 [4,1,2,3,5] Q2) λx3=>aZ [28] Q2 (dL (s3.1,s3.2,s4) [2,3,0] Q2)<|gZ oI 3 Q3 λx4 h3 _ h4=>λhF=>fM 3 h4 h3 Q5<|wi hF<|cG 0 4 (NZ c x1 x2) [1,4,6,7,8] (λ(x5:(List Int)) (_:Unit)=>[]) [0,1] (λx5 _=>[ow s3.1 (x5:List Int),ow s3.2 (x1.Class.set x2.toNat c:List Int),.box 2 [.h s3.1 x5.length,.h s3.2 (x1.Class.set x2.toNat c).length]]) Q (dM aC [1,7] Q<|λhF=>nd hF λhA4 hF=>bd hF λx20 hA5 hF=>dJ Q2 (cpc 2 Q Q λhc2=>have hq9:=rn hA4;YW hc2 Q6 hq9 λhq9 h6=>z8 hA5 Q (λ_=>qU)<|ltK oI () ([171,c,x20]:List Int) bB Q Q Q Q Q Q Q Q Q Q (λ_=>Q) λs11=>cpy (xs:=([171,c,x20]:List Int)) 2 ((bC (x2*64)).toNat) h6 (λh=>(h.o 8 Q)) Q Q Q Q Q Q Q Q<|rr s3.1 (fB (xs:=([171,c,x20]:List Int)) h6.1).symm [37] [] [(4,0)] Q Q Q Q<|sF Q<|jB oI 5 [] [32] c () Q8<|kE s3.2 bV.symm [] [(4,1)] Q3<|fR Q2<|gI (p:=(cO x1.Bytes ((bC (x2*64)).toNat) ([171,c,x20]:List Int))) () [2,9,4,0,1] hF Q) (z8 hA5 Q (λ_=>qU)<|dJ Q2 (cpc 2 Q Q λhc3=>have hq12:=rn hA4;YW hc3 Q6 hq12 λhq12 h7=>ltK oI () ([171,c,x20]:List Int) bB Q Q Q Q Q Q Q Q Q Q (λ_=>Q) λs12=>cpy (xs:=([171,c,x20]:List Int)) 2 ((bC (x2*64)).toNat) h7 (λh=>(h.o 8 Q)) Q Q Q Q Q Q Q Q<|rr s3.1 (fB (xs:=([171,c,x20]:List Int)) h7.1).symm [37] [] [(4,0)] Q Q Q Q<|sF Q<|jB oI 5 [] [32] c () Q8<|kE s3.2 bV.symm [] [(4,1)] Q3<|fR Q2<|gI (p:=(cO x1.Bytes ((bC (x2*64)).toNat) ([171,c,x20]:List Int))) () [2,9,4,0,1] hF Q) (ltK oI () ([171,c,x20]:List Int) bB Q Q Q Q Q Q Q Q Q Q (λ_=>Q) λs13=>cpc 2 Q Q λhc4=>have hq13:=rn hA4;YW hc4 Q6 hq13 λhq13 h8=>cpy (xs:=([171,c,x20]:List Int)) 2 ((bC (x2*64)).toNat) h8 (λh=>(h.o 8 Q)) Q Q Q Q Q Q Q Q<|rr s3.1 (fB (xs:=([171,c,x20]:List Int)) h8.1).symm [37] [] [(4,0)] Q Q Q Q<|sF Q<|jB oI 5 [] [32] c () Q8<|kE s3.2 bV.symm [] [(4,1)] Q3<|fR Q2<|gI (p:=(cO x1.Bytes ((bC (x2*64)).toNat) ([171,c,x20]:List Int))) () [2,9,4,0,1] hF Q))) λx5 _=>c0 Q (λ_=>qU) λx6=>LW s4 [1,4,6,8,47] (λ(p:(List Int)×Int×(List Int)) (s6:AC)=>[(7,.h s6 p.1.length),(48,I p.2.1)]) [3,0,2,4,1] [4,1] (λp s6=>[ow s6 (p.1:List Int),ow s3.1 (p.2.2:List Int),.box 2 [.h s3.1 p.2.2.length,.h s3.2 (x1.Class.set x2.toNat c).length]]) id [4,6] (λ(p:(List Int)×(List Int)) (s7:AC)=>[(7,.h s7 p.1.length)]) [4,1] (λp s7=>[ow s7 (p.1:List Int),ow s3.1 (p.2:List Int),.box 2 [.h s3.1 p.2.length,.h s3.2 (x1.Class.set x2.toNat c).length]]) Q Q (λhF3 ⟨x10,x11,x12⟩ s6 hr3=>aZ [49] Q2 (c0 Q (λ_=>aKC) λx15=>cG 0 4 (NY x10 x11 x15) [1,4,6,7,8,10,47,48] (λ(x16:(List Int)) (_:Unit)=>[]) [0,3,4] (λx16 _=>[ow s3.1 (x16:List Int),.box 2 [.h s3.1 x16.length,.h s3.2 (x1.Class.set x2.toNat c).length]]) Q (dM aC [3] Q<|λhG3=>bd hG3 λx17 hA1 hG3=>bd hG3 λx18 hA2 hG3=>bd hG3 λx19 hA3 hG3=>dJ Q2 (z8 hA1 Q (λ_=>sK)<|z8 hA2 Q (λ_=>dI)<|have hq3:=rb hA3;wi hq3<|gK [1] Q4 (λ_=>fP) λu3 _=>λhq3=>un 5 [55] [] [(2,0)] Q6 λhl3=>match u3,hq3 with|_,rfl=>wi hG3<|b8 (p:=(x19)) [5,2,0,3,4] Q2) (z8 hA1 Q (λ_=>sK)<|dJ Q2 (z8 hA2 Q (λ_=>dI)<|have hq6:=rb hA3;wi hq6<|gK [1] Q4 (λ_=>fP) λu6 _=>λhq6=>un 5 [55] [] [(2,0)] Q6 λhl4=>match u6,hq6 with|_,rfl=>wi hG3<|b8 (p:=(x19)) [5,2,0,3,4] Q2) (z8 hA2 Q (λ_=>dI)<|have hq8:=rb hA3;wi hq8<|gK [1] Q4 (λ_=>fP) λu8 _=>λhq8=>un 5 [55] [] [(2,0)] Q6 λhl5=>match u8,hq8 with|_,rfl=>wi hG3<|b8 (p:=(x19)) [5,2,0,3,4] Q2))) λx16 _=>λhG3=>lt1 Q bB Q4 λs8=>ap 2 bB Q Q Q Q Q Q Q (λh=>(h.o 5 Q)) Q Q hG3 λhG3 s9=>wi hG3<|nxW s9 [2,0,1,3,4] Q)<|bkW s6 [0,1,2,3,4] Q) λ⟨x13,x14⟩ s7=>dL (s3.1,s3.2,s7) [1,4,0] Q2
theorem aHI(h1:bU U s1 m.Heap.Bytes)(h2:bU U s2 m.Heap.Class)(h3:bU U s3 m.aD.Global)(h4:bU U s4 m.aD.Own):VS prog U 383 (J1 m c) [.g (gM m s1 s2 s3 s4),I c] [] [] (λr (y:X8)=>.t [.g (yM r.1 y),I r.2]) (λr y=>(zM r.1 y [])):=
 b7 call383 func383 Q Q2<|c1 Q (λh=>aM7 (h.a h1) (h.a h2)) λx1 s5=>cG 0 4 (IA c x1) [1,4,7] (λ(x2:Mem) (u:AC×AC)=>[(8,.p 3 0)]) [4,1] (λx2 u=>(oM x2 s5.1 s5.2.1 u.1 u.2 [.box 3 (gM x2 s5.1 s5.2.1 u.1 u.2)])) Q (dM aC [0,1,5] Q<|λhF=>bd hF λx7 hA1 hF=>dJ Q2 (LS hA1 Q (λh=>iT (h.a h3) (h.a h4)) λs11=>wi hF<|lI (p:=((⟨x1.1,x7⟩:Mem))) (s11.1,s11.2) [2,3,6,7,8,4,1] Q2) (LS hA1 Q (λh=>iT (h.a h3) (h.a h4)) λs12=>wi hF<|lI (p:=((⟨x1.1,x7⟩:Mem))) (s12.1,s12.2) [2,3,7,8,6,4,1] Q2)) λx2 ⟨s6,s7⟩=>aZ [23] Q2 (dL (s5.1,s5.2.1,s6,s7) [0,1,2,3] Q2)<|dM aC [4,6] Q<|gZ kV 2 Q3 λx3 h5 s8 h6=>λhF=>fM 4 h6 h5 Q5<|cpc 5 Q Q λhc1=>YW hc1 Q6 hF λhF h7=>ap 10 bB Q Q Q Q Q Q Q (λh=>((h.o 5 Q).sub (MH h7.1 h7.2) h7)) Q Q hF λhF s9=>fM 4 h6 h5 Q5<|wi hF<|cG 0 5 (λ(p:Int×Mem)=>H9 p.1 p.2) [4] (λ(p:Int×Mem) (_:Unit)=>[(5,I p.1)]) [] (λp _=>(oM p.2 s5.1 s5.2.1 s6 s7 [.box 1 (gM p.2 s5.1 s5.2.1 s6 s7)])) Q (dM aC [4,9] Q<|gZ oI 5 Q3 λx6 h8 _ h9=>λhF=>fM 5 h9 h8 Q5<|(by refine dJ Q2 ?_ ?_<;>exact sF Q<|fC oI 11 [] h8 () Q7<|jB kV 7 [10] [27,31] (⟨x3.aR++((x1.2.take x1.2.length).drop ((1:Int).toNat))⟩:aW) s9 Q8<|kE s6 bV.symm [(41,2)] [(4,2),(6,2)] Q3<|fR Q2<|gI (p:=(x6,(⟨x2.Heap,(⟨x2.aD.Global.set c.toNat (⟨x3.aR++((x1.2.take x1.2.length).drop ((1:Int).toNat))⟩:aW),x2.aD.Own⟩:aD)⟩:Mem))) () [0,1,15,3,6] hF Q)) λ⟨x4,x5⟩ _=>dL (s5.1,s5.2.1,s6,s7) [0,1,2,3] Q2
theorem mS{slot:Int}(h1:bU U s1 h.Bytes)(h2:bU U s2 h.Class):V0 prog U 312 (jY h slot) [.g [.h s1 h.Bytes.length,.h s2 h.Class.length],I slot] I:=
 b7 call312 func312 Q Q2<|dX 0 1 (AV h slot) [1,2] 18 [0] Q (c0 Q (λ_=>zZ) λx3=>fV [7,8] Q2 (b8 [0] Q2)<|WT Q h2 Q λx4=>c0 Q (λ_=>sK) λx5=>b8 [0] Q2) λx1=>aZ [18] Q2 (cA Q2)<|WT Q h2 Q λx2=>cA Q2
theorem LC{slot:Int}(h1:bU U s1 h.Bytes)(h2:bU U s2 h.Class):V0 prog U 415 (D5 h slot) [.g [.h s1 h.Bytes.length,.h s2 h.Class.length],I slot] I:=
 b7 call415 func415 Q Q2<|c0 Q (λh=>W5 (h.a h1) (h.a h2)) λx1=>aZ [7] Q2 (cA Q2)<|c0 Q (λh=>mS (h.a h1) (h.a h2)) λx2=>cA Q2
theorem KE{slot:Int}(h1:bU U s1 h.Bytes)(h2:bU U s2 h.Class):V0 prog U 344 (BG h slot) [.g [.h s1 h.Bytes.length,.h s2 h.Class.length],I slot] I:=
 b7 call344 func344 Q Q2<|c0 Q (λh=>LC (h.a h1) (h.a h2)) λx1=>aZ [10] Q2 (cA Q2)<|dM aC [0] Q<|c0 Q (λ_=>sK) λx2=>c0 Q (λh=>wK (h.a h1)) λx3=>cA Q2
theorem aD1{slot gen:Int}:V0 prog U 441 (N0 slot gen) [I slot,I gen] I:=
 b7 call441 func441 Q Q2<|dX 0 0 (xP slot gen) [0,1] 12 [] Q (c0 Q (λ_=>zZ) λx2=>fV [7,8] Q2 (b8 [] Q2)<|c0 Q (λ_=>bY) λx3=>b8 [] Q2) λx1=>aZ [12] Q2 (cA Q2)<|cA Q2
theorem aD2{slot:Int}(h1:bU U s1 m.Heap.Bytes)(h2:bU U s2 m.Heap.Class)(h3:bU U s3 m.aD.Global)(h4:bU U s4 m.aD.Own):V0 prog U 384 (GW m slot) [.g (gM m s1 s2 s3 s4),I slot] I:=
 b7 call384 func384 Q Q2<|c0 Q (λh=>KE (h.a h1) (h.a h2)) λx1=>c0 Q (λ_=>aD1) λx2=>cA Q2
theorem US{s:Sub}{b:aA}{b0 b1:Nat×Nat}:VS prog U 302 (rV s b w_) [.p 0 0,.p 1 0,I w_] [b0,b1] ([.box 0 (VY s),.box 1 (gB b s1 s2 s3 s4 s5 s6 s7)]++(CN b s1 s2 s3 s4 s5 s6 s7 [])) (λr (y:X8)=>.t []) (λr y=>([.box 0 (VY r.1),.box 1 (gB r.2 y.1 y.2.1 y.2.2.1 y.2.2.2 s5 s6 s7)]++(CN r.2 y.1 y.2.1 y.2.2.1 y.2.2.2 s5 s6 s7 []))):=
 b7 call302 func302 Q Q2<|c0 Q (λ_=>aHE) λx1=>aZ [14] Q2 (jN 0 0 0 10 [] Q5 (λ_=>cS) λx2 _=>dL (s1,s2,s3,s4) [0,1,2,3,4,5,6,7,8] Q2)<|cG 1 2 (λ(p:Int×aA)=>iA s p.1 p.2) [0,1] (λ(p:Int×aA) (u:X8)=>[(7,I p.1)]) [0] (λp u=>(CN p.2 u.1 u.2.1 u.2.2.1 u.2.2.2 s5 s6 s7 [.box 1 (gB p.2 u.1 u.2.1 u.2.2.1 u.2.2.2 s5 s6 s7)])) Q (aZ [23,24] Q2 (c1 Q (λh=>aHF (h.o 4 Q) (h.o 5 Q)) λx8 s12=>lI (p:=(x8.2,({b with Mem:=(⟨b.Mem.Heap,x8.1⟩:Mem)}:aA))) (s1,s2,s12.1,s12.2) [2,3,9,10,6,7,8,1,0] Q2)<|dX 0 2 (mU s b x1) [0,1,6,20] 40 [0,2,3,4,5,6,7,8,1] Q (aZ [40,41] Q2 (b8 [0,2,3,4,5,6,7,8,1] Q2)<|b8 [0,2,3,4,5,6,7,8,1] Q2) λx9=>aZ [40] Q2 (c1 Q (λh=>ZN (h.o 3 Q) (h.o 4 Q)) λx10 s13=>lI (p:=(x10.2,({b with Mem:=(⟨b.Mem.Heap,x10.1⟩:Mem)}:aA))) (s1,s2,s13.1,s13.2) [1,2,9,10,5,6,7,8,0] Q2)<|aZ [57,58] Q2 (c1 Q (λh=>aHI (h.o 1 Q) (h.o 2 Q) (h.o 3 Q) (h.o 4 Q)) λx11 s14=>lI (p:=(x11.2,({b with Mem:=x11.1}:aA))) s14 [9,10,11,12,5,6,7,8,0] Q2)<|jN 0 0 0 10 [] Q5 (λ_=>cS) λx12 _=>dL (s1,s2,s3,s4) [0,8,1,2,3,4,5,6,7] Q2) λ⟨x3,x4⟩ ⟨s8,s9,s10,s11⟩=>aZ [78,80] Q2 (c0 Q (λh=>aD2 (h.o 0 Q) (h.o 1 Q) (h.o 2 Q) (h.o 3 Q)) λx5=>jN 8 0 0 10 [] Q5 (λ_=>cS (s:=({s with Out:=x5}:Sub))) λx6 _=>E9 (s8,s9,s10,s11) [8,7,0,1,2,3,4,5,6] Q Q)<|aZ [92,97] Q2 (jN 8 0 0 10 [] Q5 (λ_=>cS) λx7 _=>E9 (s8,s9,s10,s11) [8,7,0,1,2,3,4,5,6] Q Q)<|E9 (s8,s9,s10,s11) [8,7,0,1,2,3,4,5,6] Q Q
theorem OC{s:List bR}{f:(bR->Option Bool)}(h1:bU U s1 s)(h_f:YS prog U (QQ:FI bR) .b g_f cap_f f):V0 prog U 341 (rW s f) [.h s1 s.length,.k (.func (.func g_f) #[] cap_f.toArray)] I:=
 b7 call341 func341 Q Q2<|LX 8 [0,1,7] [] Out.brk [] [] Q Q (λhF1 x2 hr1=>aZ [9] Q2 (vB QQ Q h1 Q λx3 s2 h2=>λhG1=>fa1 h_f x3 s2 Q Q Q Q Q h2 hG1 λx4 _ hG1=>wi hG1<|aZ [16] Q2 (HC hr1 hF1<|cA Q2)<|CS [] Q)<|wY [] Q)<|cA Q2
theorem KF{s:List bR}{f:(bR->Option Bool)}(h1:bU U s1 s)(h_f:YS prog U (QQ:FI bR) .b g_f cap_f f):V0 prog U 238 (jL s f) [.h s1 s.length,.k (.func (.func g_f) #[] cap_f.toArray)] .b:=
 b7 call238 func238 Q Q2<|c0 Q (λh=>OC (h.a h1) (h.u1 h_f)) λx1=>cA Q2
theorem PN{s:List eA}{f:(eA->Option Bool)}(h1:bU U s1 s)(h_f:YS prog U (aLG:FI eA) .b g_f cap_f f):V0 prog U 342 (uG s f) [.h s1 s.length,.k (.func (.func g_f) #[] cap_f.toArray)] I:=
 b7 call342 func342 Q Q2<|LX 8 [0,1,7] [] Out.brk [] [] Q Q (λhF1 x2 hr1=>aZ [9] Q2 (vB aLG Q h1 Q λx3 _ _=>λhG1=>fa1 h_f x3 () Q Q Q Q Q trivial hG1 λx4 _ hG1=>wi hG1<|aZ [16] Q2 (HC hr1 hF1<|cA Q2)<|CS [] Q)<|wY [] Q)<|cA Q2
theorem LD{s:List eA}{f:(eA->Option Bool)}(h1:bU U s1 s)(h_f:YS prog U (aLG:FI eA) .b g_f cap_f f):V0 prog U 240 (j3 s f) [.h s1 s.length,.k (.func (.func g_f) #[] cap_f.toArray)] .b:=
 b7 call240 func240 Q Q2<|c0 Q (λh=>PN (h.a h1) (h.u1 h_f)) λx1=>cA Q2
theorem jE{h:Int}:V0 prog U 207 (iC h) [I h] .b:=
 b7 call207 func207 Q Q2<|dX 0 0 xQ [] 2 [] Q (c0 Q (λ_=>bY) λx2=>fV [4,5] Q2 (b8 [] Q2)<|b8 [] Q2) λx1=>cA Q2
theorem XY{r_:eA}{b0:Nat×Nat}:VS prog U 326 (qJ r_ k0) [.g [I r_.Handle,I r_.aO],.p 0 0] [b0] [.ro 0 [I k0]] (λr (_:Unit)=>.b r) (λ_ _=>[]):=
 b7 call326 func326 Q Q2<|dX 0 2 pI [] 3 [] Q (c0 Q (λ_=>jE) λx2=>fV [6,7] Q2 (b8 [] Q2)<|b8 [] Q2) λx1=>cA Q2
theorem aBC{own:bR}{b0:Nat×Nat}(h1:bU U s1 own.Rows):VS prog U 325 (D6 own k0) [.g [.h s1 own.Rows.length],.p 0 0] [b0] [.ro 0 [I k0]] (λr (_:Unit)=>.b r) (λ_ _=>[]):=
 b7 call325 func325 Q Q2<|λhF=>mf [0] Q Q Q<|wi hF<|aOX [0] Q Q Q Q (λh=>λhB=>LD (h.a h1) (aOW (cs:=[(0,[I k0])]) call326 hB Q λ_ _=>XY)) λx1=>cA Q2
theorem UT{slot:Int}(h1:bU U s1 l):V0 prog U 217 (D7 l slot) [.h s1 l.length,I slot] .b:=
 b7 call217 func217 Q Q2<|λhF=>mf [0] Q Q Q<|wi hF<|aOX [0] Q Q Q Q (λh=>λhB=>KF (h.a h1) (aOW (cs:=[(0,[I slot])]) call325 hB Q λ_ hy=>aBC hy)) λx1=>cA Q2
theorem FF{v:Int}(h1:bU U s1 s):V0 prog U 211 (lC s v) [.h s1 s.length,I v] .b:=
 b7 call211 func211 Q Q2<|c0 Q (λh=>LB (h.a h1)) λx1=>cA Q2
theorem SP{s:aW}{b0:Nat×Nat}(h1:bU U s1 s.aR):VS prog U 462 (o5 s k0) [.g [.h s1 s.aR.length],.p 0 0] [b0] [.ro 0 [I k0]] (λr (_:Unit)=>.b r) (λ_ _=>[]):=
 b7 call462 func462 Q Q2<|c0 Q (λh=>FF (h.a h1)) λx1=>cA Q2
theorem OD{s:List aW}{f:(aW->Option Bool)}(h1:bU U s1 s)(h_f:YS prog U (BS:FI aW) .b g_f cap_f f):V0 prog U 479 (rX s f) [.h s1 s.length,.k (.func (.func g_f) #[] cap_f.toArray)] I:=
 b7 call479 func479 Q Q2<|LX 8 [0,1,7] [] Out.brk [] [] Q Q (λhF1 x2 hr1=>aZ [9] Q2 (vB BS Q h1 Q λx3 s2 h2=>λhG1=>fa1 h_f x3 s2 Q Q Q Q Q h2 hG1 λx4 _ hG1=>wi hG1<|aZ [16] Q2 (HC hr1 hF1<|cA Q2)<|CS [] Q)<|wY [] Q)<|cA Q2
theorem uX{s:List aW}{f:(aW->Option Bool)}(h1:bU U s1 s)(h_f:YS prog U (BS:FI aW) .b g_f cap_f f):V0 prog U 463 (g7 s f) [.h s1 s.length,.k (.func (.func g_f) #[] cap_f.toArray)] .b:=
 b7 call463 func463 Q Q2<|c0 Q (λh=>OD (h.a h1) (h.u1 h_f)) λx1=>cA Q2
theorem W8{l:aD}{slot:Int}(h1:bU U s1 l.Global)(h2:bU U s2 l.Own):V0 prog U 414 (HL l slot) [.g [.h s1 l.Global.length,.h s2 l.Own.length],I slot] .b:=
 b7 call414 func414 Q Q2<|λhF=>mf [1] Q Q Q<|wi hF<|dX 0 2 D8 [] 4 [] Q (aOX [1] Q Q Q Q (λh=>λhB=>uX (h.a h1) (aOW (cs:=[(1,[I slot])]) call462 hB Q λ_ hy=>SP hy)) λx2=>fV [10,11] Q2 (b8 [] Q2)<|aOX [1] Q Q Q Q (λh=>λhB=>uX (h.a h2) (aOW (cs:=[(1,[I slot])]) call462 hB Q λ_ hy=>SP hy)) λx3=>b8 [] Q2) λx1=>cA Q2
theorem aHJ{slot:Int}(h1:bU U s1 m.Heap.Bytes)(h2:bU U s2 m.Heap.Class)(h3:bU U s3 m.aD.Global)(h4:bU U s4 m.aD.Own):V0 prog U 343 (J2 m slot) [.g (gM m s1 s2 s3 s4),I slot] I:=
 b7 call343 func343 Q Q2<|c0 Q (λh=>mS (h.a h1) (h.a h2)) λx1=>aZ [5,10] Q2 (cA Q2)<|c0 Q (λh=>W8 (h.a h3) (h.a h4)) λx2=>aZ [11,15] Q2 (cA Q2)<|c0 Q (λh=>KE (h.a h1) (h.a h2)) λx3=>aZ [16,21] Q2 (cA Q2)<|cA Q2
theorem OE{h:Int}(h1:bU U s1 m.Heap.Bytes)(h2:bU U s2 m.Heap.Class)(h3:bU U s3 m.aD.Global)(h4:bU U s4 m.aD.Own):V0 prog U 242 (CD m h) [.g (gM m s1 s2 s3 s4),I h] .b:=
 b7 call242 func242 Q Q2<|dX 0 1 v7 [] 4 [] Q (c0 Q (λ_=>jE) λx2=>fV [6,7] Q2 (c0 Q (λh=>aHJ (h.a h1) (h.a h2) (h.a h3) (h.a h4)) λx3=>fV [12,13,14] Q2 (c0 Q (λh=>KE (h.a h1) (h.a h2)) λx4=>b8 [] Q2)<|b8 [] Q2)<|b8 [] Q2) λx1=>cA Q2
theorem WA{s:List eA}(h1:bU U s1 s):VS prog U 333 (uR s) [.h s1 s.length] [] [] (λr (y:AC)=>.h y r.length) (λr y=>[ow y r]):=
 b7 call333 func333 Q Q2<|λhF=>eqn Q Q Q Q (λh2=>have hF:=cln h1 h2 hF;sR Q<|nV eA<|l6 ⟨none,0⟩ [0] hF Q2 Q4)<|lt0 (O:=eA) oT Q4 λs2=>ap 0 oT Q Q Q Q Q Q Q (λh=>(h.a h1)) Q Q hF λhF s3=>wi hF<|dL s3 [0] Q2
theorem yC(h1:bU U s1 l):VS prog U 229 (mJ l) [.h s1 l.length] [] [] (λr (y:AC)=>.h y r.length) (λr y=>[ow y r]):=
 b7 call229 func229 Q Q2<|λhF=>lt0 (O:=bR) HQ Q4 λs2=>wi hF<|LW s2 [7,8] (λ(p:(List bR)×Int) (s4:AC)=>[(3,.h s4 p.1.length),(9,I p.2)]) [0] [] (λp s4=>[ow s4 (p.1:List bR)]) id [] (λ(x5:(List bR)) (s5:AC)=>[(3,.h s5 x5.length)]) [] (λx5 s5=>[ow s5 (x5:List bR)]) Q Q (λhF1 ⟨x3,x4⟩ s4 hr1=>aZ [10] Q2 (vB QQ Q h1 Q λx6 s6 h2=>c1 Q (λh=>WA (h.a h2)) λx7 s7=>λhG1=>WR kW [3] ((⟨x7⟩:bR)) s7 HQ WS λs8=>apN 0 4 HQ Q Q Q9 hG1 λhG1 s9=>wi hG1<|nxW s9 [5] Q)<|bkW s4 [0] Q) λx5 s5=>dL s5 [0] Q2
theorem PO(h1:bU U s1 l):V0 prog U 35 (qK l) [.h s1 l.length] I:=
 b7 call35 func35 Q Q2<|LW () [6,7] (λ(p:Int×Int) (_:Unit)=>[(3,I p.1),(8,I p.2)]) [] [] (λp _=>[]) id [] (λ(x5:Int) (_:Unit)=>[(3,I x5)]) [] (λx5 _=>[]) Q Q (λhF1 ⟨x3,x4⟩ _ hr1=>aZ [9] Q2 (vB QQ Q h1 Q λx6 s2 h2=>CS [] Q)<|wY [] Q) λx5 _=>cA Q2
theorem LF(h1:bU U s1 l):V0 prog U 236 (xR l) [.h s1 l.length] .b:=
 b7 call236 func236 Q Q2<|aZ [10] Q2 (cA Q2)<|λhF=>qba [.l false,.l false,.l false,.l false,.l false,.l false,.l false,.l false,.l false,.l false,.l false,.l false,.l false,.l false,.l false,.l false,.l false,.l false,.l false,.l false,.l false,.l false,.l false,.l false] zeroValue300 underlying300 sizeOf4 Q Q Q Q Q Q<|wi hF<|LW () [0,3,12,13] (λ(p:Int×(List Bool)) (_:Unit)=>[(14,I p.1)]) [0] [] (λp _=>[.box 0 (aB p.2)]) Out.brk [0] (λ(_:Unit) (_:Unit)=>[]) [] (λ_ _=>[]) Q Q (λhF1 ⟨x3,x4⟩ _ hr1=>aZ [15] Q2 (vB QQ Q h1 Q λx6 s2 h2=>LW () [0,3,12,13,14,19,20] (λ(p:Int×(List Bool)) (_:Unit)=>[(21,I p.1)]) [0] [] (λp _=>[.box 0 (aB p.2)]) Out.brk [0,3,12,13,14] (λ(x11:(List Bool)) (_:Unit)=>[]) [] (λx11 _=>[.box 0 (aB x11)]) Q Q (λhF2 ⟨x9,x10⟩ _ hr2=>aZ [22] Q2 (vB aLG Q h2 Q λx12 _ _=>dX 0 5 (kU x9 x10 x12) [0,3,7,12,13,14,19,20,21] 41 [0,2] Q (c0 Q (λ_=>jE) λx15=>fV [28,29] Q2 (b8 [0,2] Q2)<|c0 Q (λ_=>bY) λx16=>fV [33,34,35] Q2 (b8 [0,2] Q2)<|λhG2=>qia underlying300 sizeOf4 Q Q Q Q hG2 λha2 hG2 b2 z2=>qal (l:=x10) 3 ha2 Q Q Q Q Q Q hG2 λx17 hG2=>wi hG2<|b8 [0,2] Q2) λx13=>aZ [41] Q2 (HC hr2 hF2<|HC hr1 hF1<|cA Q2)<|λhG2=>qia underlying300 sizeOf4 Q Q Q Q hG2 λha1 hG2 b1 z1=>qas (l:=x10) (u:=true) 2 ha1 Q Q Q Q Q Q Q Q Q hG2 λx14 hG2=>wi hG2<|CS [0] Q)<|wY [0] Q) λx11 _=>CS [0] Q)<|wY [] Q) λ() _=>c0 Q (λh=>PO (h.a h1)) λx5=>cA Q2
theorem aD3{h:Int}(h1:bU U s1 l):VS prog U 385 (GX l w_ h e_) [.h s1 l.length,I w_,I h,I e_] [] [] (λr (y:AC)=>.t [.h y r.1.length,.b r.2]) (λr y=>[ow y r.1]):=
 b7 call385 func385 Q Q2<|dX 0 0 (xS l w_ h e_) [0,1,2,3] 18 [] Q (c0 Q (λh=>LF (h.a h1)) λx7=>fV [13,14] Q2 (b8 [] Q2)<|c0 Q (λ_=>gT) λx8=>b8 [] Q2) λx1=>aZ [18] Q2 (c1 Q (λh=>yC (h.a h1)) λx2 s2=>dL s2 [0] Q2)<|c1 Q (λh=>yC (h.a h1)) λx3 s3=>gZ kW 0 Q3 λx4 h2 s4 h3=>λhF=>fM 0 h3 h2 Q5<|WR ES [] ((⟨h,e_⟩:eA)) () oT WS λs5=>ap 4 oT Q Q Q Q Q Q Q (λh=>(h.o 5 Q)) Q Q hF λhF s6=>fM 0 h3 h2 Q5<|ceS kW 1 [4] [10,22,23,25,37] (⟨x4.Rows++([(⟨h,e_⟩:eA)])⟩:bR) s6 Q10<|wi hF<|c0 Q (λh=>LF (h.o 6 Q)) λx5=>aZ [39] Q2 (c1 Q (λh=>yC (h.a h1)) λx6 s7=>dL s7 [7] Q2)<|dL s3 [6] Q2
theorem S8{s:Sub}{b:aA}{b0 b1:Nat×Nat}:VS prog U 303 (pJ s b w_) [.p 0 0,.p 1 0,I w_] [b0,b1] ([.box 0 (VY s),.box 1 (gB b s1 s2 s3 s4 s5 s6 s7)]++(CN b s1 s2 s3 s4 s5 s6 s7 [])) (λr (y:AC)=>.t []) (λr y=>([.box 0 (VY r.1),.box 1 (gB r.2 s1 s2 s3 s4 s5 y s7)]++(CN r.2 s1 s2 s3 s4 s5 y s7 []))):=
 b7 call303 func303 Q Q2<|aZ [28,33] Q2 (E9 s6 [0,1,2,3,4,5,6,7,8] Q Q)<|dX 0 2 (lO s b w_) [0,1,2] 45 [0,2,3,4,5,6,7,8,1] Q (dM aC [0,1] Q<|fV [50,51] Q2 (b8 [0,2,3,4,5,6,7,8,1] Q2)<|c0 Q (λ_=>bY) λx9=>b8 [0,2,3,4,5,6,7,8,1] Q2) λx1=>aZ [45] Q2 (jN 0 0 0 10 [] Q5 (λ_=>cS) λx2 _=>E9 s6 [0,8,1,2,3,4,5,6,7] Q Q)<|dX 0 2 (lN s b w_) [0,1,2] 66 [0,1,2,3,4,5,6,7,8] Q (dM aC [0,8] Q<|c0 Q (λh=>OE (h.o 1 Q) (h.o 2 Q) (h.o 3 Q) (h.o 4 Q)) λx7=>fV [76,77] Q2 (b8 [0,1,2,3,4,5,6,7,8] Q2)<|c0 Q (λh=>UT (h.o 6 Q)) λx8=>b8 [0,1,2,3,4,5,6,7,8] Q2) λx3=>aZ [66] Q2 (jN 0 0 0 10 [] Q5 (λ_=>cS) λx4 _=>E9 s6 [0,8,1,2,3,4,5,6,7] Q Q)<|dM aC [0] Q<|c1 Q (λh=>aD3 (h.o 6 Q)) λx5 s8=>jN 0 0 0 10 [] Q5 (λ_=>cS) λx6 _=>E9 s8 [0,8,1,2,3,4,5,9,7] Q Q
theorem XZ{s:List vC}(h1:bU U s1 s):VS prog U 332 (xT s) [.h s1 s.length] [] [] (λr (y:AC)=>.h y r.length) (λr y=>[ow y r]):=
 b7 call332 func332 Q Q2<|λhF=>eqn Q Q Q Q (λh2=>have hF:=cln h1 h2 hF;sR Q<|nV vC<|l6 ⟨none,0⟩ [0] hF Q2 Q4)<|lt0 (O:=vC) CF Q4 λs2=>ap 0 CF Q Q Q Q Q Q Q (λh=>(h.a h1)) Q Q hF λhF s3=>wi hF<|dL s3 [0] Q2
theorem yD{c:aI}(h1:bU U s1 c.bX):VS prog U 228 (mK c) [.g [I c.aO,.h s1 c.bX.length]] [] [] (λr (y:AC)=>.g [I r.aO,.h y r.bX.length]) (λr y=>[ow y r.bX]):=
 b7 call228 func228 Q Q2<|dM aC [0] Q<|c1 Q (λh=>XZ (h.a h1)) λx1 s2=>dL s2 [2] Q2
theorem QZ{s:List vC}{f:(vC->Option Bool)}(h1:bU U s1 s)(h_f:YS prog U (aMZ:FI vC) .b g_f cap_f f):V0 prog U 412 (v8 s f) [.h s1 s.length,.k (.func (.func g_f) #[] cap_f.toArray)] I:=
 b7 call412 func412 Q Q2<|LX 8 [0,1,7] [] Out.brk [] [] Q Q (λhF1 x2 hr1=>aZ [9] Q2 (vB aMZ Q h1 Q λx3 _ _=>λhG1=>fa1 h_f x3 () Q Q Q Q Q trivial hG1 λx4 _ hG1=>wi hG1<|aZ [16] Q2 (HC hr1 hF1<|cA Q2)<|CS [] Q)<|wY [] Q)<|cA Q2
theorem L8{s:List vC}{f:(vC->Option Bool)}(h1:bU U s1 s)(h_f:YS prog U (aMZ:FI vC) .b g_f cap_f f):V0 prog U 337 (kK s f) [.h s1 s.length,.k (.func (.func g_f) #[] cap_f.toArray)] .b:=
 b7 call337 func337 Q Q2<|c0 Q (λh=>QZ (h.a h1) (h.u1 h_f)) λx1=>cA Q2
theorem aBD{p:vC}{k0:aI}{b0:Nat×Nat}(h1:bU U s1 k0.bX):VS prog U 338 (wA p k0) [.g [.b p.On,I p.aO,.b p.g9,I p.Seen],.p 0 0] [b0] [.ro 0 [I k0.aO,.h s1 k0.bX.length]] (λr (_:Unit)=>.b r) (λ_ _=>[]):=
 b7 call338 func338 Q Q2<|dX 0 2 kL [] 3 [] Q (c0 Q (λ_=>bY) λx2=>fV [9,10] Q2 (b8 [] Q2)<|c0 Q (λ_=>bY) λx3=>fV [14,15,16] Q2 (b8 [] Q2)<|fV [19,20] Q2 (λhF=>neS eqGuardType193 stoodInHeld193 underlying193 (aCA 9997 p zL3) Q Q Q Q Q Q<|wi hF<|b8 [] Q2)<|b8 [] Q2) λx1=>cA Q2
theorem EZ{c:aI}(h1:bU U s1 c.bX):V0 prog U 235 (rY c) [.g [I c.aO,.h s1 c.bX.length]] .b:=
 b7 call235 func235 Q Q2<|dX 0 1 tK [] 2 [] Q (λhF=>shS [0] Q Q<|wi hF<|c0 Q (λ_=>bY) λx2=>fV [5,6] Q2 (fV [10,11,12] Q2 (λhF=>mf [0] Q Q Q<|wi hF<|aOX [0] Q Q Q Q (λh=>λhB=>L8 (h.a h1) (aOW (cs:=[(0,[I c.aO,.h s1 c.bX.length])]) call338 hB Q λhk _=>aBD (rk hk (h.a h1)))) λx3=>b8 [] Q2)<|b8 [] Q2)<|b8 [] Q2) λx1=>cA Q2
theorem aKD{c:aI}(h1:bU U s1 c.bX):VS prog U 386 (M9 c w_ e_) [.g [I c.aO,.h s1 c.bX.length],I w_,I e_] [] [] (λr (y:AC)=>.t [.g [I r.1.aO,.h y r.1.bX.length],.b r.2]) (λr y=>[ow y r.1.bX]):=
 b7 call386 func386 Q Q2<|c1 Q (λh=>yD (h.a h1)) λx1 s2=>dX 0 3 (EA w_ e_ x1) [1,2,6,8] 19 [1,2,3] Q (c0 Q (λh=>EZ (h.a h1)) λx6=>fV [14,15] Q2 (b8 [1,2,3] Q2)<|c0 Q (λ_=>gT) λx7=>b8 [1,2,3] Q2) λx2=>aZ [19] Q2 (dL s2 [1] Q2)<|gZ K7 1 Q3 λx3 h2 _ h3=>λhF=>fM 3 h3 h2 Q5<|wi hF<|cG 0 4 (qM w_ x1) [6,8,9] (λ(x4:Bool) (_:Unit)=>[(25,.b x4)]) [0,2,5] (λx4 _=>[ow s2 (x1.bX:List vC)]) Q (fV [30,31] Q2 (λhF=>sF Q<|fC K7 3 [] h2 () Q7<|gI () [6,0,2,5] hF Q)<|fV [35,36,37] Q2 (λhF=>sF Q<|fC K7 3 [] h2 () Q7<|gI () [6,0,2,5] hF Q)<|λhF=>sF Q<|fC K7 3 [] h2 () Q7<|gI () [6,0,2,5] hF Q) λx4 _=>aZ [25] Q2 (dL s2 [0] Q2)<|λhF=>ro K7 0 3 3 Q Q Q Q hF λx5 h4 hF _=>wi hF<|aZ [46,51] Q2 (λhF=>sR Q<|jB K7 4 [] [] ({x5 with Seen:=bC (x5.Seen+1)}:vC) () Q8<|kE s2 bV.symm [(59,1)] [(1,1),(2,1)] Q3<|fR Q2<|l6 s2 [7] hF Q2 Q4)<|λhF=>sR Q<|jB K7 4 [] [] ({x5 with g9:=true,Seen:=0}:vC) () Q8<|kE s2 bV.symm [(66,1)] [(1,1),(2,1)] Q3<|fR Q2<|l6 s2 [7] hF Q2 Q4
theorem aPB{c:aI}(h1:bU U s1 c.bX):VS prog U 387 (VX c e_) [.g [I c.aO,.h s1 c.bX.length],I e_] [] [] (λr (y:AC)=>.t [.g [I r.1.aO,.h y r.1.bX.length],.b r.2]) (λr y=>[ow y r.1.bX]):=
 b7 call387 func387 Q Q2<|c1 Q (λh=>yD (h.a h1)) λx1 s2=>dX 0 3 (EB x1) [4,6] 22 [1,2,3] Q (c0 Q (λh=>EZ (h.a h1)) λx3=>fV [11,12] Q2 (b8 [1,2,3] Q2)<|fV [16,17,18] Q2 (b8 [1,2,3] Q2)<|b8 [1,2,3] Q2) λx2=>aZ [22] Q2 (dL s2 [1] Q2)<|dL s2 [1] Q2
theorem Q0{s:Sub}{b:aA}{b0 b1:Nat×Nat}:VS prog U 304 (oJ s b) [.p 0 0,.p 1 0] [b0,b1] ([.box 0 (VY s),.box 1 (gB b s1 s2 s3 s4 s5 s6 s7)]++(CN b s1 s2 s3 s4 s5 s6 s7 [])) (λr (y:AC)=>.t []) (λr y=>([.box 0 (VY r.1),.box 1 (gB r.2 s1 s2 s3 s4 y s6 s7)]++(CN r.2 s1 s2 s3 s4 y s6 s7 []))):=
 b7 call304 func304 Q Q2<|aZ [7,12] Q2 (E9 s5 [0,1,2,3,4,5,6,7,8] Q Q)<|dX 0 2 (kN s b) [0,1] 27 [0,2,3,4,5,6,7,8,1] Q (fV [32,33] Q2 (c0 Q (λ_=>gT) λx8=>b8 [0,2,3,4,5,6,7,8,1] Q2)<|b8 [0,2,3,4,5,6,7,8,1] Q2) λx1=>aZ [27] Q2 (dM aC [0] Q<|c1 Q (λh=>aKD (h.o 5 Q)) λx2 s8=>aZ [60] Q2 (jN 0 0 0 10 [] Q5 (λ_=>cS) λx3 _=>dL s8 [0,8,1,2,3,4,9,6,7] Q2)<|aZ [74] Q2 (E9 s8 [0,8,1,2,3,4,9,6,7] Q Q)<|E9 s8 [0,8,1,2,3,4,9,6,7] Q Q)<|aZ [78,83] Q2 (dM aC [0] Q<|c1 Q (λh=>aPB (h.o 5 Q)) λx4 s9=>cG 0 2 (kM s b x4) [0,1] (λ(x5:Int) (_:Unit)=>[]) [1,2,3,4,9,6,7,8] (λx5 _=>[.box 0 [I s.Kind,I s.A,I s.Pc,I s.E,I s.Row,I s.B,I s.H,I x5,I s.Code,.b s.jC]]) Q (aZ [4,96,99] Q2 (b8 [0,1,2,3,4,9,6,7,8] Q2)<|b8 [0,1,2,3,4,9,6,7,8] Q2) λx5 _=>jN 0 0 0 10 [] Q5 (λ_=>cS (s:=({s with Out:=x5}:Sub))) λx6 _=>E9 s9 [0,8,1,2,3,4,5,6,7] Q Q)<|jN 0 0 0 10 [] Q5 (λ_=>cS) λx7 _=>E9 s5 [0,8,1,2,3,4,5,6,7] Q Q
theorem aKE{slot gen:Int}(h1:bU U s1 h.Bytes)(h2:bU U s2 h.Class):VS prog U 406 (UI h slot gen) [.g [.h s1 h.Bytes.length,.h s2 h.Class.length],I slot,I gen] [] [] (λr (y:AC×AC)=>.t [.g [.h y.1 r.1.Bytes.length,.h y.2 r.1.Class.length],.b r.2]) (λr y=>[ow y.1 r.1.Bytes,ow y.2 r.1.Class]):=
 b7 call406 func406 Q Q2<|cG 0 3 (λ(p:Int×(List Int)×(List Int))=>K2 slot gen p.1 p.2.1 p.2.2) [1,2,6] (λ(p:Int×(List Int)×(List Int)) (u:AC×AC)=>[(8,.p 2 0),(9,I p.1)]) [1] (λp u=>[ow u.1 (p.2.1:List Int),ow u.2 (p.2.2:List Int),.box 2 [.h u.1 p.2.1.length,.h u.2 p.2.2.length]]) Q (dM aC [0,1] Q<|λhF=>bd hF λx10 hA4 hF=>bd hF λx11 hA5 hF=>dJ Q2 (LS hA4 Q (λh=>A8 (h.a h1) (h.a h2)) λs6=>(by refine dJ Q2 ?_ ?_<;>exact z8 hA5 Q (λh=>LC (h.a h1) (h.a h2))<|wi hF<|lI (p:=(x11,x10.Bytes,x10.Class)) (s6.1,s6.2) [2,3,4,1] Q2)) (LS hA4 Q (λh=>A8 (h.a h1) (h.a h2)) λs7=>z8 hA5 Q (λh=>LC (h.a h1) (h.a h2))<|wi hF<|lI (p:=(x11,x10.Bytes,x10.Class)) (s7.1,s7.2) [3,4,2,1] Q2)) λ⟨x1,x2,x3⟩ ⟨s3,s4⟩=>dX 0 3 (EC slot gen x1 x2 x3) [1,2,6,8,9] 21 [3,0,1,2] Q (fV [16,17] Q2 (b8 [3,0,1,2] Q2)<|c0 Q (λ_=>bY) λx9=>b8 [3,0,1,2] Q2) λx4=>aZ [21] Q2 (dL (s3,s4) [1,2] Q2)<|cG 0 3 (K1 x3) [6,8] (λ(x5:(List Int)) (_:Unit)=>[]) [0,2] (λx5 _=>[ow s3 (x5:List Int),.box 2 [.h s3 x5.length,.h s4 x3.length]]) Q (dM aC [0] Q<|λhF=>bd hF λx6 hA1 hF=>bd hF λx7 hA2 hF=>bd hF λx8 hA3 hF=>dJ Q2 (z8 hA1 Q (λ_=>sK)<|z8 hA2 Q (λ_=>dI)<|have hq3:=rb hA3;wi hq3<|gK [1] Q4 (λ_=>fP) λu3 _=>λhq3=>un 4 [24] [] [(3,0)] Q6 λhl2=>match u3,hq3 with|_,rfl=>wi hF<|b8 (p:=(x8)) [4,3,0,2] Q2) (z8 hA1 Q (λ_=>sK)<|dJ Q2 (z8 hA2 Q (λ_=>dI)<|have hq6:=rb hA3;wi hq6<|gK [1] Q4 (λ_=>fP) λu6 _=>λhq6=>un 4 [24] [] [(3,0)] Q6 λhl3=>match u6,hq6 with|_,rfl=>wi hF<|b8 (p:=(x8)) [4,3,0,2] Q2) (z8 hA2 Q (λ_=>dI)<|have hq8:=rb hA3;wi hq8<|gK [1] Q4 (λ_=>fP) λu8 _=>λhq8=>un 4 [24] [] [(3,0)] Q6 λhl4=>match u8,hq8 with|_,rfl=>wi hF<|b8 (p:=(x8)) [4,3,0,2] Q2))) λx5 _=>dL (s3,s4) [0,3] Q2
theorem aPC{l:aD}{slot:Int}(h1:bU U s1 l.Global)(h2:bU U s2 l.Own):VS prog U 407 (aAV l w_ c slot) [.g [.h s1 l.Global.length,.h s2 l.Own.length],I w_,I c,I slot] [] [] (λr (y:AC×AC)=>.t [.g [.h y.1 r.1.Global.length,.h y.2 r.1.Own.length],.b r.2]) (λr y=>[ow y.1 r.1.Global,ow y.2 r.1.Own]):=
 b7 call407 func407 Q Q2<|c1 Q (λh=>iT (h.a h1) (h.a h2)) λx1 s3=>c0 Q (λ_=>ZM) λx2=>dX 0 3 (xU c slot x1 x2) [2,3,8,10,11] 34 [1,2,3,4] Q (c0 Q (λh=>EY (h.a h1) (h.a h2)) λx6=>fV [20,21] Q2 (b8 [1,2,3,4] Q2)<|fV [23,24,25] Q2 (b8 [1,2,3,4] Q2)<|c0 Q (λ_=>zZ) λx7=>fV [28,29,30] Q2 (b8 [1,2,3,4] Q2)<|c0 Q (λh=>W8 (h.a h1) (h.a h2)) λx8=>b8 [1,2,3,4] Q2) λx3=>aZ [34] Q2 (dL (s3.1,s3.2) [1,2] Q2)<|gZ kV 2 Q3 λx4 h3 s4 h4=>λhF=>fM 3 h4 h3 Q5<|wi hF<|aZ [45] Q2 (gZ kV 1 Q3 λx5 h5 s5 h6=>λhF=>fM 4 h6 h5 Q5<|lt1 Q bB Q4 λs6=>ap 11 bB Q Q Q Q Q Q Q (λh=>(h.o 12 Q)) Q Q hF λhF s7=>sR Q<|jB kV 8 [11] [47] (⟨x5.aR++([slot])⟩:aW) s7 Q8<|kE s3.1 bV.symm [(60,0)] [(0,0),(3,0)] Q3<|fC kV 4 [7] h3 s4 Q7<|fR Q2<|l6 (s3.1,s3.2) [13,14] hF Q2 Q4)<|λhF=>lt1 Q bB Q4 λs8=>ap 7 bB Q Q Q Q Q Q Q (λh=>(h.o 8 Q)) Q Q hF λhF s9=>sR Q<|jB kV 4 [7] [37] (⟨x4.aR++([slot])⟩:aW) s9 Q8<|kE s3.2 bV.symm [(60,1)] [(0,1),(3,1)] Q3<|fR Q2<|l6 (s3.1,s3.2) [1,9] hF Q2 Q4
theorem ZO{h:Int}(h1:bU U s1 m.Heap.Bytes)(h2:bU U s2 m.Heap.Class)(h3:bU U s3 m.aD.Global)(h4:bU U s4 m.aD.Own):VS prog U 327 (K3 m w_ h) [.g (gM m s1 s2 s3 s4),I w_,I h] [] [] (λr (y:X8)=>.g (yM r y)) (λr y=>(zM r y [])):=
 b7 call327 func327 Q Q2<|c1 Q (λh=>aKE (h.a h1) (h.a h2)) λx1 s5=>cG 0 4 (N3 m w_ h) [1,3,6,7,8] (λ(x2:Mem) (u:AC×AC)=>[(11,.p 3 0)]) [0,1] (λx2 u=>(oM x2 s5.1 s5.2 u.1 u.2 [.box 3 (gM x2 s5.1 s5.2 u.1 u.2)])) Q (dM aC [0,1,4] Q<|λhF=>bd hF λx6 hA1 hF=>dJ Q2 (LS hA1 Q (λh=>iT (h.a h3) (h.a h4)) λs12=>wi hF<|lI (p:=((⟨x1.1,x6⟩:Mem))) (s12.1,s12.2) [2,3,5,6,7,0,1] Q2) (LS hA1 Q (λh=>iT (h.a h3) (h.a h4)) λs13=>wi hF<|lI (p:=((⟨x1.1,x6⟩:Mem))) (s13.1,s13.2) [2,3,6,7,5,0,1] Q2)) λx2 ⟨s6,s7⟩=>cG 0 4 N2 [6,11] (λ(x3:Mem) (u:AC×AC)=>[]) [6] (λx3 u=>(oM x3 s5.1 s5.2 u.1 u.2 [.box 3 (gM x3 s5.1 s5.2 u.1 u.2)])) Q (aZ [31] Q2 (dM aC [5,6] Q<|c0 Q (λh=>mS (h.a h1) (h.a h2)) λx4=>c1 Q (λh=>aPC (h.a h3) (h.a h4)) λx5 s10=>lI (s10.1,s10.2) [0,1,7,8,4,6] Q2)<|lI (s6,s7) [0,1,2,3,4,6] Q2) λx3 ⟨s8,s9⟩=>dL (s5.1,s5.2,s8,s9) [0,1,2,3] Q2
theorem W9(h1:bU U s1 l):V0 prog U 388 (HM l w_ i) [.h s1 l.length,I w_,I i] .b:=
 b7 call388 func388 Q Q2<|dX 0 0 ED [] 6 [] Q (c0 Q (λ_=>gT) λx2=>fV [8,9] Q2 (vB QQ Q h1 Q λx3 s2 h2=>c0 Q (λ_=>bY) λx4=>b8 [] Q2)<|b8 [] Q2) λx1=>cA Q2
theorem aCD{r_:eA}:V0 prog U 390 (PD r_ e_) [.g [I r_.Handle,I r_.aO],I e_] .b:=
 b7 call390 func390 Q Q2<|dX 0 1 J3 [] 4 [] Q (fV [6,7] Q2 (b8 [] Q2)<|b8 [] Q2) λx1=>cA Q2
theorem WB{s:Sub}{b:aA}{b0 b1:Nat×Nat}:VS prog U 389 (oK s b w_) [.p 0 0,.p 1 0,I w_] [b0,b1] ([.box 0 (VY s),.box 1 (gB b s1 s2 s3 s4 s5 s6 s7)]++(CN b s1 s2 s3 s4 s5 s6 s7 [])) (λr (y:Unit)=>.t []) (λr y=>([.box 0 (VY r.1),.box 1 (gB r.2 s1 s2 s3 s4 s5 s6 s7)]++(CN r.2 s1 s2 s3 s4 s5 s6 s7 []))):=
 b7 call389 func389 Q Q2<|λhF=>aY3 Q Q Q Q<|wi hF<|LX 6 [0,1,2] [0,2,3,4,5,6,7,8,1] Out.brk [0,1] [0,2,3,4,5,6,7,8,1] Q Q (λhF1 x2 hr1=>gZ kW 6 Q3 λx4 h1 s8 h2=>λhG1=>fM 2 h2 h1 Q5<|wi hG1<|aZ [23] Q2 (λhG1=>fM 2 h2 h1 Q5<|wi hG1<|gZ ES 12 Q3 λx5 h3 _ h4=>λhG1=>fM 3 h4 h3 Q5<|wi hG1<|dM aC [0,8,11,15,16] Q<|c0 Q (λ_=>aCD) λx6=>aZ [42] Q2 (dM aC [8,11,15,16] Q<|λhG1=>sR Q<|fC ES 13 [] h3 () Q7<|fC kW 9 [17] h1 s8 Q7<|fR Q2<|l6 () [0,8,1,2,3,4,5,18,7] (re hG1 Q hr1 hF1) Q2 Q4)<|λhG1=>sF Q<|fC ES 13 [] h3 () Q7<|fC kW 9 [17] h1 s8 Q7<|fR Q2<|nxR () [0,1,2,3,4,5,18,7,8] hG1 Q)<|λhG1=>sX Q<|fC kW 9 [12] h1 s8 Q7<|bkR () [0,1,2,3,4,5,13,7,8] hG1 hr1 Q)<|wm (F:=HN s b) Q<|jN 0 0 0 10 [] Q5 (λ_=>cS) λx3 _=>E9 () [0,8,1,2,3,4,5,6,7] Q Q
theorem UU{s:List eA}{j:Int}:VS prog U 442 (BH s i j) [.h s1 s.length,I i,I j] [] [ow s1 (s:List eA)] (λr (y:AC)=>.h y r.length) (λr y=>[ow y r]):=
 b7 call442 func442 Q Q2<|λhF=>cpc 0 Q Q λhc1=>aRA hc1 Q Q Q Q Q Q Q Q hF λhF h1=>wi hF<|aZ [16] Q2 (dL s1 [0] Q2)<|dM aC [] Q<|λhF=>aOV hc1 Q Q Q Q Q Q hF λhF h2=>YW hc1 Q6 hF λhF h3=>nd hF λhab hF=>ap2 0 i.toNat j.toNat ⟨hab,h3.1⟩ Q Q Q Q Q Q Q Q Q λh4=>aZF 0 (i.toNat+(s.length-j.toNat)) h4.2 (wW h4.1 h4.2) Q Q Q Q Q Q Q Q Q hF λhF h5=>clr 0 (((((cO s i.toNat (s.drop j.toNat)).take (i.toNat+(s.length-j.toNat))).drop 0).length:Int).toNat) ((s.length:Int).toNat) ((⟨0,0⟩:eA):eA) h5 oT Q (λ_=>(a3O (⟨0,0⟩:eA))) Q Q Q Q Q Q Q Q<|sR Q<|poR 0 0 (i.toNat+(s.length-j.toNat)) Q Q (aQ9 h4 (pG h5.1 h5.2)) (aML (RR (by rw[BC,wW h4.1 h4.2];rfl)) (pG h5.1 h5.2))<|l6 (AC.sub s1 2 0) [0] hF Q2 Q4
theorem aHK(h1:bU U s1 l):VS prog U 391 (J4 l w_ i) [.h s1 l.length,I w_,I i] [] [] (λr (y:AC)=>.t [.h y r.1.length,.b r.2]) (λr y=>[ow y r.1]):=
 b7 call391 func391 Q Q2<|c1 Q (λh=>yC (h.a h1)) λx1 s2=>dX 0 0 (AW w_ i x1) [1,2,8] 20 [0] Q (c0 Q (λh=>LF (h.a h1)) λx5=>fV [13,14] Q2 (b8 [0] Q2)<|c0 Q (λh=>W9 (h.a h1)) λx6=>b8 [0] Q2) λx2=>aZ [20] Q2 (dL s2 [0] Q2)<|gZ kW 0 Q3 λx3 h2 s3 h3=>λhF=>fM 0 h3 h2 Q5<|wi hF<|gK [4] Q4 (λ_=>UU) λx4 s4=>λhF=>fM 0 h3 h2 Q5<|sR Q<|jB kW 1 [5] [6,8,22,24,35] (⟨x4⟩:bR) s4 Q8<|l6 s2 [6] hF Q2 Q4
theorem Q1{s:Sub}{b:aA}{b0 b1:Nat×Nat}:VS prog U 305 (oL s b w_) [.p 0 0,.p 1 0,I w_] [b0,b1] ([.box 0 (VY s),.box 1 (gB b s1 s2 s3 s4 s5 s6 s7)]++(CN b s1 s2 s3 s4 s5 s6 s7 [])) (λr (y:A5C)=>.t []) (λr y=>([.box 0 (VY r.1),.box 1 (gB r.2 y.1 y.2.1 y.2.2.1 y.2.2.2.1 s5 y.2.2.2.2 s7)]++(CN r.2 y.1 y.2.1 y.2.2.1 y.2.2.2.1 s5 y.2.2.2.2 s7 []))):=
 b7 call305 func305 Q Q2<|dX 0 2 (fK s b w_) [0,1,2] 6 [0,2,3,4,5,6,7,8,1] Q (dM aC [0,1] Q<|c0 Q (λh=>W9 (h.o 7 Q)) λx13=>fV [16,17] Q2 (gZ kW 7 Q3 λx14 h7 s11 h8=>λhF=>fM 2 h8 h7 Q5<|wi hF<|gZ ES 12 Q3 λx15 h9 _ h10=>λhF=>fM 3 h10 h9 Q5<|sF Q<|fC ES 13 [] h9 () Q7<|fC kW 9 [16] h7 s11 Q7<|fR Q2<|gI () [0,2,3,4,5,6,17,8,1] hF Q)<|b8 [0,2,3,4,5,6,7,8,1] Q2) λx1=>aZ [41,46] Q2 (E9 (s1,s2,s3,s4,s6) [0,8,1,2,3,4,5,6,7] Q Q)<|aZ [61,66] Q2 (aMM 0 0 0 10 8 1 0 8 [1,2,3,4,5,6,7] Q Q Q Q Q (λ_=>WB) λx2 _=>E9 (s1,s2,s3,s4,s6) [0,8,9,10,11,12,13,14,15] Q Q)<|dX 0 2 (eH s b w_ x1) [0,1,2,6] 71 [0,1,2,3,4,5,6,7,8] Q (fV [76,77] Q2 (c0 Q (λ_=>gT) λx12=>fV [82,83,84] Q2 (b8 [0,1,2,3,4,5,6,7,8] Q2)<|b8 [0,1,2,3,4,5,6,7,8] Q2)<|b8 [0,1,2,3,4,5,6,7,8] Q2) λx3=>aZ [71] Q2 (dM aC [0,8] Q<|gZ oI 7 Q3 λx4 h1 _ h2=>λhF=>fM 2 h2 h1 Q5<|wi hF<|aZ [101] Q2 (λhF=>sR Q<|fC oI 9 [] h1 () Q7<|l6 (s1,s2,s3,s4,s6) [0,8,1,2,3,4,5,6,12] hF Q2 Q4)<|aZ [124] Q2 (λhF=>sF Q<|fC oI 9 [] h1 () Q7<|l6 (s1,s2,s3,s4,s6) [0,8,1,2,3,4,5,6,12] hF Q2 Q4)<|λhF=>sF Q<|fC oI 9 [] h1 () Q7<|l6 (s1,s2,s3,s4,s6) [0,8,1,2,3,4,5,6,12] hF Q2 Q4)<|dX 0 2 (dC s b w_) [0,1,2] 128 [0,1,2,3,4,5,6,7,8] Q (dM aC [0,8] Q<|fV [133,134] Q2 (fV [6,135,136,137] Q2 (gZ kW 6 Q3 λx9 h3 s10 h4=>λhF=>fM 2 h4 h3 Q5<|wi hF<|gZ ES 12 Q3 λx10 h5 _ h6=>λhF=>fM 3 h6 h5 Q5<|wi hF<|c0 Q (λ_=>aCD) λx11=>λhF=>sF Q<|fC ES 13 [] h5 () Q7<|fC kW 9 [16] h3 s10 Q7<|fR Q2<|gI () [0,1,2,3,4,5,17,7,8] hF Q)<|b8 [0,1,2,3,4,5,6,7,8] Q2)<|b8 [0,1,2,3,4,5,6,7,8] Q2) λx5=>aZ [128] Q2 (dM aC [0] Q<|c1 Q (λh=>aHK (h.o 6 Q)) λx6 s8=>dM aC [0] Q<|c1 Q (λh=>ZO (h.o 1 Q) (h.o 2 Q) (h.o 3 Q) (h.o 4 Q)) λx7 s9=>E9 (t4U s9 (s8)) [0,8,10,11,12,13,5,9,7] Q Q)<|jN 0 0 0 10 [] Q5 (λ_=>cS) λx8 _=>E9 (s1,s2,s3,s4,s6) [0,8,1,2,3,4,5,6,7] Q Q
theorem ZP{c:aI}(h1:bU U s1 c.bX):VS prog U 392 (QM c w_ e_) [.g [I c.aO,.h s1 c.bX.length],I w_,I e_] [] [] (λr (y:AC)=>.t [.g [I r.1.aO,.h y r.1.bX.length],.b r.2]) (λr y=>[ow y r.1.bX]):=
 b7 call392 func392 Q Q2<|c1 Q (λh=>yD (h.a h1)) λx1 s2=>dX 0 3 (zS w_ e_ x1) [1,2,6,8] 25 [1,2,3] Q (c0 Q (λh=>EZ (h.a h1)) λx4=>fV [13,14] Q2 (b8 [1,2,3] Q2)<|c0 Q (λ_=>gT) λx5=>fV [17,18,19] Q2 (b8 [1,2,3] Q2)<|c0 Q (λ_=>bY) λx6=>b8 [1,2,3] Q2) λx2=>aZ [25] Q2 (dL s2 [1] Q2)<|gZ K7 1 Q3 λx3 h2 _ h3=>λhF=>fM 3 h3 h2 Q5<|sR Q<|jB K7 3 [] [28] (⟨true,e_,false,0⟩:vC) () Q8<|kE s2 bV.symm [(33,1)] [(0,1),(2,1)] Q3<|fR Q2<|l6 s2 [6] hF Q2 Q4
theorem X0{s:Sub}{b:aA}{b0 b1:Nat×Nat}:VS prog U 306 (xV s b w_) [.p 0 0,.p 1 0,I w_] [b0,b1] ([.box 0 (VY s),.box 1 (gB b s1 s2 s3 s4 s5 s6 s7)]++(CN b s1 s2 s3 s4 s5 s6 s7 [])) (λr (y:AC)=>.t []) (λr y=>([.box 0 (VY r.1),.box 1 (gB r.2 s1 s2 s3 s4 y s6 s7)]++(CN r.2 s1 s2 s3 s4 y s6 s7 []))):=
 b7 call306 func306 Q Q2<|aZ [14,15] Q2 (E9 s5 [0,1,2,3,4,5,6,7,8] Q Q)<|aZ [27,28] Q2 (cG 0 3 (λ(p:Bool×Int×(List vC))=>yU s b p.1 p.2.1 p.2.2) [0,1] (λ(p:Bool×Int×(List vC)) (s8:AC)=>[(6,.p 2 0),(7,.b p.1)]) [0,2,3,4,5,6,7,8,1] (λp s8=>[ow s8 (p.2.2:List vC),.box 2 [I p.2.1,.h s8 p.2.2.length]]) Q (dM aC [0,1] Q<|λhF=>bd hF λx5 hA1 hF=>dJ Q2 (LS hA1 Q (λh=>ZP (h.o 6 Q)) λs10=>wi hF<|lI (p:=(x5.2,x5.1.aO,x5.1.bX)) s10 [9,10,0,2,3,4,5,6,7,8,1] Q2) (LS hA1 Q (λh=>ZP (h.o 6 Q)) λs11=>wi hF<|lI (p:=(x5.2,x5.1.aO,x5.1.bX)) s11 [10,9,0,2,3,4,5,6,7,8,1] Q2)) λ⟨x1,x2,x3⟩ s8=>aZ [43] Q2 (jN 2 0 0 10 [] Q5 (λ_=>cS) λx4 _=>dL s5 [2,10,3,4,5,6,7,8,9] Q2)<|E9 s8 [2,10,3,4,5,6,0,8,9] Q Q)<|aZ [53,54] Q2 (dM aC [0,1] Q<|aZ [64] Q2 (jN 0 0 0 10 [] Q5 (λ_=>cS) λx6 _=>E9 s5 [0,1,2,3,4,5,6,7,8] Q Q)<|E9 s5 [0,1,2,3,4,5,6,7,8] Q Q)<|jN 0 0 0 10 [] Q5 (λ_=>cS) λx7 _=>E9 s5 [0,1,2,3,4,5,6,7,8] Q Q
theorem IK{s:Sub}{b:aA}{b0 b1:Nat×Nat}:VS prog U 196 (o6 s b w_) [.p 0 0,.p 1 0,I w_] [b0,b1] ([.box 0 (VY s),.box 1 (gB b s1 s2 s3 s4 s5 s6 s7)]++(CN b s1 s2 s3 s4 s5 s6 s7 [])) (λr (y:A6C)=>.t []) (λr y=>([.box 0 (VY r.1),.box 1 (gB r.2 y.1 y.2.1 y.2.2.1 y.2.2.2.1 y.2.2.2.2.1 y.2.2.2.2.2 s7)]++(CN r.2 y.1 y.2.1 y.2.2.1 y.2.2.2.1 y.2.2.2.2.1 y.2.2.2.2.2 s7 []))):=
 b7 call196 func196 Q Q2<|aZ [9] Q2 (dL (s1,s2,s3,s4,s5,s6) [0,1,2,3,4,5,6,7,8] Q2)<|aZ [16,17] Q2 (aMM 0 0 0 10 1 1 0 8 [2,3,4,5,6,7,8] Q Q Q Q Q (λ_=>US) λx1 s8=>E9 (t4U s8 (s5,s6)) [0,1,9,10,11,12,13,14,15] Q Q)<|aZ [22,23] Q2 (aMM 0 0 0 10 1 1 0 8 [2,3,4,5,6,7,8] Q Q Q Q Q (λ_=>S8) λx2 s9=>E9 (s1,s2,s3,s4,s5,s9) [0,1,9,10,11,12,13,14,15] Q Q)<|aZ [28,29] Q2 (aMM 0 0 0 10 1 1 0 8 [2,3,4,5,6,7,8] Q Q Q Q Q (λ_=>Q0) λx3 s10=>E9 (s1,s2,s3,s4,s10,s6) [0,1,9,10,11,12,13,14,15] Q Q)<|aZ [33,34] Q2 (aMM 0 0 0 10 1 1 0 8 [2,3,4,5,6,7,8] Q Q Q Q Q (λ_=>Q1) λx4 s11=>E9 (s11.1,s11.2.1,s11.2.2.1,s11.2.2.2.1,s5,s11.2.2.2.2) [0,1,9,10,11,12,13,14,15] Q Q)<|aZ [39,40] Q2 (aMM 0 0 0 10 1 1 0 8 [2,3,4,5,6,7,8] Q Q Q Q Q (λ_=>X0) λx5 s12=>E9 (s1,s2,s3,s4,s12,s6) [0,1,9,10,11,12,13,14,15] Q Q)<|jN 0 0 0 10 [] Q5 (λ_=>cS) λx6 _=>E9 (s1,s2,s3,s4,s5,s6) [0,1,2,3,4,5,6,7,8] Q Q
theorem UW{b0:Nat×Nat}:VS prog U 88 (rZ t w_) [.p 0 0,I w_] [b0] ([.box 0 (IY t s1 s2 s3 s4 s5 s6 s7 s8 s9 s10 s11)]++(SK t s1 s2 s3 s4 s5 s6 s7 s8 s9 s10 s11 [])) (λr (y:A6C)=>.t []) (λr y=>([.box 0 (IY r y.1 y.2.1 y.2.2.1 y.2.2.2.1 y.2.2.2.2.1 y.2.2.2.2.2 s7 s8 s9 s10 s11)]++(SK r y.1 y.2.1 y.2.2.1 y.2.2.2.1 y.2.2.2.2.1 y.2.2.2.2.2 s7 s8 s9 s10 s11 []))):=
 b7 call88 func88 Q Q2<|gZ aY 9 Q3 λx1 h1 s12 h2=>λhF=>fM 1 h2 h1 Q5<|wi hF<|dM aC [14] Q<|aMM 13 1 16 10 0 0 0 8 [1,2,3,4,5,6,7] Q Q Q Q Q (λ_=>IK) λx2 s13=>aZ [24] Q2 (λhF=>sR Q<|jB aY 12 [15,16,17,18,19,20,21] [8] ({x1 with Sub:=x2.1}:aE) s12 Q8<|fR Q2<|kE s9 bV.symm [] [(0,9)] Q3<|fR Q2<|l6 s13 [0,22,23,24,25,26,27,28,8,29,10,11] hF Q2 Q4)<|aZ [32,33] Q2 (λhF=>sF Q<|jB aY 12 [15,16,17,18,19,20,21] [8] ({x1 with Pc:=1,Sub:=x2.1}:aE) s12 Q8<|fR Q2<|kE s9 bV.symm [] [(0,9)] Q3<|fR Q2<|l6 s13 [0,22,23,24,25,26,27,28,8,29,10,11] hF Q2 Q4)<|aZ [37,38] Q2 (c0 Q (λ_=>o9) λx3=>λhF=>sF Q<|jB aY 12 [15,16,17,18,19,20,21] [8] ({x1 with Pc:=21,Sub:=x3}:aE) s12 Q8<|fR Q2<|kE s9 bV.symm [] [(0,9)] Q3<|fR Q2<|l6 s13 [0,22,23,24,25,26,27,28,8,29,10,11] hF Q2 Q4)<|λhF=>sF Q<|jB aY 12 [15,16,17,18,19,20,21] [8] ({x1 with Pc:=19,Sub:=x2.1}:aE) s12 Q8<|fR Q2<|kE s9 bV.symm [] [(0,9)] Q3<|fR Q2<|l6 s13 [0,22,23,24,25,26,27,28,8,29,10,11] hF Q2 Q4
theorem IZ{b0:Nat×Nat}:VS prog U 197 (oN j) [.p 0 0] [b0] ([.box 0 (PH j s1 s2 s3 s4 s5 s6 s7)]++(PI j s1 s2 s3 s4 s5 s6 s7 [])) (λr (y:Unit)=>.t [.g [I r.1.Kind,I r.1.Key,I r.1.fE],.b r.2.1]) (λr y=>([.box 0 (PH r.2.2 s1 s2 s3 s4 s5 s6 s7)]++(PI r.2.2 s1 s2 s3 s4 s5 s6 s7 []))):=
 b7 call197 func197 Q Q2<|dM aC [0,8] Q<|c0 Q (λ_=>bY) λx1=>aZ [16] Q2 (dL () [0,1,2,3,4,5,6,7] Q2)<|dM aC [0] Q<|gZ S6 1 Q3 λx2 h1 _ h2=>λhF=>fM 2 h2 h1 Q5<|sR Q<|fC S6 9 [] h1 () Q7<|l6 () [0,12,2,3,4,5,6,7] hF Q2 Q4
theorem dN{code:Int}{b0:Nat×Nat}:VS prog U 100 (cJ j code) [.p 0 0,I code] [b0] ([.box 0 (PH j s1 s2 s3 s4 s5 s6 s7)]++(PI j s1 s2 s3 s4 s5 s6 s7 [])) (λr (y:Unit)=>.t []) (λr y=>([.box 0 (PH r s1 s2 s3 s4 s5 s6 s7)]++(PI r s1 s2 s3 s4 s5 s6 s7 []))):=
 b7 call100 func100 Q Q2<|E9 () [0,1,2,3,4,5,6,7] Q Q
theorem UX{s:List aQ}(h1:bU U s1 s):VS prog U 232 (BI s) [.h s1 s.length] [] [] (λr (y:AC)=>.h y r.length) (λr y=>[ow y r]):=
 b7 call232 func232 Q Q2<|λhF=>eqn Q Q Q Q (λh2=>have hF:=cln h1 h2 hF;sR Q<|nV aQ<|l6 ⟨none,0⟩ [0] hF Q2 Q4)<|lt0 (O:=aQ) hO Q4 λs2=>ap 0 hO Q Q Q Q Q Q Q (λh=>(h.a h1)) Q Q hF λhF s3=>wi hF<|dL s3 [0] Q2
theorem pA{s:List aQ}{f:(aQ->Option Bool)}(h1:bU U s1 s)(h_f:YS prog U (BT:FI aQ) .b g_f cap_f f):V0 prog U 309 (cQ s f) [.h s1 s.length,.k (.func (.func g_f) #[] cap_f.toArray)] I:=
 b7 call309 func309 Q Q2<|LX 8 [0,1,7] [] Out.brk [] [] Q Q (λhF1 x2 hr1=>aZ [9] Q2 (vB BT Q h1 Q λx3 _ _=>λhG1=>fa1 h_f x3 () Q Q Q Q Q trivial hG1 λx4 _ hG1=>wi hG1<|aZ [16] Q2 (HC hr1 hF1<|cA Q2)<|CS [] Q)<|wY [] Q)<|cA Q2
theorem L9{s:List aQ}{del:(aQ->Option Bool)}{g_del:FuncId}{cap_del:List Value}(h_del:YS prog U (BT:FI aQ) .b g_del cap_del del):VS prog U 393 (iS s del) [.h s1 s.length,.k (.func (.func g_del) #[] cap_del.toArray)] [] [ow s1 (s:List aQ)] (λr (y:AC)=>.h y r.length) (λr y=>[ow y r]):=
 b7 call393 func393 Q Q2<|c0 Q (λh=>pA (h.o 0 Q) (h.u1 h_del)) λx1=>aZ [12] Q2 (dL s1 [0] Q2)<|LW () [1] (λ(p:(List aQ)×Int×Int) (_:Unit)=>[(0,.h s1 p.1.length),(5,I p.2.1),(6,I p.2.2)]) [0] [] (λp _=>[ow s1 (p.1:List aQ)]) id [] (λ(p:(List aQ)×Int) (_:Unit)=>[(0,.h s1 p.1.length),(5,I p.2)]) [] (λp _=>[ow s1 (p.1:List aQ)]) Q Q (λhF1 ⟨x5,x6,x7⟩ _ hr1=>aZ [19] Q2 (cG 2 0 (λ(p:(List aQ)×Int)=>gP x7 p.1 p.2) [1,6] (λ(p:(List aQ)×Int) (_:Unit)=>[(0,.h s1 p.1.length),(5,I p.2)]) [] (λp _=>[ow s1 (p.1:List aQ)]) Q (gZ iN 0 Q3 λx12 h3 _ h4=>λhG1=>fM 0 h4 h3 Q5<|fa1 h_del x12 () Q Q Q Q Q trivial hG1 λx13 _ hG1=>wi hG1<|aZ [29] Q2 (λhG1=>cqS iN 1 [] h3 () Q9<|wi hG1<|gZ iN 5 Q3 λx14 h5 _ h6=>λhG1=>fM 2 h6 h5 Q5<|sF Q<|jB iN 6 [] [0,17,22,30] x12 () Q8<|gI (p:=(x5.set x6.toNat x12,bC (x6+1))) () [9] hG1 Q)<|λhG1=>sF Q<|fC iN 1 [] h3 () Q7<|gI (p:=(x5,x6)) () [5] hG1 Q) λ⟨x10,x11⟩ _=>CS [0] Q)<|wY [0] Q) λ⟨x8,x9⟩ _=>λhF=>cpc 0 Q Q λhc1=>YW hc1 Q6 hF λhF h1=>clr 0 x9.toNat x8.length ((⟨0,false,0⟩:aQ):aQ) h1 hO Q (λ_=>(aZ6 (⟨0,false,0⟩:aQ))) Q Q Q Q Q Q Q Q<|rr s1 (fB (xs:=List.replicate (x8.length-x9.toNat) (⟨0,false,0⟩:aQ)) (pG h1.1 h1.2)).symm [0,36] [] [] Q Q Q Q<|cpc 0 Q Q λhc2=>aOV hc2 Q Q Q Q Q Q hF λhF h2=>sR Q<|poR 0 0 x9.toNat Q Q h2 Q<|l6 (AC.sub s1 3 0) [0] hF Q2 Q4
theorem ZQ{x k0:aQ}{b0:Nat×Nat}:VS prog U 394 (IB x k0) [.g [I x.Key,.b x.F8,I x.fE],.p 0 0] [b0] [.ro 0 [I k0.Key,.b k0.F8,I k0.fE]] (λr (_:Unit)=>.b r) (λ_ _=>[]):=
 b7 call394 func394 Q Q2<|cA Q2
theorem ZR{x k0:aQ}{b0:Nat×Nat}:VS prog U 395 (AX x k0) [.g [I x.Key,.b x.F8,I x.fE],.p 0 0] [b0] [.ro 0 [I k0.Key,.b k0.F8,I k0.fE]] (λr (_:Unit)=>.b r) (λ_ _=>[]):=
 b7 call395 func395 Q Q2<|cA Q2
theorem S9{s v:List aQ}:VS prog U 396 (pK s i v) [.h s1 s.length,I i,.h s2 v.length] [] [ow s1 s,.o (cLs s2 v)] (λr (y:AC)=>.h y r.length) (λr y=>[ow y r]):=
 bAZ Q ai (a3L (k:=3) (el:=159) (z:=.agg #[.int .i64 0,.bool false,.int .i64 0]) ai Q aO8 aRM aVQ aRN) call396
theorem aD4{l:List aQ}{w_:aQ}(h1:bU U s1 l):VS prog U 308 (GY l w_) [.h s1 l.length,.g [I w_.Key,.b w_.F8,I w_.fE]] [] [] (λr (y:AC)=>.h y r.length) (λr y=>[ow y r]):=
 b7 call308 func308 Q Q2<|c1 Q (λh=>UX (h.a h1)) λx1 s2=>λhF=>mf [0] Q Q Q<|wi hF<|bAR 0 [1] Q Q Q Q Q Q (λ_=>λhB=>L9 (bAQ call394 hB λ_=>ZQ)) λx2 s3=>λhF=>mf [0] Q Q Q<|wi hF<|aOX [0] Q Q Q Q (λh=>λhB=>pA (h.o 2 Q) (aOW (cs:=[(0,[I w_.Key,.b w_.F8,I w_.fE])]) call395 hB Q λ_ _=>ZR)) λx3=>cG 0 1 (qN w_ x2) [3,5] (λ(x4:Int) (_:Unit)=>[(6,I x4)]) [2,0] (λx4 _=>[]) Q (aZ [15] Q2 (b8 [2,0] Q2)<|b8 [2,0] Q2) λx4 _=>λhF=>ltL iN () w_ hO Q Q Q Q Q Q Q Q (λ_=>Q) λs4=>wi hF<|gK [0,2] Q4 (λ_=>S9) λx5 s5=>dL s5 [3] Q2
theorem LG{x:aQ}{b0:Nat×Nat}:VS prog U 198 (qO j x) [.p 0 0,.g [I x.Key,.b x.F8,I x.fE]] [b0] ([.box 0 (PH j s1 s2 s3 s4 s5 s6 s7)]++(PI j s1 s2 s3 s4 s5 s6 s7 [])) (λr (y:AC)=>.b r.1) (λr y=>([.box 0 (PH r.2 s1 s2 y s4 s5 s6 s7)]++(PI r.2 s1 s2 y s4 s5 s6 s7 []))):=
 b7 call198 func198 Q Q2<|dM aC [0,8] Q<|c1 Q (λh=>aD4 (h.o 3 Q)) λx1 s8=>aZ [14] Q2 (jN 0 0 0 32 [1,2,3,4,5,6,7] Q5 (λ_=>dN) λx2 _=>dL s3 [0,10,11,12,13,14,15,16] Q2)<|dL s8 [0,1,2,9,4,5,6,7] Q2
theorem aBE{x:aQ}{b0:Nat×Nat}:VS prog U 310 (EE x k0) [.g [I x.Key,.b x.F8,I x.fE],.p 0 0] [b0] [.ro 0 [I k0]] (λr (_:Unit)=>.b r) (λ_ _=>[]):=
 b7 call310 func310 Q Q2<|cA Q2
theorem aHL{l:List aQ}{key:Int}(h1:bU U s1 l):V0 prog U 199 (J5 l key) [.h s1 l.length,I key] (λr=>.t [.g [I r.1.Key,.b r.1.F8,I r.1.fE],.b r.2]):=
 b7 call199 func199 Q Q2<|λhF=>mf [0] Q Q Q<|wi hF<|aOX [0] Q Q Q Q (λh=>λhB=>pA (h.a h1) (aOW (cs:=[(0,[I key])]) call310 hB Q λ_ _=>aBE)) λx1=>aZ [11] Q2 (cA Q2)<|vB BT Q h1 Q λx2 _ _=>cA Q2
theorem aM8{b:Int}:V0 prog U 311 (XV a_ b) [I a_,I b] I:=
 b7 call311 func311 Q Q2<|cA Q2
theorem LH{c:jJ}{val:Int}{is:Bool}{b0:Nat×Nat}:VS prog U 200 (qP j c val is) [.p 0 0,.g [I c.Kind,I c.Key,I c.fE],I val,.b is] [b0] ([.box 0 (PH j s1 s2 s3 s4 s5 s6 s7)]++(PI j s1 s2 s3 s4 s5 s6 s7 [])) (λr (y:AC×AC)=>.t []) (λr y=>([.box 0 (PH r s1 s2 y.1 y.2 s5 s6 s7)]++(PI r s1 s2 y.1 y.2 s5 s6 s7 []))):=
 b7 call200 func200 Q Q2<|cG 0 2 (lE j c is) [0,3,5] (λ(x1:Int) (_:Unit)=>[(2,I x1)]) [1,2,3,4,5,6,7,0,8] (λx1 _=>[]) Q (aZ [10] Q2 (b8 [1,2,3,4,5,6,7,0,8] Q2)<|b8 [1,2,3,4,5,6,7,0,8] Q2) λx1 _=>cG 0 3 (λ(p:aE×Bool×Int)=>lD p.1 p.2.1 p.2.2) [0,8] (λ(p:aE×Bool×Int) (s8:AC)=>[]) [] (λp s8=>(PI p.1 s1 s2 s8 s4 s5 s6 s7 [.box 0 (PH p.1 s1 s2 s8 s4 s5 s6 s7),.box 2 [.b p.2.1,I p.2.2]])) Q (aZ [16] Q2 (c0 Q (λ_=>aM8) λx6=>jN 7 0 0 32 [0,1,2,3,4,5,6] Q5 (λ_=>LG) λx7 s16=>aZ [29] Q2 (dL (s16,s4) [7,10,11,12,13,14,15,16] Q2)<|lI (p:=(x7.2,true,x6)) s16 [10,11,12,13,14,15,16,7,9] Q2)<|lI (p:=(j,is,x1)) s3 [0,1,2,3,4,5,6,7,9] Q2) λ⟨x2,x3,x4⟩ s8=>cG 0 3 pL [0] (λ(x5:aE) (s9:AC)=>[]) [] (λx5 s9=>(PI x5 s1 s2 s8 s9 s5 s6 s7 [.box 0 (PH x5 s1 s2 s8 s9 s5 s6 s7)])) Q (dM aC [8] Q<|λhF=>nd hF λhA1 hF=>(by refine dJ Q2 ?_ ?_<;>exact WR a3T [] ((⟨x3,x4⟩:cV)) () lU WS λs12=>have hq1:=rn hA1;ap 3 lU Q Q Q Q Q Q Q (λh=>(h.o 9 Q)) Q Q hq1 λhq1 s13=>wi hF<|lI (p:=(({x2 with cV:=x2.cV++([(⟨x3,x4⟩:cV)])}:aE))) s13 [0,1,2,3,4,5,6,7] Q2)) λx5 s9=>E9 (s8,s9) [7,0,1,2,3,4,5,6] Q Q
theorem RB{key:Int}:V0 prog U 201 (FW key) [I key] I:=
 b7 call201 func201 Q Q2<|c0 Q (λ_=>bY) λx1=>aZ [5] Q2 (cA Q2)<|cA Q2
theorem aBF{b0:Nat×Nat}:VS prog U 89 (EG j) [.p 0 0] [b0] ([.box 0 (PH j s1 s2 s3 s4 s5 s6 s7)]++(PI j s1 s2 s3 s4 s5 s6 s7 [])) (λr (y:AC×AC)=>.t []) (λr y=>([.box 0 (PH r s1 s2 y.1 y.2 s5 s6 s7)]++(PI r s1 s2 y.1 y.2 s5 s6 s7 []))):=
 b7 call89 func89 Q Q2<|jN 0 0 0 32 [1,2,3,4,5,6,7] Q5 (λ_=>IZ) λx1 _=>aZ [39,41] Q2 (c0 Q (λ_=>o9) λx2=>E9 (s3,s4) [0,8,9,10,11,12,13,14] Q Q)<|cG 0 2 (λ(p:Bool×aE)=>i7 x1 p.1 p.2) [0,2] (λ(p:Bool×aE) (_:Unit)=>[(52,.b p.1)]) [15] (λp _=>(PI p.2 s1 s2 s3 s4 s5 s6 s7 [.box 0 (PH p.2 s1 s2 s3 s4 s5 s6 s7)])) Q (fV [55,56] Q2 (b8 (p:=(true,x1.2.2)) [8,9,10,11,12,13,14,0,15] Q2)<|b8 (p:=(x1.1.Kind == 3,x1.2.2)) [8,9,10,11,12,13,14,0,15] Q2) λ⟨x3,x4⟩ _=>aZ [52] Q2 (jN 7 0 0 32 [0,1,2,3,4,5,6] Q5 (λ_=>LG) λx5 s8=>aZ [70] Q2 (λhF=>WR a3T [] ((⟨false,0⟩:cV)) () lU WS λs9=>ap 12 lU Q Q Q Q Q Q Q (λh=>(h.o 16 Q)) Q Q hF λhF s10=>wi hF<|E9 (s8,s10) [7,9,10,11,12,13,14,15] Q Q)<|E9 (s8,s4) [7,9,10,11,12,13,14,15] Q Q)<|cG 0 3 (λ(p:Bool×aE×Int×Bool×Int)=>EF x1 p.1 p.2.1 p.2.2.1 p.2.2.2.1 p.2.2.2.2) [0,2] (λ(p:Bool×aE×Int×Bool×Int) (_:Unit)=>[(4,.p 2 0),(5,.b p.1)]) [8] (λp _=>(PI p.2.1 s1 s2 s3 s4 s5 s6 s7 [.box 0 (PH p.2.1 s1 s2 s3 s4 s5 s6 s7),.box 2 [I p.2.2.1,.b p.2.2.2.1,I p.2.2.2.2]])) Q (dM aC [7,8] Q<|λhF=>bd hF λx13 hA1 hF=>(by refine dJ Q2 ?_ ?_<;>exact z8 hA1 Q (λh=>aHL (h.o 2 Q))<|wi hF<|b8 (p:=(x13.2,x4,x13.1.Key,x13.1.F8,x13.1.fE)) [0,1,2,3,4,5,6,7,9,8] Q2)) λ⟨x6,x7,x8,x9,x10⟩ _=>aZ [5,21] Q2 (jN 7 0 0 32 [0,1,2,3,4,5,6] Q5 (λ_=>LH) λx11 s11=>dL (s11.1,s11.2) [7,10,11,12,13,14,15,16] Q2)<|c0 Q (λ_=>RB) λx12=>E9 (s3,s4) [7,0,1,2,3,4,5,6] Q Q
theorem UY{slot:Int}(h1:bU U s1 h.Bytes)(h2:bU U s2 h.Class):V0 prog U 313 (EH h slot) [.g [.h s1 h.Bytes.length,.h s2 h.Class.length],I slot] .b:=
 b7 call313 func313 Q Q2<|c0 Q (λh=>mS (h.a h1) (h.a h2)) λx1=>c0 Q (λ_=>OB) λx2=>cA Q2
theorem aHM{slot:Int}:V0 prog U 403 (J6 slot c) [I slot,I c] I:=
 b7 call403 func403 Q Q2<|c0 Q (λ_=>sK) λx1=>aZ [10] Q2 (cA Q2)<|cA Q2
theorem wL{slot:Int}(h1:bU U s1 h.Bytes)(h2:bU U s2 h.Class):V0 prog U 322 (xW h slot) [.g [.h s1 h.Bytes.length,.h s2 h.Class.length],I slot] I:=
 b7 call322 func322 Q Q2<|c0 Q (λh=>mS (h.a h1) (h.a h2)) λx1=>c0 Q (λ_=>aHM) λx2=>cA Q2
theorem aKF{slot:Int}(h1:bU U s1 h.Bytes)(h2:bU U s2 h.Class):V0 prog U 314 (NA h slot) [.g [.h s1 h.Bytes.length,.h s2 h.Class.length],I slot] (λr=>.g [I r.Key,I r.fE,I r.Next]):=
 b7 call314 func314 Q Q2<|c0 Q (λh=>wL (h.a h1) (h.a h2)) λx1=>dM aC [0] Q<|c0 Q (λh=>wK (h.a h1)) λx2=>c0 Q (λh=>wK (h.a h1)) λx3=>c0 Q (λh=>wK (h.a h1)) λx4=>cA Q2
theorem XA{h:Int}(h1:bU U s1 m.Heap.Bytes)(h2:bU U s2 m.Heap.Class)(h3:bU U s3 m.aD.Global)(h4:bU U s4 m.aD.Own):V0 prog U 202 (HO m h) [.g (gM m s1 s2 s3 s4),I h] (λr=>.t [.g [I r.1.Key,I r.1.fE,I r.1.Next],I r.2]):=
 b7 call202 func202 Q Q2<|dX 0 2 (EI m h) [1,2,4] 6 [0,1] Q (c0 Q (λ_=>jE) λx4=>fV [9,10] Q2 (b8 [0,1] Q2)<|c0 Q (λh=>mS (h.a h1) (h.a h2)) λx5=>b8 [0,1] Q2) λx1=>aZ [6] Q2 (cA Q2)<|c0 Q (λh=>UY (h.a h1) (h.a h2)) λx2=>aZ [19,25] Q2 (cA Q2)<|c0 Q (λh=>aKF (h.a h1) (h.a h2)) λx3=>cA Q2
theorem UZ{p:vC}:V0 prog U 203 (BJ p) [.g [.b p.On,I p.aO,.b p.g9,I p.Seen]] .b:=
 b7 call203 func203 Q Q2<|dX 0 1 mV [] 2 [] Q (fV [4,5] Q2 (b8 [] Q2)<|b8 [] Q2) λx1=>cA Q2
theorem cY{n:dW}:V0 prog U 204 (gC n) [.g [I n.Key,I n.fE,I n.Next]] I:=
 b7 call204 func204 Q Q2<|c0 Q (λ_=>jE) λx1=>aZ [6] Q2 (cA Q2)<|cA Q2
theorem WC{s:List Seen}(h1:bU U s1 s):VS prog U 231 (EJ s) [.h s1 s.length] [] [] (λr (y:AC)=>.h y r.length) (λr y=>[ow y r]):=
 b7 call231 func231 Q Q2<|λhF=>eqn Q Q Q Q (λh2=>have hF:=cln h1 h2 hF;sR Q<|nV Seen<|l6 ⟨none,0⟩ [0] hF Q2 Q4)<|lt0 (O:=Seen) rI Q4 λs2=>ap 0 rI Q Q Q Q Q Q Q (λh=>(h.a h1)) Q Q hF λhF s3=>wi hF<|dL s3 [0] Q2
theorem CG{s:List Seen}{f:(Seen->Option Bool)}(h1:bU U s1 s)(h_f:YS prog U (aGK:FI Seen) .b g_f cap_f f):V0 prog U 315 (eG s f) [.h s1 s.length,.k (.func (.func g_f) #[] cap_f.toArray)] I:=
 b7 call315 func315 Q Q2<|LX 8 [0,1,7] [] Out.brk [] [] Q Q (λhF1 x2 hr1=>aZ [9] Q2 (vB aGK Q h1 Q λx3 _ _=>λhG1=>fa1 h_f x3 () Q Q Q Q Q trivial hG1 λx4 _ hG1=>wi hG1<|aZ [16] Q2 (HC hr1 hF1<|cA Q2)<|CS [] Q)<|wY [] Q)<|cA Q2
theorem aBG{s:Seen}{b0:Nat×Nat}:VS prog U 316 (EK s k0) [.g [I s.cM,I s.fF],.p 0 0] [b0] [.ro 0 [I k0]] (λr (_:Unit)=>.b r) (λ_ _=>[]):=
 b7 call316 func316 Q Q2<|cA Q2
theorem aHN{l:List Seen}{b v:Int}(h1:bU U s1 l):VS prog U 205 (J7 l b v) [.h s1 l.length,I b,I v] [] [] (λr (y:AC)=>.t [.h y r.1.length,.b r.2]) (λr y=>[ow y r.1]):=
 b7 call205 func205 Q Q2<|c1 Q (λh=>WC (h.a h1)) λx1 s2=>λhF=>mf [0] Q Q Q<|wi hF<|aOX [0] Q Q Q Q (λh=>λhB=>CG (h.a h1) (aOW (cs:=[(0,[I b])]) call316 hB Q λ_ _=>aBG)) λx2=>aZ [16] Q2 (λhF=>WR ET [] ((⟨b,v⟩:Seen)) () rI WS λs3=>ap 1 rI Q Q Q Q Q Q Q (λh=>(h.o 2 Q)) Q Q hF λhF s4=>wi hF<|dL s4 [1] Q2)<|dM aC [0] Q<|vB aGK Q h1 Q λx3 _ _=>dL s2 [1] Q2
theorem ZS{b0:Nat×Nat}:VS prog U 90 (AY t w_) [.p 0 0,I w_] [b0] ([.box 0 (IY t s1 s2 s3 s4 s5 s6 s7 s8 s9 s10 s11)]++(SK t s1 s2 s3 s4 s5 s6 s7 s8 s9 s10 s11 [])) (λr (y:Unit)=>.t []) (λr y=>([.box 0 (IY r s1 s2 s3 s4 s5 s6 s7 s8 s9 s10 s11)]++(SK r s1 s2 s3 s4 s5 s6 s7 s8 s9 s10 s11 []))):=
 b7 call90 func90 Q Q2<|gZ aY 9 Q3 λx1 h1 s12 h2=>λhF=>fM 1 h2 h1 Q5<|wi hF<|cG 0 4 (λ(p:Int×Int×Int)=>BM t w_ p.1 p.2.1 p.2.2) [0,1,4] (λ(p:Int×Int×Int) (_:Unit)=>[(5,.p 3 0)]) [1,2,3,4,5,6,7,8,10,11,0,14] (λp _=>[ow s9 (t.aM:List aE),.box 3 [I p.1,I p.2.1,I p.2.2]]) Q (λhF=>cqS aY 12 [15,16,17,18,19,20,21] h1 s12 Q9<|wi hF<|dM aC [0,14] Q<|λhF=>bd hF λx30 hA5 hF=>dJ Q2 (have hq15:=rb h1;ro aY 22 14 1 Q Q Q Q hq15 λu15 h27 hq15 s34=>match u15,hq15 with|_,rfl=>have hq16:=rb hA5;wi hq16<|gZ iE 8 Q3 λu16 h29 _ h30=>λhq16=>fM 2 h30 h29 Q5<|match u16,hq16 with|_,rfl=>(by refine dJ Q2 ?_ ?_<;>exact sF Q<|fC iE 33 [] h29 () Q7<|fR Q2<|fC aY 23 [26,27,28,29,30,31,32] h27 s34 Q7<|fR Q2<|gI (p:=(x30.Head,x30.fF,x30.gG)) () [38,36,1,2,3,4,5,6,7,37,10,11,0,14] hF Q)) (have hq17:=rb h1;ro aY 22 14 1 Q Q Q Q hq17 λu17 h31 hq17 s35=>match u17,hq17 with|_,rfl=>have hq18:=rb hA5;wi hq18<|gZ iE 8 Q3 λu18 h33 _ h34=>λhq18=>fM 3 h34 h33 Q5<|match u18,hq18 with|_,rfl=>sF Q<|swR 3 2 Q<|fD Q Q<|fC iE 34 [] h33 () Q7<|fR Q2<|fC aY 24 [27,28,29,30,31,32,33] h31 s35 Q7<|fR Q2<|gI (p:=(x30.Head,x30.fF,x30.gG)) () [38,23,1,2,3,4,5,6,7,37,10,11,0,14] hF Q)) λ⟨x2,x3,x4⟩ _=>λhF=>ro aY 0 13 1 Q Q Q Q hF λx5 h3 hF s13=>wi hF<|jN 15 1 0 32 [17,18,19,20,21,22,23] Q5 (λ_=>IZ) λx6 _=>aZ [91,92] Q2 (aZ [95] Q2 (jN 15 1 0 32 [24,25,26,27,28,29,30] Q5 (λ_=>dN) λx7 _=>λhF=>sR Q<|jB aY 14 [32,33,34,35,36,37,38] [] x7 s13 Q8<|fR Q2<|kE s9 bV.symm [] [(12,9)] Q3<|fR Q2<|l6 () [12,2,3,4,5,6,7,8,9,39,10,11] hF Q2 Q4)<|dM aC [1,12,13,16,31] Q<|aZ [122] Q2 (λhF=>sF Q<|jB aY 14 [24,25,26,27,28,29,30] [] (⟨x6.2.2.m0,x6.2.2.Batch,x6.2.2.aK,5,x6.2.2.At,x6.2.2.K,x6.2.2.cM,x3,x2,x6.2.2.gO,(⟨0,0,0⟩:dW),false,x6.2.2.Code,x6.2.2.Sub,x6.2.2.Reads,x6.2.2.aH,x6.2.2.cV,x6.2.2.cT,x6.2.2.bA,x6.2.2.bG⟩:aE) s13 Q8<|fR Q2<|kE s9 bV.symm [] [(12,9)] Q3<|fR Q2<|l6 () [12,2,3,4,5,6,7,8,9,32,10,11] hF Q2 Q4)<|λhF=>sF Q<|jB aY 14 [24,25,26,27,28,29,30] [] (⟨x6.2.2.m0,x6.2.2.Batch,x6.2.2.aK,3,x6.2.2.At,x6.2.2.K,x6.2.2.cM,x3,x2,x6.2.2.gO,(⟨0,0,0⟩:dW),false,x6.2.2.Code,x6.2.2.Sub,x6.2.2.Reads,x6.2.2.aH,x6.2.2.cV,x6.2.2.cT,x6.2.2.bA,x6.2.2.bG⟩:aE) s13 Q8<|fR Q2<|kE s9 bV.symm [] [(12,9)] Q3<|fR Q2<|l6 () [12,2,3,4,5,6,7,8,9,32,10,11] hF Q2 Q4)<|aZ [126,127] Q2 (dM aC [1,12,13,16,31] Q<|c0 Q (λh=>XA (h.o 2 Q) (h.o 3 Q) (h.o 4 Q) (h.o 5 Q)) λx8=>λhF=>sF Q<|jB aY 14 [24,25,26,27,28,29,30] [] (⟨x6.2.2.m0,x6.2.2.Batch,x6.2.2.aK,4,x6.2.2.At,x6.2.2.K,x6.2.2.cM,x6.2.2.fF,x6.2.2.H,x6.2.2.gO,x8.1,x6.2.2.Found,x6.2.2.Code,x6.2.2.Sub,x6.2.2.Reads,x6.2.2.aH,x6.2.2.cV,x6.2.2.cT,x6.2.2.bA,x6.2.2.bG⟩:aE) s13 Q8<|fR Q2<|kE s9 bV.symm [] [(12,9)] Q3<|fR Q2<|l6 () [12,2,3,4,5,6,7,8,9,32,10,11] hF Q2 Q4)<|aZ [147,148] Q2 (gZ K7 6 Q3 λx9 h5 _ h6=>λhF=>fM 5 h6 h5 Q5<|wi hF<|c0 Q (λ_=>UZ) λx10=>aZ [149,160] Q2 (jN 15 1 0 32 [24,25,26,27,28,29,30] Q5 (λ_=>dN) λx11 _=>λhF=>sR Q<|fC K7 32 [] h5 () Q7<|fR Q2<|jB aY 14 [35,36,37,38,39,40,41] [] x11 s13 Q8<|fR Q2<|kE s9 bV.symm [] [(12,9)] Q3<|fR Q2<|l6 () [12,2,3,4,5,42,7,8,9,43,10,11] hF Q2 Q4)<|aZ [163,165] Q2 (jN 15 1 0 32 [24,25,26,27,28,29,30] Q5 (λ_=>dN) λx12 _=>λhF=>sR Q<|fC K7 32 [] h5 () Q7<|fR Q2<|jB aY 14 [35,36,37,38,39,40,41] [] x12 s13 Q8<|fR Q2<|kE s9 bV.symm [] [(12,9)] Q3<|fR Q2<|l6 () [12,2,3,4,5,42,7,8,9,43,10,11] hF Q2 Q4)<|cG 0 6 (BK t w_) [0,4] (λ(x13:(List aE)) (_:Unit)=>[]) [2,3,4,5,7,8,9,10,11,13] (λx13 _=>[ow s5 (t.aA.aI.bX:List vC),ow s9 (x13:List aE),.box 0 [.h s1 t.aA.Mem.Heap.Bytes.length,.h s2 t.aA.Mem.Heap.Class.length,.h s3 t.aA.Mem.aD.Global.length,.h s4 t.aA.Mem.aD.Own.length,I t.aA.aI.aO,.h s5 t.aA.aI.bX.length,.h s6 t.aA.a8.length,.h s7 t.aA.kZ.length,.h s8 t.aT.length,.h s9 x13.length,.h s10 t.bL.length,.h s11 t.Log.length,I t.aK]]) Q (dM aC [1,12,13,16,31,34] Q<|λhF=>bd hF λx17 hA1 hF=>(by repeat' first|refine dJ Q2 ?_ ?_|refine z8 hA1 Q (λ_=>cY)<|?_|exact sF Q<|fC K7 32 [] h5 () Q7<|fR Q2<|jB aY 14 [24,25,26,27,28,29,30] [] (⟨x6.2.2.m0,x6.2.2.Batch,x6.2.2.aK,3,x6.2.2.At,x6.2.2.K,x6.2.2.cM,x6.2.2.fF,x17,x6.2.2.gO,x6.2.2.Node,x6.2.2.Node.Key == x6.1.Key,x6.2.2.Code,x6.2.2.Sub,x6.2.2.Reads,x6.2.2.aH,x6.2.2.cV,x6.2.2.cT,x6.2.2.bA,x6.2.2.bG⟩:aE) s13 Q8<|fR Q2<|kE s9 bV.symm [] [(12,9)] Q3<|fR Q2<|gI (p:=(t.aM.set w_.toNat (⟨x6.2.2.m0,x6.2.2.Batch,x6.2.2.aK,3,x6.2.2.At,x6.2.2.K,x6.2.2.cM,x6.2.2.fF,x17,x6.2.2.gO,x6.2.2.Node,x6.2.2.Node.Key == x6.1.Key,x6.2.2.Code,x6.2.2.Sub,x6.2.2.Reads,x6.2.2.aH,x6.2.2.cV,x6.2.2.cT,x6.2.2.bA,x6.2.2.bG⟩:aE))) () [35,36,12,2,3,4,5,7,8,9,10,11,13] hF Q)) λx13 _=>dX 0 6 (sA t w_ x13) [0,4] 200 [3,4,5,6,0,7,8,9,1,10,11,2,12] Q (λhF=>ro aY 1 12 1 Q Q Q Q hF λx16 h9 hF s15=>wi hF<|fV [193,194] Q2 (λhF=>sF Q<|fC aY 13 [16,17,18,19,20,21,22] h9 s15 Q7<|fR Q2<|gI () [3,4,5,6,0,7,8,9,23,10,11,2,12] hF Q)<|λhF=>sF Q<|fC aY 13 [16,17,18,19,20,21,22] h9 s15 Q7<|fR Q2<|gI () [3,4,5,6,0,7,8,9,23,10,11,2,12] hF Q) λx14=>aZ [200] Q2 (λhF=>ro aY 8 12 1 Q Q Q Q hF λx15 h7 hF s14=>sF Q<|jB aY 13 [16,17,18,19,20,21,22] [] ({x15 with Pc:=5}:aE) s14 Q8<|fR Q2<|kE s9 bV.symm [] [(11,9)] Q3<|fR Q2<|l6 () [11,0,1,2,3,4,5,6,7,23,9,10] hF Q2 Q4)<|E9 () [11,0,1,2,3,4,5,6,7,8,9,10] Q Q)<|cG 0 5 (iI t w_ x6) [0,4,6,7] (λ(x18:Bool) (_:Unit)=>[(46,.b x18)]) [2,3,4,5,6,7,8,9,10,11,13,31] (λx18 _=>[ow s9 (t.aM.set w_.toNat x6.2.2:List aE),.box 0 [.h s1 t.aA.Mem.Heap.Bytes.length,.h s2 t.aA.Mem.Heap.Class.length,.h s3 t.aA.Mem.aD.Global.length,.h s4 t.aA.Mem.aD.Own.length,I t.aA.aI.aO,.h s5 t.aA.aI.bX.length,.h s6 t.aA.a8.length,.h s7 t.aA.kZ.length,.h s8 t.aT.length,.h s9 (t.aM.set w_.toNat x6.2.2).length,.h s10 t.bL.length,.h s11 t.Log.length,I t.aK]]) Q (dM aC [1,12,13,16,31] Q<|fV [37,38] Q2 (λhF=>sF Q<|jB aY 14 [24,25,26,27,28,29,30] [] x6.2.2 s13 Q8<|fR Q2<|kE s9 bV.symm [] [(12,9)] Q3<|fR Q2<|gI () [32,12,2,3,4,5,6,7,8,9,10,11,13,31] hF Q)<|λhF=>sF Q<|jB aY 14 [24,25,26,27,28,29,30] [] x6.2.2 s13 Q8<|fR Q2<|kE s9 bV.symm [] [(12,9)] Q3<|fR Q2<|gI () [32,12,2,3,4,5,6,7,8,9,10,11,13,31] hF Q) λx18 _=>aZ [46] Q2 (λhF=>ro aY 0 12 1 Q Q Q Q hF λx19 h11 hF s16=>wi hF<|jN 15 1 0 32 [17,18,19,20,21,22,23] Q5 (λ_=>dN) λx20 _=>λhF=>sR Q<|jB aY 14 [24,25,26,27,28,29,30] [] x20 s16 Q8<|fR Q2<|kE s9 bV.symm [] [(1,9)] Q3<|fR Q2<|l6 () [1,2,3,4,5,6,7,8,9,31,10,11] hF Q2 Q4)<|cG 0 5 (λ(p:(List Seen)×Bool)=>BL t w_ x6 p.1 p.2) [0,4,6,7] (λ(p:(List Seen)×Bool) (s17:AC)=>[(8,.h s17 p.1.length),(9,.b p.2)]) [2,3,4,5,6,7,8,9,0,10,11,1,12,13] (λp s17=>[ow s17 (p.1:List Seen)]) Q (dM aC [1,12,13] Q<|λhF=>bd hF λx28 hA3 hF=>bd hF λx29 hA4 hF=>(by repeat' first|refine dJ Q2 ?_ ?_|refine aCK Q Q ?_ ?_ ?_|(refine have hq6:=rb hA3;ro aY 0 12 1 Q Q Q Q hq6 λu6 h17 hq6 s24=>match u6,hq6 with|_,rfl=>?_)|refine LS hA4 Q (λh=>aHN (h.o 18 Q)) λs25=>?_|exact sF Q<|fC aY 14 [17,18,19,20,21,22,23] h17 s24 Q7<|fR Q2<|gI (p:=(x29.1,x29.2)) s25 [24,2,3,4,5,6,7,8,9,25,10,11,1,12,13] hF Q)) λ⟨x21,x22⟩ s17=>λhF=>ro aY 9 13 1 Q Q Q Q hF λx23 h13 hF s18=>wi hF<|aZ [81,83] Q2 (jN 16 1 0 32 [18,0,20,21,22,23,24] Q5 (λ_=>dN (j:=({x23 with Reads:=x21}:aE))) λx24 _=>λhF=>sF Q<|jB aY 15 [25,26,27,28,29,30,31] [] x24 (s18.1,s17,s18.2.2.1,s18.2.2.2.1,s18.2.2.2.2.1,s18.2.2.2.2.2.1,s18.2.2.2.2.2.2) Q8<|fR Q2<|kE s9 bV.symm [] [(12,9)] Q3<|fR Q2<|l6 () [12,1,2,3,4,5,6,7,8,32,10,11] hF Q2 Q4)<|aZ [86,88] Q2 (jN 16 1 0 32 [18,0,20,21,22,23,24] Q5 (λ_=>dN (j:=({x23 with Reads:=x21}:aE))) λx25 _=>λhF=>sF Q<|jB aY 15 [25,26,27,28,29,30,31] [] x25 (s18.1,s17,s18.2.2.1,s18.2.2.2.1,s18.2.2.2.2.1,s18.2.2.2.2.2.1,s18.2.2.2.2.2.2) Q8<|fR Q2<|kE s9 bV.symm [] [(12,9)] Q3<|fR Q2<|l6 () [12,1,2,3,4,5,6,7,8,32,10,11] hF Q2 Q4)<|cG 0 5 (K4 t) [0] (λ(x26:(List aE)) (_:Unit)=>[]) [1,2,3,4,5,6,7,8,10,11] (λx26 _=>[ow s9 (x26:List aE),.box 0 [.h s1 t.aA.Mem.Heap.Bytes.length,.h s2 t.aA.Mem.Heap.Class.length,.h s3 t.aA.Mem.aD.Global.length,.h s4 t.aA.Mem.aD.Own.length,I t.aA.aI.aO,.h s5 t.aA.aI.bX.length,.h s6 t.aA.a8.length,.h s7 t.aA.kZ.length,.h s8 t.aT.length,.h s9 x26.length,.h s10 t.bL.length,.h s11 t.Log.length,I t.aK]]) Q (dM aC [12,13,14,17] Q<|λhF=>bd hF λx27 hA2 hF=>(by refine dJ Q2 ?_ ?_<;>exact have hq4:=rb hA2;wi hq4<|jN 16 1 0 32 [18,0,20,21,22,23,24] Q5 (λ_=>LH (j:=({x23 with Reads:=x21}:aE))) λu4 s20=>λhq4=>match u4,hq4 with|_,rfl=>sF Q<|jB aY 15 [25,26,27,28,29,30,31] [] x27 (s18.1,s17,s20.1,s20.2,s18.2.2.2.2.1,s18.2.2.2.2.2.1,s18.2.2.2.2.2.2) Q8<|fR Q2<|kE s9 bV.symm [] [(12,9)] Q3<|fR Q2<|gI (p:=((t.aM.set w_.toNat x6.2.2).set w_.toNat x27)) () [32,12,1,2,3,4,5,6,7,8,10,11] hF Q)) λx26 _=>E9 () [1,2,3,4,5,6,7,8,9,0,10,11] Q Q
theorem CH{l:List aQ}(h1:bU U s1 l):V0 prog U 206 (PE l n) [.h s1 l.length,I n] I:=
 b7 call206 func206 Q Q2<|λhF=>a3A Q Q Q Q<|aY3 Q Q Q Q<|a4V Q Q Q Q Q h1 Q Q hF λhF s2 h2=>wi hF<|LW () [14,15] (λ(p:Int×Int) (_:Unit)=>[(5,I p.1),(16,I p.2)]) [] [] (λp _=>[]) id [] (λ(x5:Int) (_:Unit)=>[(5,I x5)]) [] (λx5 _=>[]) Q Q (λhF1 ⟨x3,x4⟩ _ hr1=>aZ [17] Q2 (cG 2 0 (EL x4) [14,15,16] (λ(x6:Int) (_:Unit)=>[(5,I x6)]) [] (λx6 _=>[]) Q (vB BT Q h2 Q λx7 _ _=>aZ [22] Q2 (b8 [] Q2)<|b8 [] Q2) λx6 _=>CS [] Q)<|wY [] Q) λx5 _=>cA Q2
theorem X2{b0:Nat×Nat}:VS prog U 91 (xX t w_) [.p 0 0,I w_] [b0] ([.box 0 (IY t s1 s2 s3 s4 s5 s6 s7 s8 s9 s10 s11)]++(SK t s1 s2 s3 s4 s5 s6 s7 s8 s9 s10 s11 [])) (λr (y:A6C)=>.t []) (λr y=>([.box 0 (IY r y.1 y.2.1 y.2.2.1 y.2.2.2.1 y.2.2.2.2.1 y.2.2.2.2.2 s7 s8 s9 s10 s11)]++(SK r y.1 y.2.1 y.2.2.1 y.2.2.2.1 y.2.2.2.2.1 y.2.2.2.2.2 s7 s8 s9 s10 s11 []))):=
 b7 call91 func91 Q Q2<|gZ aY 9 Q3 λx1 h1 s12 h2=>λhF=>fM 1 h2 h1 Q5<|wi hF<|cG 0 2 (yX t w_) [0,1,4] (λ(x2:Bool) (_:Unit)=>[(25,.b x2)]) [1,2,3,4,5,6,7,8,10,11,0,14] (λx2 _=>[ow s9 (t.aM:List aE)]) Q (dM aC [0,14] Q<|λhF=>bd hF λx16 hA5 hF=>aCK Q Q ((by refine dJ Q2 ?_ ?_<;>exact z8 hA5 Q (λh=>CH (h.o 17 Q))<|sF Q<|fC aY 12 [15,16,17,18,19,20,21] h1 s12 Q7<|fR Q2<|gI (p:=(decide (x16<=x1.K))) () [22,1,2,3,4,5,6,7,8,10,11,0,14] hF Q)) (dJ Q2 (z8 hA5 Q (λh=>CH (h.o 17 Q))<|sF Q<|fC aY 12 [15,16,17,18,19,20,21] h1 s12 Q7<|fR Q2<|gI (p:=(decide (x16<=x1.K))) () [22,1,2,3,4,5,6,7,8,10,11,0,14] hF Q) ((by refine dJ Q2 ?_ ?_<;>exact z8 hA5 Q (λh=>CH (h.o 17 Q))<|sF Q<|fC aY 12 [15,16,17,18,19,20,21] h1 s12 Q7<|fR Q2<|gI (p:=(decide (x16<=x1.K))) () [22,1,2,3,4,5,6,7,8,10,11,0,14] hF Q))) (dJ Q2 (z8 hA5 Q (λh=>CH (h.o 17 Q))<|sF Q<|fC aY 12 [15,16,17,18,19,20,21] h1 s12 Q7<|fR Q2<|gI (p:=(decide (x16<=x1.K))) () [22,1,2,3,4,5,6,7,8,10,11,0,14] hF Q) ((by refine dJ Q2 ?_ ?_<;>exact z8 hA5 Q (λh=>CH (h.o 17 Q))<|sF Q<|fC aY 12 [15,16,17,18,19,20,21] h1 s12 Q7<|fR Q2<|gI (p:=(decide (x16<=x1.K))) () [22,1,2,3,4,5,6,7,8,10,11,0,14] hF Q)))) λx2 _=>aZ [25] Q2 (λhF=>ro aY 0 12 1 Q Q Q Q hF λx3 h3 hF s13=>sR Q<|jB aY 13 [16,17,18,19,20,21,22] [] ({x3 with Pc:=7,K:=0}:aE) s13 Q8<|fR Q2<|kE s9 bV.symm [] [(11,9)] Q3<|fR Q2<|l6 (s1,s2,s3,s4,s5,s6) [11,1,2,3,4,5,6,7,8,23,9,10] hF Q2 Q4)<|dM aC [12] Q<|λhF=>ro aY 0 12 1 Q Q Q Q hF λx4 h5 hF s14=>wi hF<|aMM 14 1 16 10 11 0 0 8 [1,2,3,4,5,6,7] Q Q Q Q Q (λ_=>IK) λx5 s15=>aZ [66,72] Q2 (λhF=>sF Q<|jB aY 13 [16,17,18,19,20,21,22] [] ({x4 with Sub:=x5.1}:aE) s14 Q8<|fR Q2<|kE s9 bV.symm [] [(11,9)] Q3<|fR Q2<|l6 s15 [11,23,24,25,26,27,28,29,8,30,9,10] hF Q2 Q4)<|cG 0 2 (λ(p:Bool×Table)=>gD w_ p.1 p.2) [0,4] (λ(p:Bool×Table) (_:Unit)=>[(73,.b p.1)]) [12] (λp _=>(SK p.2 s15.1 s15.2.1 s15.2.2.1 s15.2.2.2.1 s15.2.2.2.2.1 s15.2.2.2.2.2 s7 s8 s9 s10 s11 [.box 0 (IY p.2 s15.1 s15.2.1 s15.2.2.1 s15.2.2.2.1 s15.2.2.2.2.1 s15.2.2.2.2.2 s7 s8 s9 s10 s11)])) Q (fV [79,80] Q2 (λhF=>sF Q<|jB aY 13 [16,17,18,19,20,21,22] [] ({x4 with Sub:=x5.1}:aE) s14 Q8<|fR Q2<|kE s9 bV.symm [] [(11,9)] Q3<|fR Q2<|gI (p:=(true,({t with aA:=x5.2,aM:=t.aM.set w_.toNat ({x4 with Sub:=x5.1}:aE)}:Table))) () [23,24,25,26,27,28,29,8,30,9,10,11,12] hF Q)<|c0 Q (λ_=>jE) λx15=>fV [87,88,89] Q2 (λhF=>sF Q<|jB aY 13 [16,17,18,19,20,21,22] [] ({x4 with Sub:=x5.1}:aE) s14 Q8<|fR Q2<|kE s9 bV.symm [] [(11,9)] Q3<|fR Q2<|gI (p:=(true,({t with aA:=x5.2,aM:=t.aM.set w_.toNat ({x4 with Sub:=x5.1}:aE)}:Table))) () [23,24,25,26,27,28,29,8,30,9,10,11,12] hF Q)<|λhF=>sF Q<|jB aY 13 [16,17,18,19,20,21,22] [] ({x4 with Sub:=x5.1}:aE) s14 Q8<|fR Q2<|kE s9 bV.symm [] [(11,9)] Q3<|fR Q2<|gI (p:=(decide (6<=(x4.cT.length:Int)),({t with aA:=x5.2,aM:=t.aM.set w_.toNat ({x4 with Sub:=x5.1}:aE)}:Table))) () [23,24,25,26,27,28,29,8,30,9,10,11,12] hF Q) λ⟨x6,x7⟩ _=>aZ [73] Q2 (λhF=>ro aY 8 12 1 Q Q Q Q hF λx8 h7 hF s16=>wi hF<|jN 14 1 0 32 [16,17,18,19,20,21,22] Q5 (λ_=>dN) λx9 _=>λhF=>sF Q<|jB aY 13 [23,24,25,26,27,28,29] [] x9 s16 Q8<|fR Q2<|kE s9 bV.symm [] [(11,9)] Q3<|fR Q2<|l6 s15 [11,0,1,2,3,4,5,6,7,30,9,10] hF Q2 Q4)<|cG 0 2 (yW w_) [0,4] (λ(x10:Table) (_:Unit)=>[]) [12] (λx10 _=>(SK x10 s15.1 s15.2.1 s15.2.2.1 s15.2.2.2.1 s15.2.2.2.2.1 s15.2.2.2.2.2 s7 s8 s9 s10 s11 [.box 0 (IY x10 s15.1 s15.2.1 s15.2.2.1 s15.2.2.2.1 s15.2.2.2.2.1 s15.2.2.2.2.2 s7 s8 s9 s10 s11)])) Q (dM aC [11,12] Q<|λhF=>bd hF λx14 hA3 hF=>nd hF λhA4 hF=>dJ Q2 (have hq5:=rb hA3;ro aY 8 12 1 Q Q Q Q hq5 λu5 h17 hq5 s23=>match u5,hq5 with|_,rfl=>lt1 Q bB Q4 λs24=>have hq6:=rn hA4;ap 20 bB Q Q Q Q Q Q Q (λh=>(h.o 23 Q)) Q Q hq6 λhq6 s25=>sF Q<|jB aY 13 [16,17,18,19,20,21,22] [] ({x14 with cT:=x14.cT++([x14.Sub.Out])}:aE) (s23.1,s23.2.1,s23.2.2.1,s23.2.2.2.1,s25,s23.2.2.2.2.2.1,s23.2.2.2.2.2.2) Q8<|fR Q2<|kE s9 bV.symm [] [(11,9)] Q3<|fR Q2<|gI (p:=(({x7 with aM:=x7.aM.set w_.toNat ({x14 with cT:=x14.cT++([x14.Sub.Out])}:aE)}:Table))) () [0,1,2,3,4,5,6,7,24,9,10,11,12] hF Q) (have hq7:=rb hA3;ro aY 8 12 1 Q Q Q Q hq7 λu6 h19 hq7 s26=>match u6,hq7 with|_,rfl=>(by refine dJ Q2 ?_ ?_<;>exact lt1 Q bB Q4 λs27=>have hq8:=rn hA4;ap 20 bB Q Q Q Q Q Q Q (λh=>(h.o 23 Q)) Q Q hq8 λhq8 s28=>sF Q<|jB aY 13 [16,17,18,19,20,21,22] [] ({x14 with cT:=x14.cT++([x14.Sub.Out])}:aE) (s26.1,s26.2.1,s26.2.2.1,s26.2.2.2.1,s28,s26.2.2.2.2.2.1,s26.2.2.2.2.2.2) Q8<|fR Q2<|kE s9 bV.symm [] [(11,9)] Q3<|fR Q2<|gI (p:=(({x7 with aM:=x7.aM.set w_.toNat ({x14 with cT:=x14.cT++([x14.Sub.Out])}:aE)}:Table))) () [0,1,2,3,4,5,6,7,24,9,10,11,12] hF Q))) λx10 _=>cG 0 2 yV [0] (λ(x11:Table) (_:Unit)=>[]) [] (λx11 _=>(SK x11 s15.1 s15.2.1 s15.2.2.1 s15.2.2.2.1 s15.2.2.2.2.1 s15.2.2.2.2.2 s7 s8 s9 s10 s11 [.box 0 (IY x11 s15.1 s15.2.1 s15.2.2.1 s15.2.2.2.1 s15.2.2.2.2.1 s15.2.2.2.2.2 s7 s8 s9 s10 s11)])) Q (dM aC [11,12] Q<|λhF=>bd hF λx12 hA1 hF=>bd hF λx13 hA2 hF=>dJ Q2 (have hq1:=rb hA1;ro aY 8 12 1 Q Q Q Q hq1 λu1 h11 hq1 s18=>match u1,hq1 with|_,rfl=>z8 hA2 Q (λ_=>o9)<|sF Q<|jB aY 13 [16,17,18,19,20,21,22] [] ({x12 with K:=bC (x12.K+1),Sub:=x13}:aE) s18 Q8<|fR Q2<|kE s9 bV.symm [] [(11,9)] Q3<|fR Q2<|gI (p:=(({x10 with aM:=x10.aM.set w_.toNat ({x12 with K:=bC (x12.K+1),Sub:=x13}:aE)}:Table))) () [0,1,2,3,4,5,6,7,23,9,10,11] hF Q) (z8 hA2 Q (λ_=>o9)<|have hq4:=rb hA1;ro aY 8 12 1 Q Q Q Q hq4 λu4 h13 hq4 s19=>match u4,hq4 with|_,rfl=>sF Q<|jB aY 13 [16,17,18,19,20,21,22] [] ({x12 with K:=bC (x12.K+1),Sub:=x13}:aE) s19 Q8<|fR Q2<|kE s9 bV.symm [] [(11,9)] Q3<|fR Q2<|gI (p:=(({x10 with aM:=x10.aM.set w_.toNat ({x12 with K:=bC (x12.K+1),Sub:=x13}:aE)}:Table))) () [0,1,2,3,4,5,6,7,23,9,10,11] hF Q)) λx11 _=>E9 s15 [11,0,1,2,3,4,5,6,7,8,9,10] Q Q
theorem SQ:V0 prog U 475 (cmp_isNaN_int x) [I x] .b:=
 b7 call475 func475 Q Q2<|cA Q2
theorem U0{y:Int}:V0 prog U 453 (cmp_Less_int x y) [I x,I y] .b:=
 b7 call453 func453 Q Q2<|dX 0 0 tL [] 4 [] Q (c0 Q (λ_=>SQ) λx2=>fV [6,7] Q2 (c0 Q (λ_=>SQ) λx3=>fV [10,11,12] Q2 (b8 [] Q2)<|b8 [] Q2)<|b8 [] Q2) λx1=>cA Q2
theorem CP{data:List Int}{b:Int}:VS prog U 447 (gL data a_ b) [.h s1 data.length,I a_,I b] [] [ow s1 (data:List Int)] (λr (y:Unit)=>.t []) (λr y=>[.o (eK [AC.v s1 data.length] r)]):=
 b7 call447 func447 Q Q2<|LW () [1,2] (λ(p:(List Int)×Int) (_:Unit)=>[(0,.h s1 p.1.length),(6,I p.2)]) [0] [] (λp _=>[ow s1 (p.1:List Int)]) id [] (λ(x5:(List Int)) (_:Unit)=>[(0,.h s1 x5.length)]) [] (λx5 _=>[ow s1 (x5:List Int)]) Q Q (λhF1 ⟨x3,x4⟩ _ hr1=>λhG1=>nd hG1 λhl3 hG1=>wi hG1<|aZ [12] Q2 (LW () [1,2,6] (λ(p:(List Int)×Int) (_:Unit)=>[(0,.h s1 p.1.length),(7,I p.2)]) [0] [] (λp _=>[ow s1 (p.1:List Int)]) id [1,2,6] (λ(x10:(List Int)) (_:Unit)=>[(0,.h s1 x10.length)]) [] (λx10 _=>[ow s1 (x10:List Int)]) Q Q (λhF2 ⟨x8,x9⟩ _ hr2=>λhG2=>nd hG2 λhl6 hG2=>wi hG2<|dX 0 0 (dE data x8 x9) [0,1,2,6,7] 30 [0] Q (dM aC [] Q<|fV [18,19] Q2 (gZ oI 0 Q3 λx16 h27 _ h28=>λhG2=>fM 0 h28 h27 Q5<|cqS oI 1 [] h27 () Q9<|wi hG2<|gZ oI 4 Q3 λx17 h29 _ h30=>λhG2=>fM 1 h30 h29 Q5<|bd hG2 λx18 hA2 hG2=>dJ Q2 (cqS oI 5 [] h29 () Q9<|have hq8:=rb h27;ro oI 8 3 0 Q Q Q Q hq8 λu8 h35 hq8 _=>match u8,hq8 with|_,rfl=>cqS oI 9 [] h35 () Q9<|have hq9:=rb h29;ro oI 12 7 1 Q Q Q Q hq9 λu9 h37 hq9 _=>match u9,hq9 with|_,rfl=>z8 hA2 Q (λ_=>U0)<|sF Q<|fC oI 13 [] h37 () Q7<|gI (p:=(x18)) () [16] hG2 Q) (cqS oI 5 [] h29 () Q9<|have hq11:=rb h27;ro oI 8 3 0 Q Q Q Q hq11 λu11 h39 hq11 _=>match u11,hq11 with|_,rfl=>z8 hA2 Q (λ_=>U0)<|sF Q<|fC oI 9 [] h39 () Q7<|gI (p:=(x18)) () [12] hG2 Q))<|b8 (p:=(false)) [0] Q2) λx11=>λhG2=>nd hG2 λhl7 hG2=>wi hG2<|aZ [30] Q2 (cG 0 0 (iK data x9) [1,2,6,7] (λ(x12:(List Int)) (_:Unit)=>[(0,.h s1 x12.length)]) [] (λx12 _=>[ow s1 (x12:List Int)]) Q (dM aC [] Q<|gZ oI 0 Q3 λx13 h1 _ h2=>λhG2=>fM 0 h2 h1 Q5<|cqS oI 1 [] h1 () Q9<|wi hG2<|gZ oI 4 Q3 λx14 h3 _ h4=>λhG2=>fM 1 h4 h3 Q5<|bd hG2 λx15 hA1 hG2=>dJ Q2 (cqS oI 5 [] h3 () Q9<|have hq1:=rb h1;ro oI 8 3 0 Q Q Q Q hq1 λu1 h13 hq1 _=>match u1,hq1 with|_,rfl=>cqS oI 9 [] h13 () Q9<|have hq2:=rb h3;ro oI 12 7 1 Q Q Q Q hq2 λu2 h15 hq2 _=>match u2,hq2 with|_,rfl=>cqS oI 13 [] h15 () Q9<|have hq3:=rb h3;wi hq3<|gZ oI 16 Q3 λu3 h17 _ h18=>λhq3=>fM 2 h18 h17 Q5<|match u3,hq3 with|_,rfl=>ceS oI 17 [] [0,33,35,38,43] x13 () Q10<|have hq4:=rb hA1;wi hq4<|gZ oI 20 Q3 λu4 h19 _ h20=>λhq4=>fM 3 h20 h19 Q5<|match u4,hq4 with|_,rfl=>sF Q<|jB oI 21 [] [0,33,35,38,43] x14 () Q8<|gI (p:=((x8.set x9.toNat x13).set ((bC (x9-1)).toNat) x14)) () [24] hG2 Q) (cqS oI 5 [] h3 () Q9<|have hq5:=rb h1;ro oI 8 3 0 Q Q Q Q hq5 λu5 h21 hq5 _=>match u5,hq5 with|_,rfl=>cqS oI 9 [] h21 () Q9<|have hq6:=rb h3;wi hq6<|gZ oI 12 Q3 λu6 h23 _ h24=>λhq6=>fM 2 h24 h23 Q5<|match u6,hq6 with|_,rfl=>ceS oI 13 [] [0,33,35,38,43] x13 () Q10<|have hq7:=rb hA1;wi hq7<|gZ oI 16 Q3 λu7 h25 _ h26=>λhq7=>fM 3 h26 h25 Q5<|match u7,hq7 with|_,rfl=>sF Q<|jB oI 17 [] [0,33,35,38,43] x14 () Q8<|gI (p:=((x8.set x9.toNat x13).set ((bC (x9-1)).toNat) x14)) () [20] hG2 Q)) λx12 _=>λhG2=>nd hG2 λhl8 hG2=>wi hG2<|CS [0] Q)<|wY [0] Q) λx10 _=>λhG1=>nd hG1 λhl5 hG1=>wi hG1<|CS [0] Q)<|wY [0] Q) λx5 _=>λhF=>nd hF λhl2 hF=>sF Q<|pnR 0 hl2 Q<|l6 () [0] hF Q2 Q4
theorem KG{data:List Int}{b limit:Int}:VS prog U 401 (m7 data a_ b limit) [.h s1 data.length,I a_,I b,I limit] [] [ow s1 (data:List Int)] (λr (y:Unit)=>.t []) (λr y=>[.o (eK [AC.v s1 data.length] r)]):=
 b7 call401 func401 Q Q2<|lrW () [0,1,2,3,8,9] (λ(_:Unit) (_:Unit)=>[]) [0] [0] (λ_ _=>[]) Q Q (λhF1 _ _ hr1=>aZ [23] Q2 (gK [0] Q4 (λ_=>CP) λx1 _=>λhG1=>un 1 [0,24] [] [] Q6 λhl2=>sR Q<|pnR 1 hl2 Q<|l6 () [1] (re hG1 Q hr1 hF1) Q2 Q4)<|aZ [29] Q2 (λhG1=>nomatch hG1)<|λhG1=>nomatch hG1)
theorem ZT:V0 prog U 457 (SH x) [.i .u64 x] I:=
 b7 call457 func457 Q Q2<|cG 0 0 (λ(p:Int×Int)=>BP p.1 p.2) [] (λ(p:Int×Int) (_:Unit)=>[(0,.i .u64 p.1),(2,I p.2)]) [] (λp _=>[]) Q (aZ [4] Q2 (b8 (p:=(zA .u64 x 32,32)) [] Q2)<|b8 (p:=(x,0)) [] Q2) λ⟨x1,x2⟩ _=>cG 0 0 (λ(p:Int×Int)=>BO p.1 p.2) [] (λ(p:Int×Int) (_:Unit)=>[(0,.i .u64 p.1),(2,I p.2)]) [] (λp _=>[]) Q (aZ [8] Q2 (b8 (p:=(zA .u64 x1 16,bC (x2+16))) [] Q2)<|b8 (p:=(x1,x2)) [] Q2) λ⟨x3,x4⟩ _=>cG 0 0 (λ(p:Int×Int)=>BN p.1 p.2) [] (λ(p:Int×Int) (_:Unit)=>[(0,.i .u64 p.1),(2,I p.2)]) [] (λp _=>[]) Q (aZ [14] Q2 (b8 (p:=(zA .u64 x3 8,bC (x4+8))) [] Q2)<|b8 (p:=(x3,x4)) [] Q2) λ⟨x5,x6⟩ _=>λhF=>qsi Q Q Q Q Q hF λx7 _ hF=>wi hF<|cA Q2
theorem aD5:V0 prog U 402 (zT x) [.i .u64 x] I:=
 b7 call402 func402 Q Q2<|c0 Q (λ_=>ZT) λx1=>cA Q2
theorem ZU{x:List Int}:VS prog U 317 (AZ x) [.h s1 x.length] [] [ow s1 (x:List Int)] (λr (y:Unit)=>.t []) (λr y=>[.o (eK [AC.v s1 x.length] r)]):=
 b7 call317 func317 Q Q2<|c0 Q (λ_=>aD5) λx1=>gK [0] Q4 (λ_=>KG) λx2 _=>λhF=>un 1 [0,3,5] [] [] Q6 λhl1=>sF Q<|pnR 1 hl1 Q<|l6 () [1] hF Q2 Q4
theorem U1:VS prog U 318 (slices_Compact_int s) [.h s1 s.length] [] [ow s1 s] (λr (y:AC)=>.h y r.length) (λr y=>[ow y r]):=
 bAS a9C call318
theorem aHO{l:List aQ}(h1:bU U s1 l):VS prog U 208 (J8 l) [.h s1 l.length] [] [] (λr (y:AC)=>.h y r.length) (λr y=>[ow y r]):=
 b7 call208 func208 Q Q2<|λhF=>lt0 (O:=Int) bB Q4 λs2=>wi hF<|LW s2 [8,9] (λ(p:(List Int)×Int) (s4:AC)=>[(3,.h s4 p.1.length),(10,I p.2)]) [0] [] (λp s4=>[ow s4 (p.1:List Int)]) id [] (λ(x5:(List Int)) (s5:AC)=>[(3,.h s5 x5.length)]) [] (λx5 s5=>[ow s5 (x5:List Int)]) Q Q (λhF1 ⟨x3,x4⟩ s4 hr1=>aZ [11] Q2 (cG 2 0 (A0 x4) [8,9,10] (λ(x8:(List Int)) (s7:AC)=>[(3,.h s7 x8.length)]) [] (λx8 s7=>[ow s7 (x8:List Int)]) Q (vB BT Q h1 Q λx9 _ _=>c0 Q (λ_=>RB) λx10=>aZ [18] Q2 (λhG1=>lt1 Q bB Q4 λs8=>ap 0 bB Q Q Q Q Q Q Q (λh=>(h.o 3 Q)) Q Q hG1 λhG1 s9=>wi hG1<|lI s9 [0] Q2)<|lI s4 [0] Q2) λx8 s7=>nxW s7 [0] Q)<|bkW s4 [0] Q) λx5 s5=>wm (F:=ID x5) Q<|gK [0] Q4 (λ_=>ZU) λx6 _=>λhF=>un 1 [3,24] [] [] Q6 λhl2=>wi hF<|gK [1] Q4 (λ_=>U1) λx7 s6=>dL s6 [2] Q2
theorem LI{s:List Seen}{f:(Seen->Option Bool)}(h1:bU U s1 s)(h_f:YS prog U (aGK:FI Seen) .b g_f cap_f f):V0 prog U 209 (iD s f) [.h s1 s.length,.k (.func (.func g_f) #[] cap_f.toArray)] .b:=
 b7 call209 func209 Q Q2<|c0 Q (λh=>CG (h.a h1) (h.u1 h_f)) λx1=>cA Q2
theorem WD{s:Seen}{k1:cM}{b0 b1 b2:Nat×Nat}:VS prog U 210 (uS s k0 k1) [.g [I s.cM,I s.fF],.p 0 0,.p 1 0] [b0,b1,b2] [.ro 0 [I k0],.ro 1 [.p 2 0],.ro 2 [I k1.Head,I k1.fF,I k1.gG]] (λr (_:Unit)=>.b r) (λ_ _=>[]):=
 b7 call210 func210 Q Q2<|dX 0 4 oO [] 4 [] Q (dM aC [0,1,2,3] Q<|fV [8,9] Q2 (b8 [] Q2)<|b8 [] Q2) λx1=>cA Q2
theorem ZV{b0:Nat×Nat}:VS prog U 92 (A1 t w_) [.p 0 0,I w_] [b0] ([.box 0 (IY t s1 s2 s3 s4 s5 s6 s7 s8 s9 s10 s11)]++(SK t s1 s2 s3 s4 s5 s6 s7 s8 s9 s10 s11 [])) (λr (y:AC)=>.t []) (λr y=>([.box 0 (IY r s1 s2 s3 s4 s5 s6 s7 s8 s9 s10 y)]++(SK r s1 s2 s3 s4 s5 s6 s7 s8 s9 s10 y []))):=
 b7 call92 func92 Q Q2<|gZ aY 9 Q3 λx1 h1 s12 h2=>λhF=>fM 1 h2 h1 Q5<|wi hF<|c1 Q (λh=>aHO (h.o 17 Q)) λx2 s13=>cG 0 2 (λ(p:(List cM)×(List aE))=>mN t w_ x2 p.1 p.2) [0,1,4,5] (λ(p:(List cM)×(List aE)) (_:Unit)=>[]) [22,1,2,3,4,5,6,7,10,11,14] (λp _=>[ow s8 (p.1:List cM),ow s9 (p.2:List aE),.box 0 [.h s1 t.aA.Mem.Heap.Bytes.length,.h s2 t.aA.Mem.Heap.Class.length,.h s3 t.aA.Mem.aD.Global.length,.h s4 t.aA.Mem.aD.Own.length,I t.aA.aI.aO,.h s5 t.aA.aI.bX.length,.h s6 t.aA.a8.length,.h s7 t.aA.kZ.length,.h s8 p.1.length,.h s9 p.2.length,.h s10 t.bL.length,.h s11 t.Log.length,I t.aK]]) Q (aZ [25] Q2 (gZ oI 22 Q3 λx7 h7 _ h8=>λhF=>fM 2 h8 h7 Q5<|cqS oI 23 [] h7 () Q9<|wi hF<|dM aC [0,14,25,26] Q<|gZ iE 8 Q3 λx8 h9 _ h10=>λhF=>fM 4 h10 h9 Q5<|wi hF<|cG 0 6 (gQ t w_ x2 x7) [0,1,4,5,6,7] (λ(x9:Bool) (_:Unit)=>[(39,.b x9)]) [27,1,2,3,4,5,6,7,10,11,0,14,30] (λx9 _=>[ow s8 (t.aT:List cM),ow s9 (t.aM:List aE),.ro 3 [I x7],.ro 5 [.p 4 0]]) Q (λhF=>shS [3,5] Q Q<|wi hF<|fV [44,45] Q2 (λhF=>sF Q<|fC iE 28 [] h9 () Q7<|fR Q2<|fC aY 12 [15,16,17,18,19,20,21] h1 s12 Q7<|fR Q2<|gI () [32,33,26,31,27,1,2,3,4,5,6,7,10,11,0,14,30] hF Q)<|λhF=>mf [3,5] Q Q Q<|wi hF<|clP (n3:=4) [26,31,29] Q Q Q Q (λh=>λhB=>LI (h.o 16 Q) (fkP (xs:=[.p 0 0,.p 1 0]) call210 hB Q λ_ _=>WD)) λx19=>λhF=>sF Q<|fC iE 28 [] h9 () Q7<|fR Q2<|fC aY 12 [15,16,17,18,19,20,21] h1 s12 Q7<|fR Q2<|gI () [32,33,26,31,27,1,2,3,4,5,6,7,10,11,0,14,30] hF Q) λx9 _=>aZ [39] Q2 (λhF=>ro aY 1 15 1 Q Q Q Q hF λx10 h11 hF s25=>wi hF<|jN 18 1 0 32 [20,21,22,23,24,25,26] Q5 (λ_=>dN) λx11 _=>λhF=>sR Q<|jB aY 17 [27,28,29,30,31,32,33] [] x11 s25 Q8<|fR Q2<|kE s9 bV.symm [] [(14,9)] Q3<|fR Q2<|l6 s11 [14,5,6,7,8,9,10,11,0,34,12,13] hF Q2 Q4)<|λhF=>ro iE 0 16 4 Q Q Q Q hF λx12 h13 hF _=>wi hF<|aZ [55,60] Q2 (λhF=>ro aY 1 15 1 Q Q Q Q hF λx13 h15 hF s26=>wi hF<|jN 21 1 0 32 [23,24,25,26,27,28,29] Q5 (λ_=>dN) λx14 _=>λhF=>sR Q<|jB aY 20 [30,31,32,33,34,35,36] [] x14 s26 Q8<|fR Q2<|kE s9 bV.symm [] [(14,9)] Q3<|fR Q2<|fC iE 17 [] h13 () Q7<|fR Q2<|l6 s11 [14,5,6,7,8,9,10,11,38,37,12,13] hF Q2 Q4)<|cG 1 6 (mO t w_ x2 x7 x12) [0,1,4,5] (λ(x15:(List aE)) (_:Unit)=>[]) [4,5,6,7,8,9,10,11,12,13,15] (λx15 _=>[ow s8 (t.aT.set x7.toNat ({x12 with gG:=bC (w_+1)}:cM):List cM),ow s9 (x15:List aE),.box 0 [.h s1 t.aA.Mem.Heap.Bytes.length,.h s2 t.aA.Mem.Heap.Class.length,.h s3 t.aA.Mem.aD.Global.length,.h s4 t.aA.Mem.aD.Own.length,I t.aA.aI.aO,.h s5 t.aA.aI.bX.length,.h s6 t.aA.a8.length,.h s7 t.aA.kZ.length,.h s8 (t.aT.set x7.toNat ({x12 with gG:=bC (w_+1)}:cM)).length,.h s9 x15.length,.h s10 t.bL.length,.h s11 t.Log.length,I t.aK]]) Q (dM aC [2,3,14,15,16,19] Q<|λhF=>ro aY 1 15 1 Q Q Q Q hF λx17 h19 hF s28=>wi hF<|c0 Q (λh=>FF (h.o 28 Q)) λx18=>aZ [74] Q2 (cG 0 6 (λ(_:Unit)=>BQ t w_ x2 x7 x12 x17) [0,1,4,5] (λ(_:Unit) (_:Unit)=>[]) [4,5,6,7,8,9,10,11,12,13,15] (λ_ _=>[ow s8 (t.aT.set x7.toNat ({x12 with gG:=bC (w_+1)}:cM):List cM),ow s9 (t.aM.set w_.toNat ({x17 with bA:=x17.bA++([x7])}:aE):List aE),.box 0 [.h s1 t.aA.Mem.Heap.Bytes.length,.h s2 t.aA.Mem.Heap.Class.length,.h s3 t.aA.Mem.aD.Global.length,.h s4 t.aA.Mem.aD.Own.length,I t.aA.aI.aO,.h s5 t.aA.aI.bX.length,.h s6 t.aA.a8.length,.h s7 t.aA.kZ.length,.h s8 (t.aT.set x7.toNat ({x12 with gG:=bC (w_+1)}:cM)).length,.h s9 (t.aM.set w_.toNat ({x17 with bA:=x17.bA++([x7])}:aE)).length,.h s10 t.bL.length,.h s11 t.Log.length,I t.aK]]) Q (dM aC [2,3,14,15,16,19,22] Q<|λhF=>nd hF λhA2 hF=>(by refine dJ Q2 ?_ ?_<;>exact lt1 Q bB Q4 λs31=>have hq4:=rn hA2;ap 28 bB Q Q Q Q Q Q Q (λh=>(h.o 30 Q)) Q Q hq4 λhq4 s32=>sF Q<|jB aY 20 [23,24,25,26,27,28,29] [] ({x17 with bA:=x17.bA++([x7])}:aE) (s28.1,s28.2.1,s28.2.2.1,s28.2.2.2.1,s28.2.2.2.2.1,s32,s28.2.2.2.2.2.2) Q8<|fR Q2<|kE s9 bV.symm [] [(14,9)] Q3<|fR Q2<|jB iE 17 [] [] ({x12 with gG:=bC (w_+1)}:cM) () Q8<|fR Q2<|kE s8 bV.symm [] [(14,8)] Q3<|fR Q2<|gI (p:=()) () [32,31,14,4,5,6,7,8,9,10,11,12,13,15] hF Q)) λ_ _=>b8 (p:=(t.aM.set w_.toNat ({x17 with bA:=x17.bA++([x7])}:aE))) [0,1,2,3,4,5,6,7,8,9,10,11,12,13] Q2)<|λhF=>sF Q<|fC aY 20 [23,24,25,26,27,28,29] h19 s28 Q7<|fR Q2<|jB iE 17 [] [] ({x12 with gG:=bC (w_+1)}:cM) () Q8<|fR Q2<|kE s8 bV.symm [] [(14,8)] Q3<|fR Q2<|gI () [31,30,14,4,5,6,7,8,9,10,11,12,13,15] hF Q) λx15 _=>λhF=>ro aY 1 13 1 Q Q Q Q hF λx16 h17 hF s27=>sF Q<|jB aY 14 [17,18,19,20,21,22,23] [] ({x16 with K:=bC (x16.K+1)}:aE) s27 Q8<|fR Q2<|kE s9 bV.symm [] [(2,9)] Q3<|fR Q2<|gI (p:=(t.aT.set x7.toNat ({x12 with gG:=bC (w_+1)}:cM),x15.set w_.toNat ({x16 with K:=bC (x16.K+1)}:aE))) () [0,24,2,3,4,5,6,7,8,9,10,11,12,13] hF Q)<|λhF=>sF Q<|fC aY 12 [15,16,17,18,19,20,21] h1 s12 Q7<|fR Q2<|gI (p:=(t.aT,t.aM)) () [8,23,0,22,1,2,3,4,5,6,7,10,11,14] hF Q) λ⟨x3,x4⟩ _=>λhF=>ro aY 1 13 1 Q Q Q Q hF λx5 h3 hF s14=>wi hF<|aZ [98] Q2 (cG 0 2 (λ(_:Unit)=>sB t w_ x3 x4 x5) [0,4] (λ(_:Unit) (s15:AC)=>[]) [4,5,6,7,8,9,10,0,11,13] (λ_ s15=>[ow s9 (x4:List aE),ow s15 (t.Log++([(⟨2,w_,x5.aK,0,[],[]⟩:qZ)]):List qZ),.box 0 [.h s1 t.aA.Mem.Heap.Bytes.length,.h s2 t.aA.Mem.Heap.Class.length,.h s3 t.aA.Mem.aD.Global.length,.h s4 t.aA.Mem.aD.Own.length,I t.aA.aI.aO,.h s5 t.aA.aI.bX.length,.h s6 t.aA.a8.length,.h s7 t.aA.kZ.length,.h s8 x3.length,.h s9 x4.length,.h s10 t.bL.length,.h s15 (t.Log++([(⟨2,w_,x5.aK,0,[],[]⟩:qZ)])).length,I t.aK]]) Q (dM aC [13,16] Q<|λhF=>nd hF λhA1 hF=>(by repeat' first|refine dJ Q2 ?_ ?_|refine nw jJ Q<|nw cV Q<|WR aGL [24,25] ((⟨2,w_,x5.aK,0,[],[]⟩:qZ)) (⟨none,0⟩,⟨none,0⟩) dO WS λs19=>?_|refine have hq1:=rn hA1;apN 12 26 dO Q Q Q9 hq1 λhq1 s20=>sF Q<|fC aY 14 [17,18,19,20,21,22,23] h3 s14 Q7<|fR Q2<|?_|exact gI (p:=()) s20 [28,27,2,4,5,6,7,8,9,10,0,11,13] hF Q)) λ_ s15=>λhF=>ro aY 0 12 1 Q Q Q Q hF λx6 h5 hF s16=>sF Q<|jB aY 13 [16,17,18,19,20,21,22] [] ({x6 with Pc:=8,K:=0}:aE) s16 Q8<|fR Q2<|kE s9 bV.symm [] [(2,9)] Q3<|fR Q2<|l6 s15 [2,3,4,5,6,7,8,9,10,23,11,1] hF Q2 Q4)<|λhF=>sF Q<|fC aY 14 [17,18,19,20,21,22,23] h3 s14 Q7<|l6 s11 [2,4,5,6,7,8,9,10,0,24,11,12] hF Q2 Q4
theorem TA{b0:Nat×Nat}:VS prog U 93 (pM t w_) [.p 0 0,I w_] [b0] ([.box 0 (IY t s1 s2 s3 s4 s5 s6 s7 s8 s9 s10 s11)]++(SK t s1 s2 s3 s4 s5 s6 s7 s8 s9 s10 s11 [])) (λr (y:Unit)=>.t []) (λr y=>([.box 0 (IY r s1 s2 s3 s4 s5 s6 s7 s8 s9 s10 s11)]++(SK r s1 s2 s3 s4 s5 s6 s7 s8 s9 s10 s11 []))):=
 b7 call93 func93 Q Q2<|gZ aY 9 Q3 λx1 h1 s12 h2=>λhF=>fM 1 h2 h1 Q5<|wi hF<|cG 0 2 (λ(_:Unit)=>sE t w_ x1) [0,1,4] (λ(_:Unit) (_:Unit)=>[(22,.b (decide ((x1.Reads.length:Int)<=x1.K)))]) [1,2,3,4,5,6,7,8,10,11,0,14] (λ_ _=>[ow s9 (t.aM:List aE)]) Q (dM aC [0,14] Q<|λhF=>(by refine dJ Q2 ?_ ?_<;>exact sF Q<|fC aY 12 [15,16,17,18,19,20,21] h1 s12 Q7<|fR Q2<|gI (p:=()) () [22,1,2,3,4,5,6,7,8,10,11,0,14] hF Q)) λ_ _=>aZ [22] Q2 (λhF=>ro aY 0 12 1 Q Q Q Q hF λx2 h3 hF s13=>sR Q<|jB aY 13 [16,17,18,19,20,21,22] [] ({x2 with Pc:=9,K:=0}:aE) s13 Q8<|fR Q2<|kE s9 bV.symm [] [(11,9)] Q3<|fR Q2<|l6 () [11,1,2,3,4,5,6,7,8,23,9,10] hF Q2 Q4)<|cG 0 4 (λ(p:Int×Int)=>sD t w_ p.1 p.2) [0,1,4] (λ(p:Int×Int) (_:Unit)=>[(5,.p 3 0)]) [1,2,3,4,5,6,7,8,0,9,10,11,12] (λp _=>[.box 3 [I p.1,I p.2]]) Q (dM aC [11,12] Q<|λhF=>bd hF λx13 hA1 hF=>bd hF λx14 hA2 hF=>aCK Q Q (have hq1:=rb hA1;ro aY 0 12 1 Q Q Q Q hq1 λu1 h15 hq1 s17=>match u1,hq1 with|_,rfl=>dJ Q2 (have hq2:=rb hA2;wi hq2<|gZ ET 17 Q3 λu2 h17 _ h18=>λhq2=>fM 2 h18 h17 Q5<|match u2,hq2 with|_,rfl=>(by refine dJ Q2 ?_ ?_<;>exact sF Q<|fC ET 23 [] h17 () Q7<|fR Q2<|fC aY 13 [16,27,18,19,20,21,22] h15 s17 Q7<|fR Q2<|gI (p:=(x14.cM,x14.fF)) () [26,1,2,3,4,5,6,7,8,28,9,10,11,12] hF Q)) (have hq3:=rb hA2;wi hq3<|gZ ET 17 Q3 λu3 h19 _ h20=>λhq3=>fM 3 h20 h19 Q5<|match u3,hq3 with|_,rfl=>sF Q<|swR 3 2 Q<|fD Q Q<|fC ET 24 [] h19 () Q7<|fR Q2<|fC aY 13 [16,27,18,19,20,21,22] h15 s17 Q7<|fR Q2<|gI (p:=(x14.cM,x14.fF)) () [23,1,2,3,4,5,6,7,8,28,9,10,11,12] hF Q)) (have hq4:=rb hA1;ro aY 0 12 1 Q Q Q Q hq4 λu4 h21 hq4 s18=>match u4,hq4 with|_,rfl=>dJ Q2 (have hq5:=rb hA2;wi hq5<|gZ ET 17 Q3 λu5 h23 _ h24=>λhq5=>fM 2 h24 h23 Q5<|match u5,hq5 with|_,rfl=>(by refine dJ Q2 ?_ ?_<;>exact sF Q<|fC ET 23 [] h23 () Q7<|fR Q2<|fC aY 13 [16,27,18,19,20,21,22] h21 s18 Q7<|fR Q2<|gI (p:=(x14.cM,x14.fF)) () [26,1,2,3,4,5,6,7,8,28,9,10,11,12] hF Q)) (have hq6:=rb hA2;wi hq6<|gZ ET 17 Q3 λu6 h25 _ h26=>λhq6=>fM 3 h26 h25 Q5<|match u6,hq6 with|_,rfl=>sF Q<|swR 3 2 Q<|fD Q Q<|fC ET 24 [] h25 () Q7<|fR Q2<|fC aY 13 [16,27,18,19,20,21,22] h21 s18 Q7<|fR Q2<|gI (p:=(x14.cM,x14.fF)) () [23,1,2,3,4,5,6,7,8,28,9,10,11,12] hF Q)) ((by refine dJ Q2 ?_ ?_<;>exact have hq7:=rb hA1;ro aY 0 12 1 Q Q Q Q hq7 λu7 h27 hq7 s19=>match u7,hq7 with|_,rfl=>have hq8:=rb hA2;wi hq8<|gZ ET 18 Q3 λu8 h29 _ h30=>λhq8=>fM 3 h30 h29 Q5<|match u8,hq8 with|_,rfl=>sF Q<|swR 3 2 Q<|fD Q Q<|fC ET 24 [] h29 () Q7<|fR Q2<|fC aY 14 [17,27,19,20,21,22,23] h27 s19 Q7<|fR Q2<|gI (p:=(x14.cM,x14.fF)) () [13,1,2,3,4,5,6,7,8,28,9,10,11,12] hF Q))) λ⟨x3,x4⟩ _=>cG 0 6 (λ(p:Int×Int×Int)=>sC t w_ x4 p.1 p.2.1 p.2.2) [0,1,4,5] (λ(p:Int×Int×Int) (_:Unit)=>[(6,.p 5 0)]) [1,2,3,4,5,6,7,8,9,10,11,12,13,0] (λp _=>[.box 5 [I p.1,I p.2.1,I p.2.2]]) Q (dM aC [0,12,13] Q<|gZ iE 8 Q3 λx12 h9 _ h10=>λhF=>fM 4 h10 h9 Q5<|(by refine dJ Q2 ?_ ?_<;>exact sF Q<|fC iE 14 [] h9 () Q7<|fR Q2<|gI (p:=(x12.Head,x12.fF,x12.gG)) () [17,1,2,3,4,5,6,7,18,9,10,11,12,13,0] hF Q)) λ⟨x5,x6,x7⟩ _=>dX 0 6 (eW t w_) [0,4] 63 [1,2,3,4,5,6,7,8,9,10,11,12,13] Q (fV [49,50] Q2 (fV [55,56,57] Q2 (b8 [1,2,3,4,5,6,7,8,9,10,11,12,13] Q2)<|b8 [1,2,3,4,5,6,7,8,9,10,11,12,13] Q2)<|b8 [1,2,3,4,5,6,7,8,9,10,11,12,13] Q2) λx8=>aZ [63] Q2 (λhF=>ro aY 8 12 1 Q Q Q Q hF λx9 h5 hF s14=>wi hF<|jN 14 1 0 32 [16,17,18,19,20,21,22] Q5 (λ_=>dN) λx10 _=>λhF=>sR Q<|jB aY 13 [23,24,25,26,27,28,29] [] x10 s14 Q8<|fR Q2<|kE s9 bV.symm [] [(11,9)] Q3<|fR Q2<|l6 () [11,0,1,2,3,4,5,6,7,30,9,10] hF Q2 Q4)<|λhF=>ro aY 8 12 1 Q Q Q Q hF λx11 h7 hF s15=>sF Q<|jB aY 13 [16,17,18,19,20,21,22] [] ({x11 with K:=bC (x11.K+1)}:aE) s15 Q8<|fR Q2<|kE s9 bV.symm [] [(11,9)] Q3<|fR Q2<|l6 () [11,0,1,2,3,4,5,6,7,23,9,10] hF Q2 Q4
theorem E0{x:aQ}{b0:Nat×Nat}:VS prog U 212 (nP j x) [.p 0 0,.g [I x.Key,.b x.F8,I x.fE]] [b0] ([.box 0 (PH j s1 s2 s3 s4 s5 s6 s7)]++(PI j s1 s2 s3 s4 s5 s6 s7 [])) (λr (y:Unit)=>.t []) (λr y=>([.box 0 (PH r s1 s2 s3 s4 s5 s6 s7)]++(PI r s1 s2 s3 s4 s5 s6 s7 []))):=
 b7 call212 func212 Q Q2<|aZ [8] Q2 (E9 () [0,1,2,3,4,5,6,7] Q Q)<|E9 () [0,1,2,3,4,5,6,7] Q Q
theorem E1(h1:bU U s1 m.Heap.Bytes)(h2:bU U s2 m.Heap.Class)(h3:bU U s3 m.aD.Global)(h4:bU U s4 m.aD.Own):VS prog U 227 (sG m) [.g (gM m s1 s2 s3 s4)] [] [] (λr (y:X8)=>.g (yM r y)) (λr y=>(zM r y [])):=
 b7 call227 func227 Q Q2<|dM aC [0] Q<|c1 Q (λh=>A8 (h.a h1) (h.a h2)) λx1 s5=>c1 Q (λh=>iT (h.a h3) (h.a h4)) λx2 s6=>dL (s5.1,s5.2,s6.1,s6.2) [2,3,4,5] Q2
theorem SR{s:aW}(h1:bU U s1 h.Bytes)(h2:bU U s2 h.Class)(h3:bU U s3 s.aR):V0 prog U 336 (zU h s c) [.g [.h s1 h.Bytes.length,.h s2 h.Class.length],.g [.h s3 s.aR.length],I c] .b:=
 b7 call336 func336 Q Q2<|LX 12 [2,3,10,11] [0] Out.brk [] [] Q Q (λhF1 x2 hr1=>aZ [13] Q2 (WT Q h3 Q λx3=>dX 0 3 (xY x2) [2,3,10,11,12] 26 [0] Q (c0 Q (λh=>mS (h.a h1) (h.a h2)) λx5=>fV [20,21] Q2 (b8 [0] Q2)<|c0 Q (λh=>KE (h.a h1) (h.a h2)) λx6=>b8 [0] Q2) λx4=>aZ [26] Q2 (HC hr1 hF1<|cA Q2)<|CS [0] Q)<|wY [] Q)<|cA Q2
theorem RC(h1:bU U s1 m.Heap.Bytes)(h2:bU U s2 m.Heap.Class)(h3:bU U s3 m.aD.Global)(h4:bU U s4 m.aD.Own):V0 prog U 234 (FX m) [.g (gM m s1 s2 s3 s4)] .b:=
 b7 call234 func234 Q Q2<|dX 0 1 (GZ m) [1] 16 [0] Q (c0 Q (λh=>W7 (h.a h1) (h.a h2)) λx10=>fV [10,11] Q2 (b8 [0] Q2)<|c0 Q (λh=>EY (h.a h3) (h.a h4)) λx11=>b8 [0] Q2) λx1=>aZ [16] Q2 (cA Q2)<|LX 21 [1,19,20] [0] Out.brk [1] [0] Q Q (λhF2 x3 hr2=>aZ [22] Q2 (vB BS Q h3 Q λx8 s6 h6=>c0 Q (λh=>SR (h.a h1) (h.a h2) (h.a h6)) λx9=>aZ [31] Q2 (HC hr2 hF2<|cA Q2)<|CS [0] Q)<|wY [0] Q)<|LX 37 [1,35,36] [0] Out.brk [] [] Q Q (λhF3 x5 hr3=>aZ [38] Q2 (vB BS Q h4 Q λx6 s5 h5=>c0 Q (λh=>SR (h.a h1) (h.a h2) (h.a h5)) λx7=>aZ [48] Q2 (HC hr3 hF3<|cA Q2)<|CS [0] Q)<|wY [] Q)<|cA Q2
theorem XB{h:Int}:V0 prog U 244 (HP h) [I h] .b:=
 b7 call244 func244 Q Q2<|dX 0 0 EM [] 2 [] Q (fV [4,5] Q2 (b8 [] Q2)<|c0 Q (λ_=>jE) λx2=>b8 [] Q2) λx1=>cA Q2
theorem SS{h:Int}(h1:bU U s1 m.Heap.Bytes)(h2:bU U s2 m.Heap.Class)(h3:bU U s3 m.aD.Global)(h4:bU U s4 m.aD.Own):V0 prog U 320 (zV m h) [.g (gM m s1 s2 s3 s4),I h] I:=
 b7 call320 func320 Q Q2<|c0 Q (λh=>OE (h.a h1) (h.a h2) (h.a h3) (h.a h4)) λx1=>aZ [5,9] Q2 (cA Q2)<|c0 Q (λh=>UY (h.a h1) (h.a h2)) λx2=>aZ [10,16] Q2 (cA Q2)<|cA Q2
theorem pB{h next_:Int}(h1:bU U s1 m.Heap.Bytes)(h2:bU U s2 m.Heap.Class)(h3:bU U s3 m.aD.Global)(h4:bU U s4 m.aD.Own):VS prog U 213 (NB m h next_) [.g (gM m s1 s2 s3 s4),I h,I next_] [] [] (λr (y:X8)=>.t [.g (yM r.1 y),I r.2]) (λr y=>(zM r.1 y [])):=
 b7 call213 func213 Q Q2<|c1 Q (λh=>E1 (h.a h1) (h.a h2) (h.a h3) (h.a h4)) λx1 s5=>cG 0 3 (λ(p:Bool×Mem)=>EN m h next_ p.1 p.2) [1,2,3,6,8] (λ(p:Bool×Mem) (_:Unit)=>[(19,.b p.1)]) [0,1] (λp _=>(zM p.2 s5 [.box 2 (yM p.2 s5)])) Q (c0 Q (λh=>RC (h.a h1) (h.a h2) (h.a h3) (h.a h4)) λx10=>fV [14,15] Q2 (b8 (p:=(true,x1)) [2,3,4,5,6,0,1] Q2)<|c0 Q (λ_=>XB) λx11=>b8 (p:=(!x11,x1)) [2,3,4,5,6,0,1] Q2) λ⟨x2,x3⟩ _=>aZ [19] Q2 (dL s5 [0,1,2,3] Q2)<|c0 Q (λh=>SS (h.a h1) (h.a h2) (h.a h3) (h.a h4)) λx4=>cG 0 3 (K5 x4) [6,8,9] (λ(x5:Mem) (_:Unit)=>[]) [6] (λx5 _=>(zM x5 s5 [.box 2 (yM x5 s5)])) Q (aZ [25] Q2 (cG 0 3 (UK x4) [6,8,9] (λ(x6:Mem) (_:Unit)=>[]) [6] (λx6 _=>(zM x6 s5 [.box 2 (yM x6 s5)])) Q (dM aC [5,6] Q<|λhF=>bd hF λx7 hA1 hF=>bd hF λx8 hA2 hF=>bd hF λx9 hA3 hF=>dJ Q2 (z8 hA1 Q (λh=>wL (h.a h1) (h.a h2))<|z8 hA2 Q (λ_=>dI)<|have hq3:=rb hA3;wi hq3<|gK [0] Q4 (λ_=>fP) λu3 _=>λhq3=>un 7 [28] [] [(4,0)] Q6 λhl2=>match u3,hq3 with|_,rfl=>wi hF<|b8 (p:=((⟨(⟨x9,x3.Heap.Class⟩:Heap),x3.aD⟩:Mem))) [7,1,2,3,4,6] Q2) (z8 hA1 Q (λh=>wL (h.a h1) (h.a h2))<|dJ Q2 (z8 hA2 Q (λ_=>dI)<|have hq6:=rb hA3;wi hq6<|gK [0] Q4 (λ_=>fP) λu6 _=>λhq6=>un 7 [28] [] [(4,0)] Q6 λhl3=>match u6,hq6 with|_,rfl=>wi hF<|b8 (p:=((⟨(⟨x9,x3.Heap.Class⟩:Heap),x3.aD⟩:Mem))) [7,1,2,3,4,6] Q2) (z8 hA2 Q (λ_=>dI)<|have hq8:=rb hA3;wi hq8<|gK [0] Q4 (λ_=>fP) λu8 _=>λhq8=>un 7 [28] [] [(4,0)] Q6 λhl4=>match u8,hq8 with|_,rfl=>wi hF<|b8 (p:=((⟨(⟨x9,x3.Heap.Class⟩:Heap),x3.aD⟩:Mem))) [7,1,2,3,4,6] Q2))) λx6 _=>b8 (p:=(x6)) [0,1,2,3,4,5] Q2)<|b8 [0,1,2,3,4,6] Q2) λx5 _=>dL s5 [0,1,2,3] Q2
theorem aKG{n:dW}:V0 prog U 405 (NC n) [.g [I n.Key,I n.fE,I n.Next]] .b:=
 b7 call405 func405 Q Q2<|dX 0 1 wD [] 2 [] Q (c0 Q (λ_=>bY) λx2=>fV [5,6] Q2 (c0 Q (λ_=>bY) λx3=>fV [9,10,11] Q2 (c0 Q (λ_=>XB) λx4=>b8 [] Q2)<|b8 [] Q2)<|b8 [] Q2) λx1=>cA Q2
theorem aHP{h:Int}{n:dW}(h1:bU U s1 m.Heap.Bytes)(h2:bU U s2 m.Heap.Class)(h3:bU U s3 m.aD.Global)(h4:bU U s4 m.aD.Own):VS prog U 324 (J9 m h n) [.g (gM m s1 s2 s3 s4),I h,.g [I n.Key,I n.fE,I n.Next]] [] [] (λr (y:X8)=>.t [.g (yM r.1 y),I r.2]) (λr y=>(zM r.1 y [])):=
 b7 call324 func324 Q Q2<|c1 Q (λh=>E1 (h.a h1) (h.a h2) (h.a h3) (h.a h4)) λx1 s5=>cG 0 4 (λ(p:Bool×Mem)=>A2 m h n p.1 p.2) [1,3,5,6,8] (λ(p:Bool×Mem) (_:Unit)=>[(19,.b p.1)]) [0,1,2] (λp _=>(zM p.2 s5 [.box 3 (yM p.2 s5)])) Q (c0 Q (λh=>RC (h.a h1) (h.a h2) (h.a h3) (h.a h4)) λx12=>fV [14,15] Q2 (b8 (p:=(true,x1)) [3,4,5,6,7,0,1,2] Q2)<|c0 Q (λ_=>aKG) λx13=>b8 (p:=(!x13,x1)) [3,4,5,6,7,0,1,2] Q2) λ⟨x2,x3⟩ _=>aZ [19] Q2 (dL s5 [0,1,2,3] Q2)<|c0 Q (λh=>SS (h.a h1) (h.a h2) (h.a h3) (h.a h4)) λx4=>cG 0 4 (IF x4) [6,8,9] (λ(x5:Mem) (_:Unit)=>[]) [7] (λx5 _=>(zM x5 s5 [.box 3 (yM x5 s5)])) Q (aZ [25] Q2 (cG 0 4 (SJ x4) [6,8,9] (λ(x6:Mem) (_:Unit)=>[]) [7] (λx6 _=>(zM x6 s5 [.box 3 (yM x6 s5)])) Q (dM aC [5,6,7] Q<|λhF=>bd hF λx7 hA1 hF=>bd hF λx8 hA2 hF=>bd hF λx9 hA3 hF=>nd hF λhA4 hF=>bd hF λx10 hA5 hF=>nd hF λhA6 hF=>bd hF λx11 hA7 hF=>dJ Q2 (z8 hA1 Q (λh=>wL (h.a h1) (h.a h2))<|z8 hA2 Q (λ_=>dI)<|z8 hA3 Q (λ_=>dI)<|have hq4:=rn hA4;cat Q Q Q Q hq4 λhq4=>z8 hA5 Q (λ_=>dI)<|have hq6:=rn hA6;cat Q Q Q Q hq6 λhq6=>have hq7:=rb hA7;wi hq7<|gK [0] Q4 (λ_=>fP) λu5 _=>λhq7=>un 8 [28] [] [(4,0)] Q6 λhl2=>match u5,hq7 with|_,rfl=>wi hF<|b8 (p:=((⟨(⟨x11,x3.Heap.Class⟩:Heap),x3.aD⟩:Mem))) [8,1,2,3,4,7] Q2) (z8 hA1 Q (λh=>wL (h.a h1) (h.a h2))<|dJ Q2 (z8 hA2 Q (λ_=>dI)<|z8 hA3 Q (λ_=>dI)<|have hq11:=rn hA4;cat Q Q Q Q hq11 λhq11=>z8 hA5 Q (λ_=>dI)<|have hq13:=rn hA6;cat Q Q Q Q hq13 λhq13=>have hq14:=rb hA7;wi hq14<|gK [0] Q4 (λ_=>fP) λu10 _=>λhq14=>un 8 [28] [] [(4,0)] Q6 λhl3=>match u10,hq14 with|_,rfl=>wi hF<|b8 (p:=((⟨(⟨x11,x3.Heap.Class⟩:Heap),x3.aD⟩:Mem))) [8,1,2,3,4,7] Q2) (z8 hA2 Q (λ_=>dI)<|dJ Q2 (z8 hA3 Q (λ_=>dI)<|have hq17:=rn hA4;cat Q Q Q Q hq17 λhq17=>z8 hA5 Q (λ_=>dI)<|have hq19:=rn hA6;cat Q Q Q Q hq19 λhq19=>have hq20:=rb hA7;wi hq20<|gK [0] Q4 (λ_=>fP) λu14 _=>λhq20=>un 8 [28] [] [(4,0)] Q6 λhl4=>match u14,hq20 with|_,rfl=>wi hF<|b8 (p:=((⟨(⟨x11,x3.Heap.Class⟩:Heap),x3.aD⟩:Mem))) [8,1,2,3,4,7] Q2) (z8 hA3 Q (λ_=>dI)<|have hq22:=rn hA4;cat Q Q Q Q hq22 λhq22=>dJ Q2 (z8 hA5 Q (λ_=>dI)<|have hq24:=rn hA6;cat Q Q Q Q hq24 λhq24=>have hq25:=rb hA7;wi hq25<|gK [0] Q4 (λ_=>fP) λu17 _=>λhq25=>un 8 [28] [] [(4,0)] Q6 λhl5=>match u17,hq25 with|_,rfl=>wi hF<|b8 (p:=((⟨(⟨x11,x3.Heap.Class⟩:Heap),x3.aD⟩:Mem))) [8,1,2,3,4,7] Q2) (z8 hA5 Q (λ_=>dI)<|have hq27:=rn hA6;cat Q Q Q Q hq27 λhq27=>have hq28:=rb hA7;wi hq28<|gK [0] Q4 (λ_=>fP) λu19 _=>λhq28=>un 8 [28] [] [(4,0)] Q6 λhl6=>match u19,hq28 with|_,rfl=>wi hF<|b8 (p:=((⟨(⟨x11,x3.Heap.Class⟩:Heap),x3.aD⟩:Mem))) [8,1,2,3,4,7] Q2))))) λx6 _=>b8 (p:=(x6)) [0,1,2,3,4,5] Q2)<|b8 [0,1,2,3,4,7] Q2) λx5 _=>dL s5 [0,1,2,3] Q2
theorem ZW{x:aQ}{b:cM}{s12 s13 s14 s15 s16 s17 s18:AC}{b0 b1 b2:Nat×Nat}:VS prog U 214 (IG t j x b) [.p 0 0,.p 1 0,.g [I x.Key,.b x.F8,I x.fE],.p 2 0] [b0,b1,b2] (([.box 0 (IY t s1 s2 s3 s4 s5 s6 s7 s8 s9 s10 s11),.box 1 (PH j s12 s13 s14 s15 s16 s17 s18),.box 2 [I b.Head,I b.fF,I b.gG]]++(CN t.aA s1 s2 s3 s4 s5 s6 s7 [ow s10 (t.bL:List aP),ow s11 (t.Log:List qZ)]))++(PI j s12 s13 s14 s15 s16 s17 s18 [])) (λr (y:X8)=>.t []) (λr y=>(([.box 0 [.h y.1 r.1.aA.Mem.Heap.Bytes.length,.h y.2.1 r.1.aA.Mem.Heap.Class.length,.h y.2.2.1 r.1.aA.Mem.aD.Global.length,.h y.2.2.2 r.1.aA.Mem.aD.Own.length,I r.1.aA.aI.aO,.h s5 r.1.aA.aI.bX.length,.h s6 r.1.aA.a8.length,.h s7 r.1.aA.kZ.length,.h s8 t.aT.length,.h s9 t.aM.length,.h s10 r.1.bL.length,.h s11 r.1.Log.length,I r.1.aK],.box 1 (PH r.2.1 s12 s13 s14 s15 s16 s17 s18),.box 2 [I r.2.2.Head,I r.2.2.fF,I r.2.2.gG]]++(CN r.1.aA y.1 y.2.1 y.2.2.1 y.2.2.2 s5 s6 s7 [ow s10 r.1.bL,ow s11 r.1.Log]))++(PI r.2.1 s12 s13 s14 s15 s16 s17 s18 []))):=
 b7 call214 func214 Q Q2<|dM aC [0,1,2,19] Q<|c0 Q (λh=>CH (h.o 14 Q)) λx1=>aZ [39,46] Q2 (jN 1 1 0 32 [12,13,14,15,16,17,18] Q5 (λ_=>dN) λx2 _=>E9 (s1,s2,s3,s4) [0,1,2,3,4,5,6,7,8,9,10,11,20,21,22,23,24,25,26] Q Q)<|aZ [49,54] Q2 (cG 0 4 (BR t j b) [0,1,3] (λ(x3:Table) (u:X8)=>[]) [12,13,14,15,16,17,18,1,2] (λx3 u=>(CN x3.aA u.1 u.2.1 u.2.2.1 u.2.2.2 s5 s6 s7 [ow s10 (x3.bL:List aP),ow s11 (x3.Log:List qZ),.box 0 [.h u.1 x3.aA.Mem.Heap.Bytes.length,.h u.2.1 x3.aA.Mem.Heap.Class.length,.h u.2.2.1 x3.aA.Mem.aD.Global.length,.h u.2.2.2 x3.aA.Mem.aD.Own.length,I x3.aA.aI.aO,.h s5 x3.aA.aI.bX.length,.h s6 x3.aA.a8.length,.h s7 x3.aA.kZ.length,.h s8 t.aT.length,.h s9 t.aM.length,.h s10 x3.bL.length,.h s11 x3.Log.length,I x3.aK]])) Q (dM aC [1,2,19] Q<|gZ oI 16 Q3 λx4 h1 _ h2=>λhF=>fM 4 h2 h1 Q5<|bd hF λx5 hA1 hF=>(by refine dJ Q2 ?_ ?_<;>exact LS hA1 Q (λh=>aHP (h.o 3 Q) (h.o 4 Q) (h.o 5 Q) (h.o 6 Q)) λs24=>sF Q<|fC oI 20 [] h1 () Q7<|fR Q2<|gI (p:=(({t with aA:=(⟨x5.1,t.aA.aI,t.aA.a8,t.aA.kZ⟩:aA)}:Table))) s24 [23,24,25,26,7,8,9,10,11,0,12,13,14,15,27,17,18,1,2] hF Q)) λx3 ⟨s19,s20,s21,s22⟩=>E9 (s19,s20,s21,s22) [9,17,18,0,1,2,3,4,5,6,7,8,10,11,12,13,14,15,16] Q Q)<|gZ oI 16 Q3 λx6 h3 _ h4=>λhF=>fM 4 h4 h3 Q5<|sF Q<|fC oI 20 [] h3 () Q7<|l6 (s1,s2,s3,s4) [0,1,2,3,4,5,6,7,8,9,10,11,12,13,14,15,23,17,18] hF Q2 Q4
theorem X3{b0:Nat×Nat}:VS prog U 94 (xZ t w_) [.p 0 0,I w_] [b0] ([.box 0 (IY t s1 s2 s3 s4 s5 s6 s7 s8 s9 s10 s11)]++(SK t s1 s2 s3 s4 s5 s6 s7 s8 s9 s10 s11 [])) (λr (y:X8)=>.t []) (λr y=>([.box 0 (IY r y.1 y.2.1 y.2.2.1 y.2.2.2 s5 s6 s7 s8 s9 s10 s11)]++(SK r y.1 y.2.1 y.2.2.1 y.2.2.2 s5 s6 s7 s8 s9 s10 s11 []))):=
 b7 call94 func94 Q Q2<|gZ aY 9 Q3 λx1 h1 s12 h2=>λhF=>fM 1 h2 h1 Q5<|wi hF<|cG 0 2 (λ(_:Unit)=>y7 t w_ x1) [0,4] (λ(_:Unit) (_:Unit)=>[(22,.b (decide ((x1.aH.length:Int)<=x1.K)))]) [1,2,3,4,5,6,7,8,10,11,0,14] (λ_ _=>[ow s9 (t.aM:List aE)]) Q (dM aC [0,14] Q<|λhF=>(by refine dJ Q2 ?_ ?_<;>exact sF Q<|fC aY 12 [15,16,17,18,19,20,21] h1 s12 Q7<|fR Q2<|gI (p:=()) () [22,1,2,3,4,5,6,7,8,10,11,0,14] hF Q)) λ_ _=>aZ [22] Q2 (λhF=>ro aY 0 12 1 Q Q Q Q hF λx2 h3 hF s13=>sR Q<|jB aY 13 [16,17,18,19,20,21,22] [] ({x2 with Pc:=14}:aE) s13 Q8<|fR Q2<|kE s9 bV.symm [] [(11,9)] Q3<|fR Q2<|l6 (s1,s2,s3,s4) [11,1,2,3,4,5,6,7,8,23,9,10] hF Q2 Q4)<|cG 0 4 (λ(p:Int×Bool×Int)=>y6 t w_ p.1 p.2.1 p.2.2) [0,4] (λ(p:Int×Bool×Int) (_:Unit)=>[(5,.p 3 0)]) [1,2,3,4,5,6,7,8,0,9,10,11,12] (λp _=>[.box 3 [I p.1,.b p.2.1,I p.2.2]]) Q (dM aC [11,12] Q<|λhF=>bd hF λx30 hA6 hF=>bd hF λx31 hA7 hF=>aCK Q Q (have hq32:=rb hA6;ro aY 0 12 1 Q Q Q Q hq32 λu29 h23 hq32 s51=>match u29,hq32 with|_,rfl=>dJ Q2 (have hq33:=rb hA7;wi hq33<|gZ iN 18 Q3 λu30 h25 _ h26=>λhq33=>fM 2 h26 h25 Q5<|match u30,hq33 with|_,rfl=>(by refine dJ Q2 ?_ ?_<;>exact sF Q<|fC iN 23 [] h25 () Q7<|fR Q2<|fC aY 13 [16,17,27,19,20,21,22] h23 s51 Q7<|fR Q2<|gI (p:=(x31.Key,x31.F8,x31.fE)) () [26,1,2,3,4,5,6,7,8,28,9,10,11,12] hF Q)) (have hq34:=rb hA7;wi hq34<|gZ iN 18 Q3 λu31 h27 _ h28=>λhq34=>fM 3 h28 h27 Q5<|match u31,hq34 with|_,rfl=>sF Q<|swR 3 2 Q<|fD Q Q<|fC iN 24 [] h27 () Q7<|fR Q2<|fC aY 13 [16,17,27,19,20,21,22] h23 s51 Q7<|fR Q2<|gI (p:=(x31.Key,x31.F8,x31.fE)) () [23,1,2,3,4,5,6,7,8,28,9,10,11,12] hF Q)) (have hq35:=rb hA6;ro aY 0 12 1 Q Q Q Q hq35 λu32 h29 hq35 s52=>match u32,hq35 with|_,rfl=>dJ Q2 (have hq36:=rb hA7;wi hq36<|gZ iN 18 Q3 λu33 h31 _ h32=>λhq36=>fM 2 h32 h31 Q5<|match u33,hq36 with|_,rfl=>(by refine dJ Q2 ?_ ?_<;>exact sF Q<|fC iN 23 [] h31 () Q7<|fR Q2<|fC aY 13 [16,17,27,19,20,21,22] h29 s52 Q7<|fR Q2<|gI (p:=(x31.Key,x31.F8,x31.fE)) () [26,1,2,3,4,5,6,7,8,28,9,10,11,12] hF Q)) (have hq37:=rb hA7;wi hq37<|gZ iN 18 Q3 λu34 h33 _ h34=>λhq37=>fM 3 h34 h33 Q5<|match u34,hq37 with|_,rfl=>sF Q<|swR 3 2 Q<|fD Q Q<|fC iN 24 [] h33 () Q7<|fR Q2<|fC aY 13 [16,17,27,19,20,21,22] h29 s52 Q7<|fR Q2<|gI (p:=(x31.Key,x31.F8,x31.fE)) () [23,1,2,3,4,5,6,7,8,28,9,10,11,12] hF Q)) ((by refine dJ Q2 ?_ ?_<;>exact have hq38:=rb hA6;ro aY 0 12 1 Q Q Q Q hq38 λu35 h35 hq38 s53=>match u35,hq38 with|_,rfl=>have hq39:=rb hA7;wi hq39<|gZ iN 19 Q3 λu36 h37 _ h38=>λhq39=>fM 3 h38 h37 Q5<|match u36,hq39 with|_,rfl=>sF Q<|swR 3 2 Q<|fD Q Q<|fC iN 24 [] h37 () Q7<|fR Q2<|fC aY 14 [17,18,27,20,21,22,23] h35 s53 Q7<|fR Q2<|gI (p:=(x31.Key,x31.F8,x31.fE)) () [13,1,2,3,4,5,6,7,8,28,9,10,11,12] hF Q))) λ⟨x3,x4,x5⟩ _=>dM aC [0,12,13] Q<|c0 Q (λ_=>RB) λx6=>gZ iE 8 Q3 λx7 h5 _ h6=>λhF=>fM 4 h6 h5 Q5<|ro aY 9 13 1 Q Q Q Q hF λx8 h7 hF s14=>wi hF<|aZ [53,54] Q2 (aZ [72] Q2 (jN 18 1 0 32 [20,21,22,23,24,25,26] Q5 (λ_=>E0 (j:=({x8 with Pc:=10,H:=x7.Head,gO:=0}:aE))) λx9 _=>λhF=>sF Q<|jB aY 17 [27,28,29,30,31,32,33] [] x9 s14 Q8<|fR Q2<|kE s9 bV.symm [] [(12,9)] Q3<|fR Q2<|fC iE 14 [] h5 () Q7<|fR Q2<|l6 (s1,s2,s3,s4) [12,1,2,3,4,5,6,7,35,34,10,11] hF Q2 Q4)<|λhF=>sF Q<|jB aY 17 [20,21,22,23,24,25,26] [] ({x8 with Pc:=10,H:=x7.Head,gO:=0}:aE) s14 Q8<|fR Q2<|kE s9 bV.symm [] [(12,9)] Q3<|fR Q2<|fC iE 14 [] h5 () Q7<|fR Q2<|l6 (s1,s2,s3,s4) [12,1,2,3,4,5,6,7,28,27,10,11] hF Q2 Q4)<|aZ [76,77] Q2 (dM aC [0,12,13,16,19] Q<|c0 Q (λh=>XA (h.o 1 Q) (h.o 2 Q) (h.o 3 Q) (h.o 4 Q)) λx10=>dM aC [0,12,13,16,19] Q<|aZ [109,117] Q2 (λhF=>sF Q<|jB aY 17 [20,21,22,23,24,25,26] [] ({x8 with Pc:=11,Node:=x10.1}:aE) s14 Q8<|fR Q2<|kE s9 bV.symm [] [(12,9)] Q3<|fR Q2<|fC iE 14 [] h5 () Q7<|fR Q2<|l6 (s1,s2,s3,s4) [12,1,2,3,4,5,6,7,28,27,10,11] hF Q2 Q4)<|c0 Q (λ_=>cY) λx11=>aZ [121,127] Q2 (jN 18 1 0 32 [20,21,22,23,24,25,26] Q5 (λ_=>E0 (j:=({x8 with Node:=x10.1}:aE))) λx12 _=>λhF=>sF Q<|jB aY 17 [27,28,29,30,31,32,33] [] x12 s14 Q8<|fR Q2<|kE s9 bV.symm [] [(12,9)] Q3<|fR Q2<|fC iE 14 [] h5 () Q7<|fR Q2<|l6 (s1,s2,s3,s4) [12,1,2,3,4,5,6,7,35,34,10,11] hF Q2 Q4)<|cG 0 5 (yY t) [0] (λ(x13:(List aE)) (_:Unit)=>[]) [1,2,3,4,5,6,7,10,11] (λx13 _=>[ow s8 (t.aT:List cM),ow s9 (x13:List aE),.box 0 [.h s1 t.aA.Mem.Heap.Bytes.length,.h s2 t.aA.Mem.Heap.Class.length,.h s3 t.aA.Mem.aD.Global.length,.h s4 t.aA.Mem.aD.Own.length,I t.aA.aI.aO,.h s5 t.aA.aI.bX.length,.h s6 t.aA.a8.length,.h s7 t.aA.kZ.length,.h s8 t.aT.length,.h s9 x13.length,.h s10 t.bL.length,.h s11 t.Log.length,I t.aK]]) Q (dM aC [0,12,13,16,19] Q<|λhF=>bd hF λx14 hA1 hF=>dJ Q2 (z8 hA1 Q (λ_=>cY)<|sF Q<|jB aY 17 [20,21,22,23,24,25,26] [] ({x8 with H:=x14,gO:=x8.H,Node:=x10.1}:aE) s14 Q8<|fR Q2<|kE s9 bV.symm [] [(12,9)] Q3<|fR Q2<|fC iE 14 [] h5 () Q7<|fR Q2<|gI (p:=(t.aM.set w_.toNat ({x8 with H:=x14,gO:=x8.H,Node:=x10.1}:aE))) () [28,27,12,1,2,3,4,5,6,7,10,11] hF Q) ((by refine dJ Q2 ?_ ?_<;>exact z8 hA1 Q (λ_=>cY)<|sF Q<|jB aY 17 [20,21,22,23,24,25,26] [] ({x8 with H:=x14,gO:=x8.H,Node:=x10.1}:aE) s14 Q8<|fR Q2<|kE s9 bV.symm [] [(12,9)] Q3<|fR Q2<|fC iE 14 [] h5 () Q7<|fR Q2<|gI (p:=(t.aM.set w_.toNat ({x8 with H:=x14,gO:=x8.H,Node:=x10.1}:aE))) () [28,27,12,1,2,3,4,5,6,7,10,11] hF Q))) λx13 _=>E9 (s1,s2,s3,s4) [2,3,4,5,6,7,8,9,0,1,10,11] Q Q)<|aZ [131,132] Q2 (cG 0 5 (lG w_ x3 x4 x5) [0,4,5] (λ(x15:Table) (u:X8)=>[]) [13,0] (λx15 u=>(SK x15 u.1 u.2.1 u.2.2.1 u.2.2.2 s5 s6 s7 s8 s9 s10 s11 [.box 0 (IY x15 u.1 u.2.1 u.2.2.1 u.2.2.2 s5 s6 s7 s8 s9 s10 s11)])) Q (aZ [137] Q2 (c0 Q (λ_=>cY) λx25=>λhF=>sF Q<|fC aY 17 [20,21,22,23,24,25,26] h7 s14 Q7<|fR Q2<|jB iE 14 [] [39] ({x7 with Head:=x25}:cM) () Q8<|fR Q2<|kE s8 bV.symm [] [(12,8)] Q3<|fR Q2<|gI (s1,s2,s3,s4) [1,2,3,4,5,6,7,28,27,10,11,12,13,0] hF Q)<|cG 0 5 (y5 w_ x3 x4 x5) [0,4,5] (λ(x26:Table) (u:X8)=>[]) [13,0] (λx26 u=>(SK x26 u.1 u.2.1 u.2.2.1 u.2.2.2 s5 s6 s7 s8 s9 s10 s11 [.box 0 (IY x26 u.1 u.2.1 u.2.2.1 u.2.2.2 s5 s6 s7 s8 s9 s10 s11)])) Q (dM aC [0,13,16,19] Q<|λhF=>bd hF λx27 hA4 hF=>bd hF λx28 hA5 hF=>aCK Q Q (dJ Q2 (z8 hA4 Q (λ_=>cY)<|LS hA5 Q (λh=>pB (h.o 1 Q) (h.o 2 Q) (h.o 3 Q) (h.o 4 Q)) λs37=>sF Q<|fC aY 17 [20,21,22,23,24,25,26] h7 s14 Q7<|fR Q2<|fC iE 14 [] h5 () Q7<|fR Q2<|gI (p:=(({t with aA:=(⟨x28.1,t.aA.aI,t.aA.a8,t.aA.kZ⟩:aA)}:Table))) s37 [27,28,29,30,5,6,7,32,31,10,11,12,13,0] hF Q) ((by refine dJ Q2 ?_ ?_<;>exact z8 hA4 Q (λ_=>cY)<|LS hA5 Q (λh=>pB (h.o 1 Q) (h.o 2 Q) (h.o 3 Q) (h.o 4 Q)) λs38=>sF Q<|fC aY 17 [20,21,22,23,24,25,26] h7 s14 Q7<|fR Q2<|fC iE 14 [] h5 () Q7<|fR Q2<|gI (p:=(({t with aA:=(⟨x28.1,t.aA.aI,t.aA.a8,t.aA.kZ⟩:aA)}:Table))) s38 [27,28,29,30,5,6,7,32,31,10,11,12,13,0] hF Q))) (dJ Q2 (z8 hA4 Q (λ_=>cY)<|LS hA5 Q (λh=>pB (h.o 1 Q) (h.o 2 Q) (h.o 3 Q) (h.o 4 Q)) λs40=>sF Q<|fC aY 17 [20,21,22,23,24,25,26] h7 s14 Q7<|fR Q2<|fC iE 14 [] h5 () Q7<|fR Q2<|gI (p:=(({t with aA:=(⟨x28.1,t.aA.aI,t.aA.a8,t.aA.kZ⟩:aA)}:Table))) s40 [27,28,29,30,5,6,7,32,31,10,11,12,13,0] hF Q) ((by refine dJ Q2 ?_ ?_<;>exact z8 hA4 Q (λ_=>cY)<|LS hA5 Q (λh=>pB (h.o 1 Q) (h.o 2 Q) (h.o 3 Q) (h.o 4 Q)) λs41=>sF Q<|fC aY 17 [20,21,22,23,24,25,26] h7 s14 Q7<|fR Q2<|fC iE 14 [] h5 () Q7<|fR Q2<|gI (p:=(({t with aA:=(⟨x28.1,t.aA.aI,t.aA.a8,t.aA.kZ⟩:aA)}:Table))) s41 [27,28,29,30,5,6,7,32,31,10,11,12,13,0] hF Q))) (aCK Q Q ((by refine dJ Q2 ?_ ?_<;>exact z8 hA4 Q (λ_=>cY)<|LS hA5 Q (λh=>pB (h.o 1 Q) (h.o 2 Q) (h.o 3 Q) (h.o 4 Q)) λs43=>sF Q<|fC aY 17 [20,21,22,23,24,25,26] h7 s14 Q7<|fR Q2<|fC iE 14 [] h5 () Q7<|fR Q2<|gI (p:=(({t with aA:=(⟨x28.1,t.aA.aI,t.aA.a8,t.aA.kZ⟩:aA)}:Table))) s43 [27,28,29,30,5,6,7,32,31,10,11,12,13,0] hF Q)) ((by refine dJ Q2 ?_ ?_<;>exact z8 hA4 Q (λ_=>cY)<|LS hA5 Q (λh=>pB (h.o 1 Q) (h.o 2 Q) (h.o 3 Q) (h.o 4 Q)) λs45=>sF Q<|fC aY 17 [20,21,22,23,24,25,26] h7 s14 Q7<|fR Q2<|fC iE 14 [] h5 () Q7<|fR Q2<|gI (p:=(({t with aA:=(⟨x28.1,t.aA.aI,t.aA.a8,t.aA.kZ⟩:aA)}:Table))) s45 [27,28,29,30,5,6,7,32,31,10,11,12,13,0] hF Q)) (z8 hA4 Q (λ_=>cY)<|(by refine dJ Q2 ?_ ?_<;>exact LS hA5 Q (λh=>pB (h.o 1 Q) (h.o 2 Q) (h.o 3 Q) (h.o 4 Q)) λs47=>sF Q<|fC aY 17 [20,21,22,23,24,25,26] h7 s14 Q7<|fR Q2<|fC iE 14 [] h5 () Q7<|fR Q2<|gI (p:=(({t with aA:=(⟨x28.1,t.aA.aI,t.aA.a8,t.aA.kZ⟩:aA)}:Table))) s47 [27,28,29,30,5,6,7,32,31,10,11,12,13,0] hF Q)))) λx26 ⟨s32,s33,s34,s35⟩=>lI (p:=(x26)) (s32,s33,s34,s35) [0,1,2,3,4,5,6,7,8,9,10,11,12,13] Q2) λx15 ⟨s15,s16,s17,s18⟩=>cG 1 5 (lF w_ x3 x4 x5) [0,4,5] (λ(x16:Table) (_:Unit)=>[]) [12,13] (λx16 _=>(SK x16 s15 s16 s17 s18 s5 s6 s7 s8 s9 s10 s11 [.box 0 (IY x16 s15 s16 s17 s18 s5 s6 s7 s8 s9 s10 s11)])) Q (cG 0 5 (λ(p:Bool×Table)=>pN w_ x3 x4 x5 p.1 p.2) [0,4,5] (λ(p:Bool×Table) (_:Unit)=>[(180,.b p.1)]) [12,13] (λp _=>(SK p.2 s15 s16 s17 s18 s5 s6 s7 s8 s9 s10 s11 [.box 0 (IY p.2 s15 s16 s17 s18 s5 s6 s7 s8 s9 s10 s11)])) Q (λhF=>ro aY 8 12 1 Q Q Q Q hF λx23 h17 hF s31=>wi hF<|c0 Q (λ_=>jE) λx24=>fV [172,173] Q2 (λhF=>sF Q<|fC aY 14 [17,18,19,20,21,22,23] h17 s31 Q7<|fR Q2<|gI (p:=(decide ((x23.bG.length:Int)<6),x15)) () [0,1,2,3,4,5,6,7,24,9,10,11,12,13] hF Q)<|λhF=>sF Q<|fC aY 14 [17,18,19,20,21,22,23] h17 s31 Q7<|fR Q2<|gI (p:=(false,x15)) () [0,1,2,3,4,5,6,7,24,9,10,11,12,13] hF Q) λ⟨x19,x20⟩ _=>aZ [180] Q2 (cG 0 5 (yZ w_ x3 x4 x5) [0,4,5] (λ(x21:Table) (_:Unit)=>[]) [12,13] (λx21 _=>(SK x21 s15 s16 s17 s18 s5 s6 s7 s8 s9 s10 s11 [.box 0 (IY x21 s15 s16 s17 s18 s5 s6 s7 s8 s9 s10 s11)])) Q (dM aC [11,12,13] Q<|λhF=>bd hF λx22 hA2 hF=>nd hF λhA3 hF=>dJ Q2 (have hq4:=rb hA2;ro aY 8 12 1 Q Q Q Q hq4 λu4 h13 hq4 s23=>match u4,hq4 with|_,rfl=>lt1 Q bB Q4 λs24=>have hq5:=rn hA3;ap 23 bB Q Q Q Q Q Q Q (λh=>(h.o 24 Q)) Q Q hq5 λhq5 s25=>sF Q<|jB aY 14 [17,18,19,20,21,22,23] [] ({x22 with bG:=x22.bG++([x22.H])}:aE) (s23.1,s23.2.1,s23.2.2.1,s23.2.2.2.1,s23.2.2.2.2.1,s23.2.2.2.2.2.1,s25) Q8<|fR Q2<|kE s9 bV.symm [] [(11,9)] Q3<|fR Q2<|gI (p:=(({x20 with aM:=x20.aM.set w_.toNat ({x22 with bG:=x22.bG++([x22.H])}:aE)}:Table))) () [0,1,2,3,4,5,6,7,25,9,10,11,12,13] hF Q) (have hq6:=rb hA2;ro aY 8 12 1 Q Q Q Q hq6 λu5 h15 hq6 s26=>match u5,hq6 with|_,rfl=>(by refine dJ Q2 ?_ ?_<;>exact lt1 Q bB Q4 λs27=>have hq7:=rn hA3;ap 23 bB Q Q Q Q Q Q Q (λh=>(h.o 24 Q)) Q Q hq7 λhq7 s28=>sF Q<|jB aY 14 [17,18,19,20,21,22,23] [] ({x22 with bG:=x22.bG++([x22.H])}:aE) (s26.1,s26.2.1,s26.2.2.1,s26.2.2.2.1,s26.2.2.2.2.1,s26.2.2.2.2.2.1,s28) Q8<|fR Q2<|kE s9 bV.symm [] [(11,9)] Q3<|fR Q2<|gI (p:=(({x20 with aM:=x20.aM.set w_.toNat ({x22 with bG:=x22.bG++([x22.H])}:aE)}:Table))) () [0,1,2,3,4,5,6,7,25,9,10,11,12,13] hF Q))) λx21 _=>b8 (p:=(x21)) [0,1,2,3,4,5,6,7,8,9,10,11,12,13] Q2)<|b8 [0,1,2,3,4,5,6,7,8,9,10,11,12,13] Q2) λx16 _=>λhF=>ro aY 8 12 1 Q Q Q Q hF λx17 h9 hF s19=>wi hF<|jN 15 1 0 32 [17,18,19,20,21,22,23] Q5 (λ_=>E0) λx18 _=>λhF=>sF Q<|jB aY 14 [24,25,26,27,28,29,30] [] x18 s19 Q8<|fR Q2<|kE s9 bV.symm [] [(11,9)] Q3<|fR Q2<|l6 (s15,s16,s17,s18) [11,0,1,2,3,4,5,6,7,31,9,10] hF Q2 Q4)<|a84 12 0 0 13 18 1 0 32 15 4 0 3 [1,2,3,4,5,6,7,10,11,20,21,22,23,24,25,26] Q Q Q Q Q (λ_=>ZW) λx29 s49=>λhF=>fG Q Q<|sF Q<|jB aY 17 [36,37,38,39,40,41,42] [] x29.2.1 s14 Q8<|fR Q2<|kE s9 bV.symm [] [(12,9)] Q3<|fR Q2<|jB iE 14 [] [39] x29.2.2 () Q8<|fR Q2<|kE s8 bV.symm [] [(12,8)] Q3<|fR Q2<|l6 s49 [12,27,28,29,30,31,32,33,44,43,34,35] hF Q2 Q4
theorem I0{j:Int}:VS prog U 215 (oP s i j) [.h s1 s.length,I i,I j] [] [ow s1 (s:List Int)] (λr (y:AC)=>.h y r.length) (λr y=>[ow y r]):=
 b7 call215 func215 Q Q2<|λhF=>cpc 0 Q Q λhc1=>aRA hc1 Q Q Q Q Q Q Q Q hF λhF h1=>wi hF<|aZ [16] Q2 (dL s1 [0] Q2)<|dM aC [] Q<|λhF=>aOV hc1 Q Q Q Q Q Q hF λhF h2=>YW hc1 Q6 hF λhF h3=>nd hF λhab hF=>ap2 0 i.toNat j.toNat ⟨hab,h3.1⟩ Q Q Q Q Q Q Q Q Q λh4=>aZF 0 (i.toNat+(s.length-j.toNat)) h4.2 (wW h4.1 h4.2) Q Q Q Q Q Q Q Q Q hF λhF h5=>clr 0 (((((cO s i.toNat (s.drop j.toNat)).take (i.toNat+(s.length-j.toNat))).drop 0).length:Int).toNat) ((s.length:Int).toNat) (0:Int) h5 bB Q (λ_=>Q) Q Q Q Q Q Q Q Q<|sR Q<|poR 0 0 (i.toNat+(s.length-j.toNat)) Q Q (aQ9 h4 (pG h5.1 h5.2)) (aML (RR (by rw[BC,wW h4.1 h4.2];rfl)) (pG h5.1 h5.2))<|l6 (AC.sub s1 1 0) [0] hF Q2 Q4
theorem E2{b0:Nat×Nat}:VS prog U 216 (j8 j) [.p 0 0] [b0] ([.box 0 (PH j s1 s2 s3 s4 s5 s6 s7)]++(PI j s1 s2 s3 s4 s5 s6 s7 [])) (λr (y:Unit)=>.t []) (λr y=>([.box 0 (PH r s1 s2 s3 s4 s5 s6 s7)]++(PI r s1 s2 s3 s4 s5 s6 s7 []))):=
 b7 call216 func216 Q Q2<|dM aC [0] Q<|aZ [11] Q2 (cG 0 1 qQ [0] (λ(x1:aE) (_:Unit)=>[]) [] (λx1 _=>(PI x1 s1 s2 s3 s4 s5 s6 s7 [.box 0 (PH x1 s1 s2 s3 s4 s5 s6 s7)])) Q (dM aC [] Q<|λhF=>bd hF λx2 hA1 hF=>bd hF λx3 hA2 hF=>(by refine dJ Q2 ?_ ?_<;>exact have hq1:=rb hA1;wi hq1<|gZ oI 7 Q3 λu1 h3 _ h4=>λhq1=>fM 1 h4 h3 Q5<|match u1,hq1 with|_,rfl=>z8 hA2 Q (λ_=>o9)<|sF Q<|fC oI 8 [] h3 () Q7<|gI (p:=(({j with Sub:=x3}:aE))) () [1,2,3,4,5,6,11,0] hF Q)) λx1 _=>E9 () [7,0,1,2,3,4,5,6] Q Q)<|E9 () [0,1,2,3,4,5,6,7] Q Q
theorem WE{b0:Nat×Nat}:VS prog U 95 (uU t w_) [.p 0 0,I w_] [b0] ([.box 0 (IY t s1 s2 s3 s4 s5 s6 s7 s8 s9 s10 s11)]++(SK t s1 s2 s3 s4 s5 s6 s7 s8 s9 s10 s11 [])) (λr (y:Unit)=>.t []) (λr y=>([.box 0 (IY r s1 s2 s3 s4 s5 s6 s7 s8 s9 s10 s11)]++(SK r s1 s2 s3 s4 s5 s6 s7 s8 s9 s10 s11 []))):=
 b7 call95 func95 Q Q2<|gZ aY 9 Q3 λx1 h1 s12 h2=>λhF=>fM 1 h2 h1 Q5<|wi hF<|aZ [20,26] Q2 (dM aC [0,14] Q<|gZ oI 20 Q3 λx2 h3 _ h4=>λhF=>fM 2 h4 h3 Q5<|wi hF<|gZ iE 8 Q3 λx3 h5 _ h6=>λhF=>fM 3 h6 h5 Q5<|wi hF<|cG 0 4 (j9 t w_) [0,4] (λ(x4:(List cM)) (_:Unit)=>[]) [1,2,3,4,5,6,7,10,11,14] (λx4 _=>[ow s8 (x4:List cM),ow s9 (t.aM:List aE),.box 0 [.h s1 t.aA.Mem.Heap.Bytes.length,.h s2 t.aA.Mem.Heap.Class.length,.h s3 t.aA.Mem.aD.Global.length,.h s4 t.aA.Mem.aD.Own.length,I t.aA.aI.aO,.h s5 t.aA.aI.bX.length,.h s6 t.aA.a8.length,.h s7 t.aA.kZ.length,.h s8 x4.length,.h s9 t.aM.length,.h s10 t.bL.length,.h s11 t.Log.length,I t.aK]]) Q (aZ [45] Q2 (λhF=>a3A Q Q Q Q<|sF Q<|jB iE 25 [] [30] (⟨x3.Head,if 1000000<(bC (x3.fF+1)) then 1000000 else(bC (x3.fF+1)),0⟩:cM) () Q8<|kE s8 bV.symm [] [(0,8)] Q3<|fR Q2<|fC oI 22 [] h3 () Q7<|fR Q2<|fC aY 12 [15,16,17,18,19,29,21] h1 s12 Q7<|fR Q2<|gI () [28,30,0,1,2,3,4,5,6,7,10,11,14] hF Q)<|λhF=>sF Q<|jB iE 25 [] [30] ({x3 with gG:=0}:cM) () Q8<|fR Q2<|kE s8 bV.symm [] [(0,8)] Q3<|fR Q2<|fC oI 22 [] h3 () Q7<|fR Q2<|fC aY 12 [15,16,17,18,19,29,21] h1 s12 Q7<|fR Q2<|gI () [28,30,0,1,2,3,4,5,6,7,10,11,14] hF Q) λx4 _=>λhF=>ro aY 1 12 1 Q Q Q Q hF λx5 h7 hF s13=>wi hF<|gK [21] Q4 (λ_=>I0) λx6 s14=>λhF=>sF Q<|jB aY 13 [16,17,18,19,20,23,22] [] ({x5 with bA:=x6}:aE) (s13.1,s13.2.1,s13.2.2.1,s13.2.2.2.1,s13.2.2.2.2.1,s14,s13.2.2.2.2.2.2) Q8<|fR Q2<|kE s9 bV.symm [] [(2,9)] Q3<|fR Q2<|l6 () [2,3,4,5,6,7,8,9,0,24,10,11] hF Q2 Q4)<|aZ [63,68] Q2 (λhF=>sF Q<|jB aY 12 [15,16,17,18,19,20,21] [9] ({x1 with Pc:=17}:aE) s12 Q8<|fR Q2<|kE s9 bV.symm [] [(0,9)] Q3<|fR Q2<|l6 () [0,1,2,3,4,5,6,7,8,22,10,11] hF Q2 Q4)<|jN 13 1 0 32 [15,16,17,18,19,20,21] Q5 (λ_=>E2 (j:=({x1 with Pc:=15,K:=0}:aE))) λx7 _=>λhF=>sF Q<|jB aY 12 [22,23,24,25,26,27,28] [9] x7 s12 Q8<|fR Q2<|kE s9 bV.symm [] [(0,9)] Q3<|fR Q2<|l6 () [0,1,2,3,4,5,6,7,8,29,10,11] hF Q2 Q4
theorem WG{b0:Nat×Nat}:VS prog U 96 (uV t w_) [.p 0 0,I w_] [b0] ([.box 0 (IY t s1 s2 s3 s4 s5 s6 s7 s8 s9 s10 s11)]++(SK t s1 s2 s3 s4 s5 s6 s7 s8 s9 s10 s11 [])) (λr (y:A6C)=>.t []) (λr y=>([.box 0 (IY r y.1 y.2.1 y.2.2.1 y.2.2.2.1 y.2.2.2.2.1 y.2.2.2.2.2 s7 s8 s9 s10 s11)]++(SK r y.1 y.2.1 y.2.2.1 y.2.2.2.1 y.2.2.2.2.1 y.2.2.2.2.2 s7 s8 s9 s10 s11 []))):=
 b7 call96 func96 Q Q2<|gZ aY 9 Q3 λx1 h1 s12 h2=>λhF=>fM 1 h2 h1 Q5<|wi hF<|cG 0 2 (λ(_:Unit)=>wE t w_ x1) [0,1,4] (λ(_:Unit) (_:Unit)=>[(20,.b (decide ((x1.bG.length:Int)<=x1.K)))]) [1,2,3,4,5,6,7,8,10,11,0,14] (λ_ _=>[ow s9 (t.aM:List aE)]) Q (dM aC [0,14] Q<|λhF=>(by refine dJ Q2 ?_ ?_<;>exact sF Q<|fC aY 12 [15,16,17,18,19,20,21] h1 s12 Q7<|fR Q2<|gI (p:=()) () [22,1,2,3,4,5,6,7,8,10,11,0,14] hF Q)) λ_ _=>aZ [20] Q2 (λhF=>ro aY 0 12 1 Q Q Q Q hF λx2 h3 hF s13=>sR Q<|jB aY 13 [16,17,18,19,20,21,22] [] ({x2 with Pc:=18}:aE) s13 Q8<|fR Q2<|kE s9 bV.symm [] [(11,9)] Q3<|fR Q2<|l6 (s1,s2,s3,s4,s5,s6) [11,1,2,3,4,5,6,7,8,23,9,10] hF Q2 Q4)<|dM aC [12] Q<|λhF=>ro aY 0 12 1 Q Q Q Q hF λx3 h5 hF s14=>wi hF<|aMM 14 1 16 10 11 0 0 8 [1,2,3,4,5,6,7] Q Q Q Q Q (λ_=>IK) λx4 s15=>aZ [36] Q2 (jN 14 1 0 32 [16,17,18,19,20,21,22] Q5 (λ_=>E2 (j:=({x3 with K:=bC (x3.K+1),Sub:=x4.1}:aE))) λx5 _=>λhF=>sF Q<|jB aY 13 [30,31,32,33,34,35,36] [] x5 s14 Q8<|fR Q2<|kE s9 bV.symm [] [(11,9)] Q3<|fR Q2<|l6 s15 [11,23,24,25,26,27,28,29,8,37,9,10] hF Q2 Q4)<|λhF=>sF Q<|jB aY 13 [16,17,18,19,20,21,22] [] ({x3 with Sub:=x4.1}:aE) s14 Q8<|fR Q2<|kE s9 bV.symm [] [(11,9)] Q3<|fR Q2<|l6 s15 [11,23,24,25,26,27,28,29,8,30,9,10] hF Q2 Q4
theorem aHQ{h:Int}(h1:bU U s1 m.Heap.Bytes)(h2:bU U s2 m.Heap.Class)(h3:bU U s3 m.aD.Global)(h4:bU U s4 m.aD.Own):VS prog U 218 (KA m w_ h) [.g (gM m s1 s2 s3 s4),I w_,I h] [] [] (λr (y:X8)=>.t [.g (yM r.1 y),I r.2]) (λr y=>(zM r.1 y [])):=
 b7 call218 func218 Q Q2<|dX 0 2 (A3 m w_ h) [1,2,3,6] 8 [0,1] Q (c0 Q (λh=>RC (h.a h1) (h.a h2) (h.a h3) (h.a h4)) λx6=>fV [11,12] Q2 (b8 [0,1] Q2)<|c0 Q (λ_=>gT) λx7=>b8 [0,1] Q2) λx1=>aZ [8] Q2 (c1 Q (λh=>E1 (h.a h1) (h.a h2) (h.a h3) (h.a h4)) λx2 s5=>dL s5 [2,3,4,5] Q2)<|c0 Q (λh=>OE (h.a h1) (h.a h2) (h.a h3) (h.a h4)) λx3=>aZ [19,23] Q2 (c1 Q (λh=>E1 (h.a h1) (h.a h2) (h.a h3) (h.a h4)) λx4 s6=>dL s6 [2,3,4,5] Q2)<|c1 Q (λh=>ZO (h.a h1) (h.a h2) (h.a h3) (h.a h4)) λx5 s7=>dL s7 [2,3,4,5] Q2
theorem ZX{b0:Nat×Nat}:VS prog U 97 (A4 t w_) [.p 0 0,I w_] [b0] ([.box 0 (IY t s1 s2 s3 s4 s5 s6 s7 s8 s9 s10 s11)]++(SK t s1 s2 s3 s4 s5 s6 s7 s8 s9 s10 s11 [])) (λr (y:X8)=>.t []) (λr y=>([.box 0 (IY r y.1 y.2.1 y.2.2.1 y.2.2.2 s5 s6 s7 s8 s9 s10 s11)]++(SK r y.1 y.2.1 y.2.2.1 y.2.2.2 s5 s6 s7 s8 s9 s10 s11 []))):=
 b7 call97 func97 Q Q2<|gZ aY 9 Q3 λx1 h1 s12 h2=>λhF=>fM 1 h2 h1 Q5<|wi hF<|aZ [17] Q2 (λhF=>sR Q<|jB aY 12 [15,16,17,18,19,20,21] [9] ({x1 with Pc:=18}:aE) s12 Q8<|fR Q2<|kE s9 bV.symm [] [(0,9)] Q3<|fR Q2<|l6 (s1,s2,s3,s4) [0,1,2,3,4,5,6,7,8,22,10,11] hF Q2 Q4)<|gZ oI 19 Q3 λx2 h3 _ h4=>λhF=>fM 2 h4 h3 Q5<|cqS oI 22 [] h3 () Q9<|wi hF<|gK [25] Q4 (λ_=>I0) λx3 s13=>c0 Q (λh=>UT (h.o 6 Q)) λx4=>aZ [43] Q2 (c1 Q (λh=>aHQ (h.o 1 Q) (h.o 2 Q) (h.o 3 Q) (h.o 4 Q)) λx5 s14=>λhF=>sF Q<|jB aY 12 [15,16,17,18,26,20,21] [9] ({x1 with cT:=x3}:aE) (s12.1,s12.2.1,s12.2.2.1,s12.2.2.2.1,s13,s12.2.2.2.2.2.1,s12.2.2.2.2.2.2) Q8<|fR Q2<|kE s9 bV.symm [] [(0,9)] Q3<|fR Q2<|l6 s14 [0,27,28,29,30,5,6,7,8,31,10,11] hF Q2 Q4)<|λhF=>sF Q<|jB aY 12 [15,16,17,18,26,20,21] [9] ({x1 with cT:=x3}:aE) (s12.1,s12.2.1,s12.2.2.1,s12.2.2.2.1,s13,s12.2.2.2.2.2.1,s12.2.2.2.2.2.2) Q8<|fR Q2<|kE s9 bV.symm [] [(0,9)] Q3<|fR Q2<|l6 (s1,s2,s3,s4) [0,1,2,3,4,5,6,7,8,27,10,11] hF Q2 Q4
theorem aM9{c:aI}(h1:bU U s1 c.bX):VS prog U 219 (QO c w_) [.g [I c.aO,.h s1 c.bX.length],I w_] [] [] (λr (y:AC)=>.t [.g [I r.1.aO,.h y r.1.bX.length],.b r.2]) (λr y=>[ow y r.1.bX]):=
 b7 call219 func219 Q Q2<|c1 Q (λh=>yD (h.a h1)) λx1 s2=>dX 0 3 (zW w_ x1) [1,4,6] 25 [1,2,3] Q (c0 Q (λh=>EZ (h.a h1)) λx4=>fV [11,12] Q2 (b8 [1,2,3] Q2)<|c0 Q (λ_=>gT) λx5=>fV [15,16,17] Q2 (b8 [1,2,3] Q2)<|vB aMZ Q h1 Q λx6 _ _=>b8 [1,2,3] Q2) λx2=>aZ [25] Q2 (dL s2 [1] Q2)<|gZ K7 1 Q3 λx3 h2 _ h3=>λhF=>fM 3 h3 h2 Q5<|sR Q<|jB K7 3 [] [28] zL3 () Q8<|kE s2 bV.symm [(32,1)] [(0,1),(2,1)] Q3<|fR Q2<|l6 s2 [6] hF Q2 Q4
theorem ZY{b:aA}{b0:Nat×Nat}:VS prog U 98 (A5 b w_) [.p 0 0,I w_] [b0] ([.box 0 (gB b s1 s2 s3 s4 s5 s6 s7)]++(CN b s1 s2 s3 s4 s5 s6 s7 [])) (λr (y:AC)=>.b r.1) (λr y=>([.box 0 (gB r.2 s1 s2 s3 s4 y s6 s7)]++(CN r.2 s1 s2 s3 s4 y s6 s7 []))):=
 b7 call98 func98 Q Q2<|c1 Q (λh=>aM9 (h.o 5 Q)) λx1 s8=>dL s8 [0,1,2,3,4,8,6,7] Q2
theorem U2{b0:Nat×Nat}:VS prog U 99 (sH t w_) [.p 0 0,I w_] [b0] ([.box 0 (IY t s1 s2 s3 s4 s5 s6 s7 s8 s9 s10 s11)]++(SK t s1 s2 s3 s4 s5 s6 s7 s8 s9 s10 s11 [])) (λr (y:AC)=>.t []) (λr y=>([.box 0 (IY r s1 s2 s3 s4 s5 s6 s7 s8 s9 s10 y)]++(SK r s1 s2 s3 s4 s5 s6 s7 s8 s9 s10 y []))):=
 b7 call99 func99 Q Q2<|gZ aY 9 Q3 λx1 h1 s12 h2=>λhF=>fM 1 h2 h1 Q5<|wi hF<|aZ [21] Q2 (cG 0 4 (λ(_:Unit)=>FD t w_ x1) [0,1] (λ(_:Unit) (s13:AC)=>[]) [1,2,3,4,5,6,7,8,10,15,16,17,19,20,21,12,13,14] (λ_ s13=>[ow s13 (t.Log++([({x1 with Kind:=3,Who:=w_,bI:=[]}:qZ)]):List qZ),.box 0 [.h s1 t.aA.Mem.Heap.Bytes.length,.h s2 t.aA.Mem.Heap.Class.length,.h s3 t.aA.Mem.aD.Global.length,.h s4 t.aA.Mem.aD.Own.length,I t.aA.aI.aO,.h s5 t.aA.aI.bX.length,.h s6 t.aA.a8.length,.h s7 t.aA.kZ.length,.h s8 t.aT.length,.h s9 t.aM.length,.h s10 t.bL.length,.h s13 (t.Log++([({x1 with Kind:=3,Who:=w_,bI:=[]}:qZ)])).length,I t.aK]]) Q (dM aC [14,22,23] Q<|λhF=>nd hF λhA1 hF=>(by refine dJ Q2 ?_ ?_<;>exact nw jJ Q<|WR aGL [24,18] (({x1 with Kind:=3,Who:=w_,bI:=[]}:qZ)) (⟨none,0⟩,s12.2.2.2.1) dO WS λs16=>have hq1:=rn hA1;apN 11 25 dO Q Q Q9 hq1 λhq1 s17=>wi hF<|lI (p:=()) s17 [26,0,1,2,3,4,5,6,7,8,10,15,16,17,19,20,21,12,13,14] Q2)) λ_ s13=>λhF=>fM 1 h2 h1 Q5<|sF Q<|nV jJ<|nV Seen<|nV aQ<|nV cV<|nV Int<|nV Int<|nV Int<|fR Q2<|jB aY 17 [20,21,22,23,24,25,26] [38] zL0 (⟨none,0⟩,⟨none,0⟩,⟨none,0⟩,⟨none,0⟩,⟨none,0⟩,⟨none,0⟩,⟨none,0⟩) Q8<|fR Q2<|kE s9 bV.symm [] [(1,9)] Q3<|fR Q2<|l6 s13 [1,2,3,4,5,6,7,8,9,27,10,0] hF Q2 Q4)<|cG 0 4 (λ(_:Unit)=>FE t w_ x1) [0,1] (λ(_:Unit) (s20:AC)=>[]) [1,2,3,4,5,6,7,8,10,15,16,17,18,19,20,21,12,13,14] (λ_ s20=>[ow s20 (t.Log++([(⟨3,w_,x1.aK,x1.Code,[],[]⟩:qZ)]):List qZ),.box 0 [.h s1 t.aA.Mem.Heap.Bytes.length,.h s2 t.aA.Mem.Heap.Class.length,.h s3 t.aA.Mem.aD.Global.length,.h s4 t.aA.Mem.aD.Own.length,I t.aA.aI.aO,.h s5 t.aA.aI.bX.length,.h s6 t.aA.a8.length,.h s7 t.aA.kZ.length,.h s8 t.aT.length,.h s9 t.aM.length,.h s10 t.bL.length,.h s20 (t.Log++([(⟨3,w_,x1.aK,x1.Code,[],[]⟩:qZ)])).length,I t.aK]]) Q (dM aC [14,22,23] Q<|λhF=>nd hF λhA2 hF=>(by refine dJ Q2 ?_ ?_<;>exact nw jJ Q<|nw cV Q<|WR aGL [24,25] ((⟨3,w_,x1.aK,x1.Code,[],[]⟩:qZ)) (⟨none,0⟩,⟨none,0⟩) dO WS λs23=>have hq3:=rn hA2;apN 11 26 dO Q Q Q9 hq3 λhq3 s24=>wi hF<|lI (p:=()) s24 [27,0,1,2,3,4,5,6,7,8,10,15,16,17,18,19,20,21,12,13,14] Q2)) λ_ s20=>λhF=>fM 1 h2 h1 Q5<|sF Q<|nV jJ<|nV Seen<|nV aQ<|nV cV<|nV Int<|nV Int<|nV Int<|fR Q2<|jB aY 18 [21,22,23,24,25,26,27] [38] zL0 (⟨none,0⟩,⟨none,0⟩,⟨none,0⟩,⟨none,0⟩,⟨none,0⟩,⟨none,0⟩,⟨none,0⟩) Q8<|fR Q2<|kE s9 bV.symm [] [(1,9)] Q3<|fR Q2<|l6 s20 [1,2,3,4,5,6,7,8,9,28,10,0] hF Q2 Q4
theorem ZZ{b0:Nat×Nat}:VS prog U 34 (A6 t w_) [.p 0 0,I w_] [b0] ([.box 0 (IY t s1 s2 s3 s4 s5 s6 s7 s8 s9 s10 s11)]++(SK t s1 s2 s3 s4 s5 s6 s7 s8 s9 s10 s11 [])) (λr (y:A7C)=>.t []) (λr y=>([.box 0 (IY r y.1 y.2.1 y.2.2.1 y.2.2.2.1 y.2.2.2.2.1 y.2.2.2.2.2.1 s7 s8 s9 s10 y.2.2.2.2.2.2)]++(SK r y.1 y.2.1 y.2.2.1 y.2.2.2.1 y.2.2.2.2.1 y.2.2.2.2.2.1 s7 s8 s9 s10 y.2.2.2.2.2.2 []))):=
 b7 call34 func34 Q Q2<|gZ aY 9 Q3 λx1 h1 s12 h2=>λhF=>fM 1 h2 h1 Q5<|wi hF<|aZ [18,23] Q2 (λhF=>cqS aY 12 [15,16,17,18,19,20,21] h1 s12 Q9<|wi hF<|jN 0 0 0 13 [1,2,3,4,5,6,7,8,22,10,11] Q5 (λ_=>XX) λx2 s13=>E9 (s1,s2,s3,s4,s5,s6,s13) [0,23,24,25,26,27,28,29,30,31,32,33] Q Q)<|cG 0 2 (iM t w_ x1) [0,1,4,5] (λ(x3:Bool) (_:Unit)=>[(27,.b x3)]) [1,2,3,4,5,6,7,8,10,11,0,14] (λx3 _=>[ow s9 (t.aM:List aE)]) Q (fV [29,30] Q2 (λhF=>sF Q<|fC aY 12 [15,16,17,18,19,20,21] h1 s12 Q7<|fR Q2<|gI () [22,1,2,3,4,5,6,7,8,10,11,0,14] hF Q)<|fV [32,33,34] Q2 (λhF=>sF Q<|fC aY 12 [15,16,17,18,19,20,21] h1 s12 Q7<|fR Q2<|gI () [22,1,2,3,4,5,6,7,8,10,11,0,14] hF Q)<|λhF=>sF Q<|fC aY 12 [15,16,17,18,19,20,21] h1 s12 Q7<|fR Q2<|gI () [22,1,2,3,4,5,6,7,8,10,11,0,14] hF Q) λx3 _=>aZ [27] Q2 (jN 11 0 0 13 [1,2,3,4,5,6,7,8,0,9,10] Q5 (λ_=>UW) λx4 s14=>E9 (t6U s14 (s11)) [11,13,14,15,16,17,18,19,20,21,22,23] Q Q)<|aZ [41,43] Q2 (λhF=>ro aY 0 12 1 Q Q Q Q hF λx5 h3 hF s15=>wi hF<|jN 14 1 0 32 [16,17,18,19,20,21,22] Q5 (λ_=>aBF) λx6 s16=>λhF=>sF Q<|jB aY 13 [23,24,25,26,27,28,29] [] x6 (s15.1,s15.2.1,s16.1,s16.2,s15.2.2.2.2.1,s15.2.2.2.2.2.1,s15.2.2.2.2.2.2) Q8<|fR Q2<|kE s9 bV.symm [] [(11,9)] Q3<|fR Q2<|l6 (s1,s2,s3,s4,s5,s6,s11) [11,1,2,3,4,5,6,7,8,30,9,10] hF Q2 Q4)<|c0 Q (λ_=>bY) λx7=>aZ [46,48] Q2 (jN 11 0 0 13 [1,2,3,4,5,6,7,8,0,9,10] Q5 (λ_=>ZS) λx8 _=>E9 (s1,s2,s3,s4,s5,s6,s11) [11,13,14,15,16,17,18,19,20,21,22,23] Q Q)<|aZ [52,54] Q2 (jN 11 0 0 13 [1,2,3,4,5,6,7,8,0,9,10] Q5 (λ_=>X2) λx9 s17=>E9 (t6U s17 (s11)) [11,13,14,15,16,17,18,19,20,21,22,23] Q Q)<|aZ [58,60] Q2 (jN 11 0 0 13 [1,2,3,4,5,6,7,8,0,9,10] Q5 (λ_=>ZV) λx10 s18=>E9 (s1,s2,s3,s4,s5,s6,s18) [11,13,14,15,16,17,18,19,20,21,22,23] Q Q)<|aZ [64,66] Q2 (jN 11 0 0 13 [1,2,3,4,5,6,7,8,0,9,10] Q5 (λ_=>TA) λx11 _=>E9 (s1,s2,s3,s4,s5,s6,s11) [11,13,14,15,16,17,18,19,20,21,22,23] Q Q)<|c0 Q (λ_=>bY) λx12=>aZ [70,72] Q2 (jN 11 0 0 13 [1,2,3,4,5,6,7,8,0,9,10] Q5 (λ_=>X3) λx13 s19=>E9 (t4U s19 (s5,s6,s11)) [11,13,14,15,16,17,18,19,20,21,22,23] Q Q)<|dX 0 2 (jS t w_ x1) [0,1,4,5] 76 [1,2,3,4,5,6,7,8,0,9,10,11,12] Q (fV [78,79] Q2 (b8 [1,2,3,4,5,6,7,8,0,9,10,11,12] Q2)<|b8 [1,2,3,4,5,6,7,8,0,9,10,11,12] Q2) λx14=>aZ [76] Q2 (jN 11 0 0 13 [0,1,2,3,4,5,6,7,8,9,10] Q5 (λ_=>WE) λx15 _=>E9 (s1,s2,s3,s4,s5,s6,s11) [11,13,14,15,16,17,18,19,20,21,22,23] Q Q)<|aZ [86,88] Q2 (jN 11 0 0 13 [0,1,2,3,4,5,6,7,8,9,10] Q5 (λ_=>WG) λx16 s20=>E9 (t6U s20 (s11)) [11,13,14,15,16,17,18,19,20,21,22,23] Q Q)<|aZ [92,94] Q2 (jN 11 0 0 13 [0,1,2,3,4,5,6,7,8,9,10] Q5 (λ_=>ZX) λx17 s21=>E9 (t4U s21 (s5,s6,s11)) [11,13,14,15,16,17,18,19,20,21,22,23] Q Q)<|aZ [98,100] Q2 (jN 11 0 0 8 [0,1,2,3,4,5,6] Q5 (λ_=>ZY) λx18 s22=>λhF=>ro aY 8 12 1 Q Q Q Q hF λx19 h5 hF s23=>sF Q<|jB aY 20 [23,24,25,26,27,28,29] [] ({x19 with Pc:=19}:aE) s23 Q8<|fR Q2<|kE s9 bV.symm [] [(11,9)] Q3<|fR Q2<|l6 (s1,s2,s3,s4,s22,s6,s11) [11,13,14,15,16,17,18,19,7,30,9,10] hF Q2 Q4)<|aZ [109,111] Q2 (jN 11 0 0 13 [0,1,2,3,4,5,6,7,8,9,10] Q5 (λ_=>U2) λx20 s24=>E9 (s1,s2,s3,s4,s5,s6,s24) [11,13,14,15,16,17,18,19,20,21,22,23] Q Q)<|λhF=>ro aY 8 12 1 Q Q Q Q hF λx21 h7 hF s25=>wi hF<|jN 14 1 0 32 [16,17,18,19,20,21,22] Q5 (λ_=>dN) λx22 _=>λhF=>sF Q<|jB aY 13 [23,24,25,26,27,28,29] [] x22 s25 Q8<|fR Q2<|kE s9 bV.symm [] [(11,9)] Q3<|fR Q2<|l6 (s1,s2,s3,s4,s5,s6,s11) [11,0,1,2,3,4,5,6,7,30,9,10] hF Q2 Q4
theorem aBH{x:gH}(h1:bU U s1 x.bL)(h2:bU U s2 x.dK):V0 prog U 9 (EO x) [.g [.h s1 x.bL.length,.h s2 x.dK.length]] I:=
 b7 call9 func9 Q Q2<|c1 Q (λh=>aDY (h.a h1)) λx1 s3=>aZ [13] Q2 (cA Q2)<|λhF=>a3A Q Q Q Q<|a4V Q Q Q Q Q h2 Q Q hF λhF s4 h3=>wi hF<|LW (s3.1,s3.2.1,s3.2.2.1,s3.2.2.2.1,s3.2.2.2.2.1,s3.2.2.2.2.2.1,s3.2.2.2.2.2.2.2.2.2.2) [3,21,22] (λ(p:Int×Int×Table) (u:A7C)=>[(4,I p.1),(23,I p.2.1)]) [1,2,3,4,5,6,7,8,9,10,11,12] [] (λp u=>(SK p.2.2 u.1 u.2.1 u.2.2.1 u.2.2.2.1 u.2.2.2.2.1 u.2.2.2.2.2.1 s3.2.2.2.2.2.2.1 s3.2.2.2.2.2.2.2.1 s3.2.2.2.2.2.2.2.2.1 s3.2.2.2.2.2.2.2.2.2.1 u.2.2.2.2.2.2 [.box 1 (IY p.2.2 u.1 u.2.1 u.2.2.1 u.2.2.2.1 u.2.2.2.2.1 u.2.2.2.2.2.1 s3.2.2.2.2.2.2.1 s3.2.2.2.2.2.2.2.1 s3.2.2.2.2.2.2.2.2.1 s3.2.2.2.2.2.2.2.2.2.1 u.2.2.2.2.2.2)])) id [] (λ(x8:Int) (_:Unit)=>[(4,I x8)]) [] (λx8 _=>[]) Q Q (λhF1 ⟨x5,x6,x7⟩ ⟨s12,s13,s14,s15,s16,s17,s18⟩ hr1=>aZ [24] Q2 (cG 2 2 (λ(p:Int×Table)=>oQ x6 p.1 p.2) [3,21,22,23] (λ(p:Int×Table) (u:A7C)=>[(4,I p.1)]) [] (λp u=>(SK p.2 u.1 u.2.1 u.2.2.1 u.2.2.2.1 u.2.2.2.2.1 u.2.2.2.2.2.1 s3.2.2.2.2.2.2.1 s3.2.2.2.2.2.2.2.1 s3.2.2.2.2.2.2.2.2.1 s3.2.2.2.2.2.2.2.2.2.1 u.2.2.2.2.2.2 [.box 1 (IY p.2 u.1 u.2.1 u.2.2.1 u.2.2.2.1 u.2.2.2.2.1 u.2.2.2.2.2.1 s3.2.2.2.2.2.2.1 s3.2.2.2.2.2.2.2.1 s3.2.2.2.2.2.2.2.2.1 s3.2.2.2.2.2.2.2.2.2.1 u.2.2.2.2.2.2)])) Q (WT Q h3 Q λx11=>c0 Q (λ_=>gT) λx12=>aZ [28] Q2 (jN 11 1 0 13 [0,1,2,3,4,5,6,7,8,9,10] Q5 (λ_=>ZZ) λx13 s26=>c0 Q (λh=>PO (h.o 18 Q)) λx14=>λhG1=>aY3 Q Q Q Q<|wi hG1<|lI (p:=(if x5<x14 then x14 else x5,x13)) s26 [13,14,15,16,17,18,19,20,21,22,23,11] Q2)<|lI (p:=(x5,x7)) (s12,s13,s14,s15,s16,s17,s18) [0,1,2,3,4,5,6,7,8,9,10,11] Q2) λ⟨x9,x10⟩ ⟨s19,s20,s21,s22,s23,s24,s25⟩=>nxW (s19,s20,s21,s22,s23,s24,s25) [0,1,2,3,4,5,6,7,8,9,10,11] Q)<|wY [] Q) λx8 _=>cA Q2
theorem aNA{a_ b:jJ}:V0 prog U 364 (QP a_ b) [.g [I a_.Kind,I a_.Key,I a_.fE],.g [I b.Kind,I b.Key,I b.fE]] .b:=
 b7 call364 func364 Q Q2<|aZ [9] Q2 (cA Q2)<|aZ [14] Q2 (cA Q2)<|aZ [19] Q2 (cA Q2)<|cA Q2
theorem aKH{a_ b:List jJ}(h1:bU U s1 a_)(h2:bU U s2 b):V0 prog U 271 (ND a_ b) [.h s1 a_.length,.h s2 b.length] .b:=
 b7 call271 func271 Q Q2<|aZ [10] Q2 (cA Q2)<|LX 5 [0,1] [] Out.brk [] [] Q Q (λhF1 x2 hr1=>aZ [14] Q2 (dM aC [] Q<|vB aO9 Q h1 Q λx3 _ _=>vB aO9 Q h2 Q λx4 _ _=>c0 Q (λ_=>aNA) λx5=>aZ [26] Q2 (HC hr1 hF1<|cA Q2)<|CS [] Q)<|wY [] Q)<|cA Q2
theorem aHR{a_ b:Batch}(h1:bU U s1 a_.bI)(h2:bU U s2 b.bI):V0 prog U 265 (KB a_ b) [.g [.b a_.Collect,.h s1 a_.bI.length],.g [.b b.Collect,.h s2 b.bI.length]] .b:=
 b7 call265 func265 Q Q2<|aZ [9] Q2 (cA Q2)<|c0 Q (λh=>aKH (h.a h1) (h.a h2)) λx1=>aZ [15] Q2 (cA Q2)<|cA Q2
theorem aD6{a_ b:List Batch}(h1:bU U s1 a_)(h2:bU U s2 b):V0 prog U 220 (G0 a_ b) [.h s1 a_.length,.h s2 b.length] .b:=
 b7 call220 func220 Q Q2<|aZ [10] Q2 (cA Q2)<|LX 5 [0,1] [] Out.brk [] [] Q Q (λhF1 x2 hr1=>aZ [14] Q2 (dM aC [] Q<|vB K6 Q h1 Q λx3 s3 h3=>vB K6 Q h2 Q λx4 s4 h4=>c0 Q (λh=>aHR (h.a h3) (h.a h4)) λx5=>aZ [26] Q2 (HC hr1 hF1<|cA Q2)<|CS [] Q)<|wY [] Q)<|cA Q2
theorem aD7{a_ b:aP}(h1:bU U s1 a_.List)(h2:bU U s2 b.List):V0 prog U 101 (G3 a_ b) [.g [.h s1 a_.List.length],.g [.h s2 b.List.length]] .b:=
 b7 call101 func101 Q Q2<|c0 Q (λh=>aD6 (h.a h1) (h.a h2)) λx1=>aZ [10] Q2 (cA Q2)<|cA Q2
theorem aBI{a_ b:List aP}(h1:bU U s1 a_)(h2:bU U s2 b):V0 prog U 36 (EP a_ b) [.h s1 a_.length,.h s2 b.length] .b:=
 b7 call36 func36 Q Q2<|aZ [10] Q2 (cA Q2)<|LX 5 [0,1] [] Out.brk [] [] Q Q (λhF1 x2 hr1=>aZ [14] Q2 (dM aC [] Q<|vB uW Q h1 Q λx3 s3 h3=>vB uW Q h2 Q λx4 s4 h4=>c0 Q (λh=>aD7 (h.a h3) (h.a h4)) λx5=>aZ [26] Q2 (HC hr1 hF1<|cA Q2)<|CS [] Q)<|wY [] Q)<|cA Q2
theorem aKI{a_ b:List Int}(h1:bU U s1 a_)(h2:bU U s2 b):V0 prog U 37 (NH a_ b) [.h s1 a_.length,.h s2 b.length] .b:=
 b7 call37 func37 Q Q2<|aZ [10] Q2 (cA Q2)<|LX 5 [0,1] [] Out.brk [] [] Q Q (λhF1 x2 hr1=>aZ [14] Q2 (dM aC [] Q<|WT Q h1 Q λx3=>WT Q h2 Q λx4=>aZ [25] Q2 (HC hr1 hF1<|cA Q2)<|CS [] Q)<|wY [] Q)<|cA Q2
theorem aBJ{a_ b:gH}(h1:bU U s1 a_.bL)(h2:bU U s2 a_.dK)(h3:bU U s3 b.bL)(h4:bU U s4 b.dK):V0 prog U 10 (ER a_ b) [.g [.h s1 a_.bL.length,.h s2 a_.dK.length],.g [.h s3 b.bL.length,.h s4 b.dK.length]] .b:=
 b7 call10 func10 Q Q2<|c0 Q (λh=>aBI (h.a h1) (h.a h3)) λx1=>aZ [10] Q2 (cA Q2)<|c0 Q (λh=>aKI (h.a h2) (h.a h4)) λx2=>aZ [16] Q2 (cA Q2)<|cA Q2
theorem PQ{aX:gH}(h1:bU U s1 aX.bL)(h2:bU U s2 aX.dK):V0 prog U 3 (uH aX) [.g [.h s1 aX.bL.length,.h s2 aX.dK.length]] .b:=
 b7 call3 func3 Q Q2<|c0 Q (λh=>aAZ (h.a h1) (h.a h2)) λx1=>aZ [11] Q2 (cA Q2)<|c1 Q (λh=>FY (h.a h1) (h.a h2)) λx2 s3=>c0 Q (λh=>aA6 (h.o 1 Q) (h.o 2 Q)) λx3=>c1 Q (λh=>FY (h.a h1) (h.a h2)) λx4 s4=>c0 Q (λh=>aBH (h.o 3 Q) (h.o 4 Q)) λx5=>aZ [21] Q2 (cA Q2)<|dM aC [0,5] Q<|c1 Q (λh=>FY (h.a h1) (h.a h2)) λx6 s5=>c0 Q (λh=>aBJ (h.o 3 Q) (h.o 4 Q) (h.o 6 Q) (h.o 7 Q)) λx7=>aZ [26] Q2 (cA Q2)<|cA Q2
end
end Go.Proofs.YtonkeoekmfkaoaaGreat
end
noncomputable section
namespace Go.Gv
variable{h:Heap}{c s x:Int}{l:List Int}{k w:Nat}{O ρ σ:Type}
theorem iG{f:σ->Option (Step σ ρ)}(n:Nat)(S:Nat->σ)(r:ρ)(hs:∀k,k<n->f (S k)=some (.next (S (k+1))))(he:f (S n)=some (.stop r)):loop f (S 0)=some r:=by
  have key:∀d k,k+d=n->loop f (S k)=some r:=by
    intro d;induction d with
    | zero => intro k hk; obtain rfl : k = n := by omega
              exact bH he
    |succ d ih=>intro k hk;rw[bK (hs k aa)];exact ih (k+1) aa
  exact key n 0 aa
theorem aVS{f:σ->Option (Step σ ρ)}(n:Nat)(S:Nat->σ)(g:Nat->ρ)
  (h:∀k,k<=n->f (S k)=some (.stop (g k))\/(k<n/\f (S k)=some (.next (S (k+1)))/\g k=g (k+1))):∀k,k<=n->loop f (S k)=some (g k):=by
 have key:∀d k,k+d=n->loop f (S k)=some (g k):=by
  intro d;induction d with
  |zero=>
   intro k hk;rcases h k aa with h1|⟨h1,_⟩
   ·exact bH h1
   ·omega
  |succ d ih=>
   intro k hk;rcases h k aa with h1|⟨_,h2,h3⟩
   ·exact bH h1
   ·rw[bK h2,h3];exact ih (k+1) aa
 intro k hk;exact key (n-k) k aa
theorem z5{f:σ->Option (Step σ ρ)}(n:Nat)(S:Nat->σ)(p:Nat->Prop)[DecidablePred p](yes no:ρ)
  (h1:∀k,k<n->p k->f (S k)=some (.next (S (k+1)))) (h2:∀k,k<n->¬p k->f (S k)=some (.stop no)) (h3:f (S n)=some (.stop yes)) :
  loop f (S 0)=some (if ∀k,k<n->p k then yes else no):=by
 classical
 have key:∀d k,k+d=n->loop f (S k)=some (if ∀j,k<=j->j<n->p j then yes else no):=by
  intro d;induction d with
  |zero=>
   intro k hk;obtain rfl:k=n:=aa
   rw[bH h3,aL (λj a b=>aa)]
  |succ d ih=>
   intro k hk;by_cases hp:p k
   ·rw[bK (h1 k aa hp),ih (k+1) aa];by_cases h:∀j,k+1<=j->j<n->p j
    ·rw[aL h,aL];intro j a b;by_cases e:j=k
     ·subst e;exact hp
     ·exact h j aa b
    ·rw[aN h,aN];exact λq=>h λj a b=>q j aa b
   ·rw[bH (h2 k aa hp),aN];exact λq=>hp (q k (kH _) aa)
 have:=key n 0 aa;rw[this];by_cases h:∀k,k<n->p k
 ·rw[aL h,aL (λj _ b=>h j b)]
 ·rw[aN h,aN (λq=>h λk a=>q k (jT _) a)]
theorem l7{f:σ->Option (Step σ ρ)}(l:List O)(S:Nat->σ)(p:O->Prop)[DecidablePred p](yes no:ρ)
  (h1:∀k (h:k<l.length),p l[k]->f (S k)=some (.next (S (k+1)))) (h2:∀k (h:k<l.length),¬p l[k]->f (S k)=some (.stop no)) (h3:f (S l.length)=some (.stop yes)) :
  loop f (S 0)=some (if ∀x∈l,p x then yes else no):=by
 classical
 have:=z5 (f:=f) l.length S (λk=>∀h:k<l.length,p l[k]) yes no (λk h hp=>h1 k h (hp h)) (λk h hp=>h2 k h (λq=>hp λ_=>q)) h3;rw[this];by_cases h:∀x∈l,p x
 ·rw[aL h,aL (λk hk _=>h _ (cZ hk))]
 ·rw[aN h,aN];intro q;refine h λx hx=>?_;obtain⟨k,hk,rfl⟩:=YC.1 hx;exact q k hk hk
theorem dA(h1:-9223372036854775808<=x)(h2:x<=9223372036854775807):bC x=x:=NP ⟨h1,h2⟩
theorem fQ{l:List O}{i:Int}(h0:0<=i)(h1:i<l.length):idx l i=some (l[i.toNat]' aa):=idx_eq h0 h1
theorem wrap_i64(h1:-9223372036854775808<=x)(h2:x<=9223372036854775807):IntKind.i64.wrap x=x:=NP ⟨h1,h2⟩
theorem aHS{y:Int}(h1:0<=x):x.tdiv y=x/y:=Int.tdiv_eq_ediv_of_nonneg h1
theorem E3{y:Int}(h1:0<=x):x.tmod y=x % y:=Int.tmod_eq_emod_of_nonneg h1
theorem aUI(h1:0<=x)(hk:k<=63):zA .i64 x k=x/2 ^ k:=by
 unfold zA;have:min ((k:Int).toNat) IntKind.i64.bits=k:=by simp[IntKind.bits];omega
 rw[this,Int.fdiv_eq_ediv_of_nonneg _ (by exact Int.le_of_lt (Int.pow_pos aa))]
theorem cH{c:Prop}[Decidable c]{a b:O}(h:c:=by simp;omega):ite c a b=a:=aL h
theorem dY{c:Prop}[Decidable c]{a b:O}(h:¬c:=by simp):ite c a b=b:=aN h
theorem m9{c:Prop}[Decidable c]{a b:O}(h:¬c:=by omega):ite c a b=b:=aN h
theorem pH{c:Prop}[Decidable c]{a b:O}(h:¬c:=by simp;omega):ite c a b=b:=aN h
theorem LJ{p:Prop}[Decidable p]{k:Option O}(h:p:=by simp;omega):need p k=k:=bZ h k
theorem LU{p:Prop}[Decidable p]{k:Option O}(h:p:=by omega):need p k=k:=bZ h k
theorem IL{l:List O}(h:k<l.length:=by omega):idx l (k:Int)=some l[k]:=aU h
theorem cN(h1:-9223372036854775808<=x:=by omega)(h2:x<=9223372036854775807:=by omega):bC x=x:=dA h1 h2
section
variable {O:Type} {p:O->Bool}
theorem Z0{f:Int->Option (Step Int (Out Unit Int))}{s:List O}(hl:s.length<=4611686018427387904)
  (hf:∀k:Nat,f (k:Int)=if h:k<s.length then(if p s[k] then some (.stop (Out.ret (k:Int))) else some (.next ((k+1:Nat):Int))) else some (.stop (Out.brk ()))) :
  ∀d k,k+d=s.length->(∃j,∃h:j<s.length,k<=j/\(∀i (h:i<s.length),k<=i->i<j->p s[i]=false)/\p s[j]=true/\loop f (k:Int)=some (Out.ret (j:Int)))\/((∀i (h:i<s.length),k<=i->p s[i]=false)/\loop f (k:Int)=some (Out.brk ()))
 |0,k,hk=>.inr ⟨λi h h2=>aa,bH aj⟩
 |d + 1,k,hk=>by
  have hks:k<s.length:=aa
  by_cases hp:p s[k]=true
  ·exact .inl ⟨k,hks,kH _,λi h h1 h2=>aa,hp,bH (by rw[hf k,dif_pos hks,aL hp])⟩
  ·have hp:p s[k]=false:=by simpa using hp
   have hn:f (k:Int)=some (.next ((k+1:Nat):Int)):=by rw[hf k,dif_pos hks,aN (by simp[hp])]
   rcases Z0 hl hf d (k+1) aa with ⟨j,h,h1,h2,h3,h4⟩|⟨h1,h2⟩
   ·refine .inl ⟨j,h,aa,λi hi a b=>?_,h3,by rw[bK hn];exact h4⟩;by_cases e:i=k
    ·subst e;exact hp
    ·exact h2 i hi aa b
   ·refine .inr ⟨λi hi a=>?_,by rw[bK hn];exact h2⟩;by_cases e:i=k
    ·subst e;exact hp
    ·exact h1 i hi aa
theorem aNB{f:List O×Int×Int->Option (Step (List O×Int×Int) (List O×Int))}{n:Nat}(hl:n<=4611686018427387904)
  (hf:∀(L:List O) (i j:Nat) (h:j<L.length),L.length=n->i<=j->f (L,(i:Int),(j:Int))=if p L[j] then some (.next (L,(i:Int),((j+1:Nat):Int))) else some (.next (L.set i L[j],((i+1:Nat):Int),((j+1:Nat):Int))))
  (he:∀(L:List O) (i j:Nat),j=L.length->f (L,(i:Int),(j:Int))=some (.stop (L,(i:Int)))) :
  ∀d (L:List O) (i j:Nat),j+d=L.length->L.length=n->i<=j->∃(M:List O) (k:Nat),loop f (L,(i:Int),(j:Int))=some (M,(k:Int))/\M.length=n/\k<=n/\M.take k=L.take i++(L.drop j).filter (λx=>!p x)
 |0,L,i,j,hj,hn,hi=>⟨L,i,bH (he L i j aa),hn,aa,aj⟩
 |d + 1,L,i,j,hj,hn,hi=>by
  have hjl:j<L.length:=aa
  have hd:L.drop j=L[j]::L.drop (j+1):=BW hjl;by_cases hp:p L[j]=true
  ·obtain⟨M,k,h1,h2,h3,h4⟩:=aNB hl hf he d L i (j+1) aa hn aa;refine⟨M,k,by rw[bK (by rw[hf L i j hjl hn hi,aL hp])];exact h1,h2,h3,aj⟩
  ·have hp:p L[j]=false:=aj
   obtain⟨M,k,h1,h2,h3,h4⟩:=aNB hl hf he d (L.set i L[j]) (i+1) (j+1) ah aj aa;refine⟨M,k,by rw[bK (by rw[hf L i j hjl hn hi,aN (by simp[hp])])];exact h1,h2,h3,?_⟩;rw[h4,hd,List.filter_cons_of_pos (by simp[hp])];have e1:(L.set i L[j]).take (i+1)=L.take i++[L[j]]:=by rw[TS ah,List.take_set_of_le (kH _)];simp
   grind[List.drop_set_of_lt]
end
theorem aVT{l xs:List O}{a:Nat}(h:a<=l.length):((cO l a xs).take a).drop 0=l.take a:=by grind[cO]
theorem a0B{q:O->Bool}{s:List O}{j:Nat}(h:j<s.length)(h1:∀i (h:i<s.length),i<j->q s[i]=true)(h2:q s[j]=false):s.take j++(s.drop (j+1)).filter q=s.filter q:=by
 have e:s=s.take j++s[j]::s.drop (j+1):=ae
 have e3:(s.take j).filter q=s.take j:=by grind[List.filter_eq_self,aBY]
 grind
theorem aPD(x y:Int):cmp_Less_int x y=some (decide (x<y)):=by simp[cmp_Less_int,cmp_isNaN_int,tL]
theorem aNC{A B:List Int}{k:Int}(h:k=(A.length:Int)):idx (A++x::B) k=some x:=by grind[aU]
theorem aPE{data:List Int}(hd:data.length<=4611686018427387904):∀(j:Nat) (A B C:List Int) (x:Int),A.length=j->(A++x::(B++C)).length=data.length->(A++B).Pairwise (·<=·)->(∀b∈B,x<=b) ->
  ∃M:List Int,loop (dF data 0) (A++x::(B++C),(j:Int))=some (M++C)/\M.Perm (A++x::B)/\M.Pairwise (·<=·)
 |0,A,B,C,x,hj,hn,hs,hx=>by obtain rfl:A=[]:=vD hj;refine⟨x::B,bH ?_,.refl _,aS2.2 ⟨hx,hs⟩⟩;simp only[dF,dE];rw[bZ hn,dY,bZ hn,dY];rfl
 |j + 1,A,B,C,x,hj,hn,hs,hx=>by
  obtain⟨A,y,rfl⟩:∃A' y,A=A'++[y]:=by
   rcases List.eq_nil_or_concat A with h|⟨A',y,h⟩
   ·rw[h] at hj;cases hj
   ·exact⟨A',y,by rw[h,List.concat_eq_append]⟩
  have hjA:A.length=j:=aj
  have e0:A++[y]++x::(B++C)=A++y::(x::(B++C)):=ae
  have ew:bC (((j+1:Nat):Int)-1)=(j:Int):=by grind[dA]
  have i1:idx (A++y::(x::(B++C))) ((j+1:Nat):Int)=some x:=by grind[aNC]
  have i2:idx (A++y::(x::(B++C))) (j:Int)=some y:=aNC aa;rw[e0] at hn ⊢;have hyB:∀b∈B,y<=b:=λb hb=>(List.pairwise_append.1 hs).2.2 y ae b hb;by_cases hlt:x<y
  ·have st:dF data 0 (A++y::(x::(B++C)),((j+1:Nat):Int))=some (.next (A++x::((y::B)++C),(j:Int))):=by simp_all[dF,bZ,aPD,dE,iK,aNC]
   obtain⟨M,h1,h2,h3⟩:=aPE hd j A (y::B) C x hjA aj aj (λb hb=>by
    grind)
   refine⟨M,by grind[bK],h2.trans ?_,h3⟩;grind
  ·refine⟨A++[y]++x::B,bH ?_,.refl _,?_⟩
   ·simp_all[dF,bZ,aPD,dE,aN]
   grind
theorem aLH{data:List Int}(hd:data.length<=4611686018427387904):∀d (S R:List Int),R.length=d->S≠[]->(S++R).length=data.length->S.Pairwise (·<=·) ->
  ∃M:List Int,loop (cR data 0 (data.length:Int)) (S++R,(S.length:Int))=some M/\M.Perm (S++R)/\M.Pairwise (·<=·)
 |0,S,R,hR,h0,hn,hs=>by simp_all[bH,cR,bZ]
 |d+1,S,[],hR,h0,hn,hs=>by cases hR
 |d + 1,S,x::R,hR,h0,hn,hs=>by
  obtain⟨M,h1,h2,h3⟩:=aPE hd S.length S [] R x rfl aj aj (λb hb=>by cases hb);have hl:=h2.length_eq;simp at hl;have hn':=hn;simp at hn';have st:cR data 0 (data.length:Int) (S++x::R,(S.length:Int))=some (.next (M++R,((S.length+1:Nat):Int))):=by simp only[cR];rw[bZ hn,cH];grind[mM,mL,bZ,dA]
  obtain⟨N,g1,g2,g3⟩:=aLH hd d M R aj aj ah h3;refine⟨N,by grind[bK],g2.trans ?_,g3⟩;grind
theorem a0C{x:List Int}(h:x.length<=12)(hb:∃n,zT (IntKind.u64.wrap (x.length:Int))=some n):∃y:List Int,AZ x=some y/\y.Perm x/\y.Pairwise (·<=·):=by
 have key:∃y:List Int,gL x 0 (x.length:Int)=some y/\y.Perm x/\y.Pairwise (·<=·):=by
  unfold gL;rw[cN];cases x with
  |nil=>
   simp[bH,cR,bZ,iL,iJ]
  |cons a r=>
   obtain⟨M,h1,h2,h3⟩:=aLH (data:=a::r) aa r.length [a] r rfl ae ae (List.pairwise_singleton _ _);refine⟨M,?_,aj,h3⟩;have h1':loop (cR (a::r) 0 ((a::r).length:Int)) (a::r,(0:Int)+1)=some M:=h1;rw[h1',aG];simp only[iL,iJ];have h4:=h2.length_eq;grind[bZ]
 obtain⟨y,h1,h2,h3⟩:=key;obtain⟨n,hn⟩:=hb;refine⟨y,?_,h2,h3⟩;unfold AZ m7;rw[hn,aG,bH (r:=y) (by
  simp only[tM];rw[cN,cH,h1];rfl),aG]
 rfl
def a68(n:Nat):Bool:=(zT (IntKind.u64.wrap (n:Int))).isSome
theorem a0D:(List.range 13).all a68=true:=by kernel_rfl
theorem aRP(n:Nat)(h:n<=12):∃m,zT (IntKind.u64.wrap (n:Int))=some m:=
 aFA.1 (aI3.1 a0D n (List.mem_range.2 aa))
theorem aPF(h:l.Pairwise (·<=·)):(CM l).Pairwise (· < ·)/\∀a,a∈CM l↔a∈l:=by
 obtain⟨n,hn⟩:∃n,l.length=n:=⟨_,rfl⟩
 revert l
 induction n with
 |zero=>intro l h hn;obtain rfl:l=[]:=vD hn;exact⟨.nil,λa=>Iff.rfl⟩
 |succ n ih=>
 intro l h hn;obtain⟨l,x,rfl⟩:∃L z,l=L++[z]:=by
  rcases List.eq_nil_or_concat l with h0|⟨L,z,h0⟩
  ·rw[h0] at hn;cases hn
  ·exact⟨L,z,by rw[h0,List.concat_eq_append]⟩
 rw[List.pairwise_append] at h;obtain⟨i1,i2⟩:=ih h.1 aj;rw[aAR];split
 ·grind
 ·rename_i hx;refine⟨List.pairwise_append.2 ⟨i1,List.pairwise_singleton _ _,λa ha b hb=>?_⟩,λa=>aj⟩;simp at hb;subst hb;have hle:a<=b:=h.2.2 a ((i2 a).1 ha) b ae;by_cases e:a=b
  ·subst e;exfalso;obtain⟨L,z,hz⟩:∃L z,CM l=L++[z]:=by
    rcases List.eq_nil_or_concat (CM l) with h0|⟨L,z,h0⟩
    ·rw[h0] at ha;cases ha
    ·exact⟨L,z,by rw[h0,List.concat_eq_append]⟩
   rw[hz] at ha hx i1;have hz':z<=a:=h.2.2 z ((i2 z).1 aj) a ae;rcases iX.1 ha with ha'|ha'
   ·have:=(List.pairwise_append.1 i1).2.2 a ha' z ae;omega
   grind
  ·omega
theorem eT(n a b:Int):cC n a b=some (decide (a<=n/\n<=b)):=by grind[cC,DQ]
theorem cW(n a b:Int):b9 n a b=some (decide (a<=n/\n<=b)):=by grind[b9,I8]
def jU(c:Int):Int:=if c=0 then 8 else if c=1 then 16 else if c=2 then 40 else 0
def bD(c:Int):Int:=if c=0 then 12 else if c=1 then 20 else if c=2 then 44 else 0
def dB(c:Int):Int:=if c=0 then 4 else if c=1 then 2 else if c=2 then 1 else 0
theorem yE(h:0<=c/\c<=2):c=0\/c=1\/c=2:=aa
theorem a0E(h:¬(0<=c/\c<=2)):jU c=0:=by unfold jU;omega
theorem aHT(h:¬(0<=c/\c<=2)):bD c=0:=by unfold bD;omega
theorem aND(h:¬(0<=c/\c<=2)):dB c=0:=by unfold dB;omega
theorem mW(c:Int):0<=dB c/\dB c<=4:=by grind[dB]
theorem aRQ(c:Int):0<=bD c/\bD c<=44:=by grind[bD]
theorem wM:0<dB c↔0<=c/\c<=2:=by grind[dB]
theorem LK(c:Int):B3 c=some (jU c):=by grind[B3,jU]
theorem jF(c:Int):jX c=some (decide (0<=c/\c<=2)):=by simp[jX,eT]
theorem U3(c:Int):CB c=some (jU c):=by
 unfold CB;rw[jF];by_cases h:0<=c/\c<=2
 ·rcases yE h with rfl|rfl|rfl<;>rfl
 grind[a0E]
theorem aBK(c:Int):zF c=some (bD c):=by
 unfold zF;rw[cW];by_cases h:0<=c/\c<=2
 ·rcases yE h with rfl|rfl|rfl<;>rfl
 grind[aHT]
theorem PR(c:Int):uB c=some (bD c):=by
 unfold uB;rw[jF];by_cases h:0<=c/\c<=2
 ·rcases yE h with rfl|rfl|rfl<;>rfl
 grind[aHT]
theorem iH(c:Int):lK c=some (dB c):=by
 unfold lK;rw[cW];by_cases h:0<=c/\c<=2
 ·rcases yE h with rfl|rfl|rfl<;>rfl
 grind[aND]
theorem A9(c:Int):oG c=some (dB c):=by
 unfold oG;rw[jF];by_cases h:0<=c/\c<=2
 ·rcases yE h with rfl|rfl|rfl<;>rfl
 grind[aND]
theorem U4(s:Int):B4 s=some (if 0<=s/\s<=23 then s/4 else -1):=by grind[B4,cW,dA]
theorem SU(s:Int):xC s=some (if 0<=s/\s<=23 then s % 4 else -1):=by grind[xC,cW]
def iW(s c:Int):Int:=if(0<=s/\s<=23)/\s % 4<dB c then s/4*64+8+s % 4*bD c else -1
theorem RD{i:Int}(h0:0<=i)(h1:i<dB c):0<=i*bD c/\i*bD c+bD c<=56:=by unfold dB at h1;unfold bD;grind
theorem uE(s c:Int):vI s c=some (iW s c):=by
 unfold vI GH iW;rw[U4,SU,iH,aBK];by_cases h:0<=s/\s<=23
 ·have hp:=mW c;have h1:¬s/4<0:=aa
  have h2:bC (dB c-1)=dB c-1:=cN;by_cases h3:s % 4<dB c
  ·have hm:=RD aa h3;have hs:=aRQ c;have h4:0<=s % 4/\s % 4<=dB c-1:=aa
   have h5:¬dB c-1<s % 4:=aa
   have e1:bC (s/4*64)=s/4*64:=cN;have e2:bC (s/4*64+8)=s/4*64+8:=cN;have e3:bC (s % 4*bD c)=s % 4*bD c:=cN;have e4:bC (s/4*64+8+s % 4*bD c)=s/4*64+8+s % 4*bD c:=cN;simp[h,h1,h2,h3,h4,h5,cW,e1,e2,e3,e4]
  grind[cW]
 ·simp[h]
theorem wN(s:Int):rH s=some (decide (0<=s/\s<=23)):=by simp[rH,eT]
theorem z6(s c:Int):vZ s c=some (iW s c):=by
 unfold vZ zO iW;rw[wN,jF,A9,PR];by_cases h:0<=s/\s<=23
 ·have hp:=mW c;rw[E3 h.1,aHS h.1];grind[dB,dA,bD]
 ·simp[h]
def ldF(l:List Int):Int:=l.foldl (λn x=>n*256+x) 0
def qV(l:List Int):Prop:=∀x∈l,0<=x/\x<=255
instance (l:List Int):Decidable (qV l):=by unfold qV;infer_instance
theorem aHU(h:k<l.length):ldF (l.take (k+1))=ldF (l.take k)*256+l[k]:=by grind[ldF,TS]
theorem aLI(h:qV l):∀k,k<=l.length->0<=ldF (l.take k)/\ldF (l.take k)<256 ^ k:=by
 intro k;induction k with
 |zero=>grind[ldF]
 |succ k ih=>
  intro hk;have h1:=ih aa;have h2:=h _ (cZ (show k<l.length by omega));grind[aHU]
theorem a69(h:k<=6):(256:Int) ^ k<=281474976710656:=by have h1:(256:Nat) ^ k<=256 ^ 6:=Nat.pow_le_pow_right aa h;grind
def ld(b:List Int)(at_ w:Nat):Int:=ldF ((b.drop at_).take w)
theorem aUJ{n:Int}(hk:k<=6)(h:0<=n/\n<256 ^ k)(hx:0<=x/\x<=255):bC (bC (n*256)+x)=n*256+x/\bC (bC (256*n)+x)=n*256+x:=by have:=a69 hk;grind[dA]
theorem aRR{b:List Int}{a:Nat}(h:a+w<=b.length):((b.drop a).take w).length=w:=ah
theorem aHV{b:List Int}{a:Nat}(h:k<((b.drop a).take w).length)(h':a+k<b.length):((b.drop a).take w)[k]=b[a+k]:=ae
theorem aNE{b:List Int}(hb:qV b)(a w:Nat):qV ((b.drop a).take w):=λx hx=>hb x (aE9 (List.mem_of_mem_take hx))
theorem wO{b:List Int}(hb:qV b){a:Nat}(hw:w<=7)(h:a+w<=b.length)(hl:b.length<=100000):rE b (a:Int) (w:Int)=some (ld b a w):=by
 unfold rE;have hlen:=aRR h;have hbb:=aNE hb a w;have key:loop (vK b (a:Int) (w:Int)) (0,0)=some (ld b a w):=by
  refine iG (f:=vK b (a:Int) (w:Int)) w (λk=>(ldF (((b.drop a).take w).take k),(k:Int))) _ (λk hk=>?_) ?_
  ·have hb1:=aLI hbb k aa;have hk':k<((b.drop a).take w).length:=aa
   have hx:=hbb _ (cZ hk');have hs:=aUJ aa hb1 hx;rw[aHV hk' aa] at hs;have e1:bC ((a:Int)+k)=((a+k:Nat):Int):=by grind[dA]
   simp only[vK];rw[cH,e1,IL];simp only[aG,hs.1,aHU hk',aHV hk' (show a+k<b.length by omega)];grind[dA]
  grind[vK,ld]
 rw[key];rfl
theorem tN{b:List Int}(hb:qV b){a:Nat}(hw:w<=7)(h:a+w<=b.length)(hl:b.length<=100000):oF b (a:Int) (w:Int)=some (ld b a w):=by
 unfold oF;have hlen:=aRR h;have hbb:=aNE hb a w;have e0:bC ((a:Int)+w)=((a+w:Nat):Int):=by grind[dA]
 have e2:(b.take (a+w)).drop a=(b.drop a).take w:=by rw[List.drop_take];congr 1;omega
 rw[LU];have key:loop (tH b (a:Int) (w:Int)) (0,0)=some (ld b a w):=by
  refine iG (f:=tH b (a:Int) (w:Int)) w (λk=>(ldF (((b.drop a).take w).take k),(k:Int))) _ (λk hk=>?_) ?_
  ·have hb1:=aLI hbb k aa;have hk':k<((b.drop a).take w).length:=aa
   have hx:=hbb _ (cZ hk');have hs:=aUJ aa hb1 hx;simp only[tH,e0,BC,e2];rw[cH,aU hk'];simp only[aG,hs.2,aHU hk'];rw[cN (x:=(k:Int)+1)];rfl
  ·have:((b.drop a).take w).take w=(b.drop a).take w:=aj
   simp only[tH,e0,BC,e2,this,ld];grind
 rw[key];rfl
theorem RE(hl:l.length<=maxLen)(f:Int->Bool):gJ l (λx=>some (f x))=some (l.any f):=by
 unfold gJ vX;have key:∀k:Nat,k<=l.length->loop (iP l (λx=>some (f x))) (k:Int)=some (if(l.drop k).any f then Out.ret ((k+(l.drop k).findIdx f:Nat):Int) else Out.brk ()):=by
  refine aL3 l.length _ λk hk=>?_;by_cases h3:k<l.length
  ·have hd:l.drop k=l[k]::l.drop (k+1):=BW h3;simp only[iP];rw[cH,aU h3,lJ (H0 h3 hl),hd];grind
  grind[iP]
 have t0:loop (iP l (λx=>some (f x))) 0=_:=key 0 aa;rw[t0];simp only[WL];by_cases h:l.any f=true
 ·simp[h,qG]
 grind[qG,CC]
def BOk(b:List Int):Prop:=b.length<=1000/\qV b
instance (b:List Int):Decidable (BOk b):=by unfold BOk;infer_instance
theorem aD8{b:List Int}(hl:b.length<=maxLen):JN b=some (decide (BOk b)):=by
 unfold JN;have key:loop (nK b) 0=some (if ∀x∈b,0<=x/\x<=255 then Out.brk () else Out.ret false):=by
  refine l7 (f:=nK b) b (λk=>(k:Int)) (λx=>0<=x/\x<=255) _ _ (λk h hp=>?_) (λk h hp=>?_) ?_
  ·simp only[nK];rw[cH,aU h,lJ (H0 h hl)];simp[cW,hp]
  ·simp only[nK];rw[cH,aU h];simp only[aG,cW,hp,decide_false,HX,bP]
  ·simp[nK]
 rw[key];by_cases h:∀x∈b,0<=x/\x<=255
 ·rw[aL h];have:BOk b↔b.length<=1000:=⟨λq=>q.1,λq=>⟨q,h⟩⟩;simp only[aG,H8,R5,this];grind
 ·rw[aN h];have:¬BOk b:=λq=>h q.2;grind[H8]
theorem aNF{p:O->Prop}[DecidablePred p](l:List O):(l.any λx=>!decide (p x))=!decide (∀x∈l,p x):=aj
theorem aD9{b:List Int}(hl:b.length<=maxLen):J0 b=some (decide (BOk b)):=by
 unfold J0 AU;have e:(λy0=>D3 y0)=λy:Int=>some (!decide (0<=y/\y<=255)):=by grind[D3,UH,eT]
 rw[e,RE hl,aNF];by_cases h:b.length<=1000
 ·have:BOk b↔∀x∈b,0<=x/\x<=255:=⟨λq=>q.2,λq=>⟨h,q⟩⟩;grind
 grind[BOk]
def eY(h:Heap):Prop:=h.Bytes.length=384/\h.Class.length=6/\qV h.Bytes/\∀c∈h.Class,-1<=c/\c<=2
instance (h:Heap):Decidable (eY h):=by unfold eY;infer_instance
theorem aEA(hl:h.Bytes.length<=maxLen):JO h=some (decide (eY h)):=by
 unfold JO tC;by_cases h1:h.Bytes.length=384
 ·by_cases h2:h.Class.length=6
  ·rw[aD8 hl];have n1:((h.Bytes.length:Int) != 384)=false:=ah
   have n2:((h.Class.length:Int) != 6)=false:=ah
   simp only[n1,n2,bO,bM,aG];by_cases h3:qV h.Bytes
   ·have b1:BOk h.Bytes:=⟨aa,h3⟩;have key:loop (nL h) 0=some (if ∀x∈h.Class,-1<=x/\x<=2 then Out.brk () else Out.ret false):=by
     refine l7 (f:=nL h) h.Class (λk=>(k:Int)) (λx=>-1<=x/\x<=2) _ _ (λk h hp=>?_) (λk h hp=>?_) ?_
     ·simp only[nL];rw[cH,aU h,cN];grind[cW]
     ·simp only[nL];rw[cH,aU h];grind[cW]
     grind[nL]
    rw[key];have:eY h↔∀x∈h.Class,-1<=x/\x<=2:=⟨λq=>q.2.2.2,λq=>⟨h1,h2,h3,q⟩⟩;simp only[b1,decide_true,g8,bO,bM,this];by_cases h4:∀x∈h.Class,-1<=x/\x<=2
    ·rw[aL h4,cD h4];rfl
    ·rw[aN h4,dR h4];rfl
   grind[BOk,eY]
  grind[eY]
 grind[eY]
theorem LL(hl:h.Bytes.length<=maxLen):HI h=some (decide (eY h)):=by
 unfold HI qH;by_cases h1:h.Bytes.length=384
 ·have n1:((h.Bytes.length:Int) == 384)=true:=ah
  rw[aD9 hl];by_cases h3:qV h.Bytes
  ·have b1:BOk h.Bytes:=⟨aa,h3⟩;by_cases h2:h.Class.length=6
   ·have n2:((h.Class.length:Int) == 6)=true:=ah
    have e:(λy0=>GS y0)=λy:Int=>some (!decide (-1<=y/\y<=2)):=by grind[GS,eT]
    rw[e,RE aa,aNF];grind[eY]
   grind[eY]
  grind[BOk,eY]
 grind[eY]
def fL(h:Heap)(p:Nat):List Int:=(h.Bytes.drop (p*64)).take 64
def cB(h:Heap)(p:Nat):Int:=h.Class.getD p 0
def nA(h:Heap)(p:Nat):Prop:=
 if cB h p<0 then ∀x∈fL h p,x=0
 else((fL h p).getD 0 0=171/\(fL h p).getD 1 0=cB h p/\(fL h p).getD 2 0=dB (cB h p))/\(∀x∈((fL h p).drop 3).take 5,x=0)/\∀i,i<(dB (cB h p)).toNat->1<=ld h.Bytes (p*64+8+i*(bD (cB h p)).toNat) 4/\ld h.Bytes (p*64+8+i*(bD (cB h p)).toNat) 4<=7
instance (h:Heap) (p:Nat):Decidable (nA h p):=by unfold nA;infer_instance
section
variable {h:Heap} (hs:eY h) {p:Nat} (hp:p<6)
include hs hp
theorem PT:(fL h p).length=64:=aRR (by have:=hs.1;omega)
theorem U5(hk:k<64):h.Bytes[p*64+k]'(by have:=hs.1;omega)=(fL h p)[k]'(by grind[PT]):=(aHV (show k<((h.Bytes.drop (p*64)).take 64).length by have:=PT hs hp;grind[fL]) _).symm
theorem aLJ(hk:k<64):h.Bytes[p*64+k]'(by have:=hs.1;omega)=(fL h p).getD k 0:=by grind[U5]
theorem VZ:h.Class[p]'(by have:=hs.2.1;omega)=cB h p:=by grind[cB]
theorem aE3:idx h.Class (p:Int)=some (cB h p):=by rw[aU (by have:=hs.2.1;omega),VZ hs hp]
theorem aHW(hk:k<64):idx h.Bytes (((p*64+k:Nat)):Int)=some ((fL h p).getD k 0):=by rw[aU (by have:=hs.1;omega),aLJ hs hp hk]
theorem aVU:qV (fL h p):=aNE hs.2.2.1 _ _
theorem uF(hc:cB h p=c){i:Nat}(hi:i<(dB c).toNat):(8+i*(bD c).toNat)+4<=64/\0<=(i:Int)*bD c/\((8+i*(bD c).toNat:Nat):Int)=8+(i:Int)*bD c:=by grind[dB,bD]
theorem a0F{i:Nat}(hi:i<(dB (cB h p)).toNat):iW ((p:Int)*4+i) (cB h p)=((p*64+(8+i*(bD (cB h p)).toNat):Nat):Int):=by have hz:=uF hs hp rfl hi;have hle:=mW (cB h p);unfold iW;grind
theorem U6:MS h (p:Int)=some (decide (nA h p)):=by
 have hb:=hs.1;have hl:=PT hs hp;have e0:bC ((p:Int)*64)=((p*64+0:Nat):Int):=by grind[dA]
 have e1:bC (((p*64+0:Nat):Int)+1)=((p*64+1:Nat):Int):=by grind[dA]
 have e2:bC (((p*64+0:Nat):Int)+2)=((p*64+2:Nat):Int):=by grind[dA]
 have e3:bC (((p*64+0:Nat):Int)+3)=((p*64+3:Nat):Int):=by grind[dA]
 have e8:bC (((p*64+0:Nat):Int)+8)=((p*64+8:Nat):Int):=by grind[dA]
 have e64:bC (((p*64+0:Nat):Int)+64)=((p*64+64:Nat):Int):=by grind[dA]
 unfold MS;rw[aE3 hs hp];simp only[aG];by_cases hc:cB h p<0
 ·simp only[hc,decide_true,bP,e0];have key:loop (p5 h (p:Int)) (((p*64+0:Nat)):Int)=some (if ∀x∈fL h p,x=0 then Out.brk () else Out.ret false):=by
   refine l7 (f:=p5 h (p:Int)) (fL h p) (λk=>((p*64+k:Nat):Int)) (λx=>x=0) _ _ (λk hk hx=>?_) (λk hk hx=>?_) ?_
   ·simp only[p5,e0,e64];rw[cH,IL,U5 hs hp aa,cN];grind
   ·simp only[p5,e0,e64];rw[cH,IL,U5 hs hp aa];grind
   simp_all[p5]
  rw[key];have hP:nA h p↔∀x∈fL h p,x=0:=by simp_all[nA]
  by_cases h4:∀x∈fL h p,x=0
  ·rw[aL h4,cD (hP.2 h4)];rfl
  ·rw[aN h4,dR (λq=>h4 (hP.1 q))];rfl
 ·have hP:nA h p↔((fL h p).getD 0 0=171/\(fL h p).getD 1 0=cB h p/\(fL h p).getD 2 0=dB (cB h p))/\(∀x∈((fL h p).drop 3).take 5,x=0)/\∀i,i<(dB (cB h p)).toNat->1<=ld h.Bytes (p*64+8+i*(bD (cB h p)).toNat) 4/\ld h.Bytes (p*64+8+i*(bD (cB h p)).toNat) 4<=7:=by simp_all[nA,aN]
  simp only[hc,decide_false,bO,bM,e0,e1,e2,aHW hs hp (show 0<64 by omega),aHW hs hp (show 1<64 by omega),aHW hs hp (show 2<64 by omega),aG,iH];by_cases a0:(fL h p).getD 0 0=171
  ·by_cases a1:(fL h p).getD 1 0=cB h p
   ·by_cases a2:(fL h p).getD 2 0=dB (cB h p)
    ·have n0:((fL h p).getD 0 0 != 171)=false:=aj
     have n1:((fL h p).getD 1 0 != cB h p)=false:=aj
     have n2:((fL h p).getD 2 0 != dB (cB h p))=false:=aj
     simp only[n0,n1,n2,bO,bM,j4,e0,e3];have hl5:(((fL h p).drop 3).take 5).length=5:=by simp[hl]
     have key:loop (qB h (p:Int)) (((p*64+3:Nat)):Int)=some (if ∀x∈((fL h p).drop 3).take 5,x=0 then Out.brk () else Out.ret false):=by
      refine l7 (f:=qB h (p:Int)) (((fL h p).drop 3).take 5) (λk=>((p*64+(3+k):Nat):Int)) (λx=>x=0) _ _ (λk hk hx=>?_) (λk hk hx=>?_) ?_
      ·simp only[qB,e0,e8];rw[cH,IL,U5 hs hp aa,cN,<-aHV hk aa,hx];simp;omega
      ·simp only[qB,e0,e8];rw[cH,IL,U5 hs hp aa,<-aHV hk aa];grind
      simp_all[qB]
     rw[key];by_cases h4:∀x∈((fL h p).drop 3).take 5,x=0
     ·rw[aL h4];simp only[aG,T6,T5];have key2:loop (qA h (p:Int) (cB h p)) 0=some (if ∀i,i<(dB (cB h p)).toNat->1<=ld h.Bytes (p*64+8+i*(bD (cB h p)).toNat) 4/\ld h.Bytes (p*64+8+i*(bD (cB h p)).toNat) 4<=7 then Out.brk () else Out.ret false):=by
       have hle:=mW (cB h p);have hst:∀k:Nat,k<(dB (cB h p)).toNat->qA h (p:Int) (cB h p) (k:Int)=if 1<=ld h.Bytes (p*64+8+k*(bD (cB h p)).toNat) 4/\ld h.Bytes (p*64+8+k*(bD (cB h p)).toNat) 4<=7 then some (.next ((k+1:Nat):Int)) else some (.stop (Out.ret false)):=by
        intro k hk;have hz:=uF hs hp rfl hk;have s1:rD (p:Int) (k:Int)=some ((p:Int)*4+k):=by
         unfold rD vJ;rw[cW,cW];have g1:(0:Int)<=p/\(p:Int)<=5:=aa
         have g2:(0:Int)<=k/\(k:Int)<=3:=aa
         simp only[aG,g1,g2,and_self,decide_true,g8,bO,bM];grind[dA]
        have l1:=wO hs.2.2.1 (a:=p*64+(8+k*(bD (cB h p)).toNat)) (w:=4) aa aa aa;simp only[qA,iH,aG];rw[cH,s1];simp only[aG,uE,a0F hs hp hk];rw[show((4:Nat):Int)=4 from rfl] at l1;rw[l1,TU,cN (x:=(k:Int)+1)];simp only[aG,cW];grind
       refine z5 (f:=qA h (p:Int) (cB h p)) (dB (cB h p)).toNat (λk=>(k:Int)) (λi=>1<=ld h.Bytes (p*64+8+i*(bD (cB h p)).toNat) 4/\ld h.Bytes (p*64+8+i*(bD (cB h p)).toNat) 4<=7) _ _ (λk hk hx=>?_) (λk hk hx=>?_) ?_
       ·grind
       ·rw[hst k hk,aN hx]
       ·simp only[qA,iH,aG];rw[pH]
      rw[key2];by_cases h5:∀i,i<(dB (cB h p)).toNat->1<=ld h.Bytes (p*64+8+i*(bD (cB h p)).toNat) 4/\ld h.Bytes (p*64+8+i*(bD (cB h p)).toNat) 4<=7
      ·rw[aL h5,cD (hP.2 ⟨⟨a0,a1,a2⟩,h4,h5⟩)];rfl
      ·rw[aN h5,dR (λq=>h5 (hP.1 q).2.2)];rfl
     ·rw[aN h4,dR (λq=>h4 (hP.1 q).2.1)];rfl
    simp_all[j4]
   simp_all[j4]
  simp_all[j4]
end
theorem U7(hl:l.length<=maxLen):HJ l=some (decide (∀x∈l,x=0)):=by
 unfold HJ;have e:(λy0=>GU y0)=λy:Int=>some (!decide (y=0)):=by grind[GU]
 simp_all[RE,aNF]
section
variable {h:Heap} (hs:eY h) {p:Nat} (hp:p<6)
include hs hp
theorem a49:(h.Bytes.take ((p+1)*64)).drop (p*64)=fL h p:=by grind[fL,List.drop_take]
theorem a3U{a:Nat}(ha:a+4<=64):ld (fL h p) a 4=ld h.Bytes (p*64+a) 4:=by grind[ld,fL,List.drop_take,List.drop_drop]
theorem aRS(hk:k<64):idx (fL h p) (k:Int)=some ((fL h p).getD k 0):=by grind[PT,aU]
theorem U8:M7 h (p:Int)=some (decide (nA h p)):=by
 have hb:=hs.1;have hl:=PT hs hp;have hm:(fL h p).length<=maxLen:=by grind[maxLen]
 have e0:bC ((p:Int)*64)=((p*64:Nat):Int):=by grind[dA]
 have e1:bC (bC ((p:Int)+1)*64)=(((p+1)*64:Nat):Int):=by grind[dA]
 have i0:=aRS hs hp (show 0<64 by omega);have i1:=aRS hs hp (show 1<64 by omega);have i2:=aRS hs hp (show 2<64 by omega);rw[show((0:Nat):Int)=0 from rfl] at i0;rw[show((1:Nat):Int)=1 from rfl] at i1;rw[show((2:Nat):Int)=2 from rfl] at i2;unfold M7;rw[aE3 hs hp];simp only[aG,e0,e1,BC,a49 hs hp];rw[LU];by_cases hc:cB h p<0
 ·simp_all[nA,U7]
 ·have hP:nA h p↔((fL h p).getD 0 0=171/\(fL h p).getD 1 0=cB h p/\(fL h p).getD 2 0=dB (cB h p))/\(∀x∈((fL h p).drop 3).take 5,x=0)/\∀i,i<(dB (cB h p)).toNat->1<=ld h.Bytes (p*64+8+i*(bD (cB h p)).toNat) 4/\ld h.Bytes (p*64+8+i*(bD (cB h p)).toNat) 4<=7:=by simp_all[nA,aN]
  simp only[hc,decide_false,bO,bM,i0,i1,i2,aG,A9];by_cases a0:(fL h p).getD 0 0=171
  ·by_cases a1:(fL h p).getD 1 0=cB h p
   ·by_cases a2:(fL h p).getD 2 0=dB (cB h p)
    ·have n0:((fL h p).getD 0 0 != 171)=false:=aj
     have n1:((fL h p).getD 1 0 != cB h p)=false:=aj
     have n2:((fL h p).getD 2 0 != dB (cB h p))=false:=aj
     have t8:((fL h p).take (8:Int).toNat).drop (3:Int).toNat=((fL h p).drop 3).take 5:=by grind[List.drop_take]
     simp only[n0,n1,n2,bO,bM,i5,t8];rw[LU,U7 aj];by_cases h4:∀x∈((fL h p).drop 3).take 5,x=0
     ·simp only[cD h4,aG,g8,bO,bM,A9];have key2:loop (qI h (p:Int) (cB h p) (dB (cB h p))) 0=some (if ∀i,i<(dB (cB h p)).toNat->1<=ld h.Bytes (p*64+8+i*(bD (cB h p)).toNat) 4/\ld h.Bytes (p*64+8+i*(bD (cB h p)).toNat) 4<=7 then Out.brk () else Out.ret false):=by
       have hle:=mW (cB h p);have hst:∀k:Nat,k<(dB (cB h p)).toNat->qI h (p:Int) (cB h p) (dB (cB h p)) (k:Int)=if 1<=ld h.Bytes (p*64+8+k*(bD (cB h p)).toNat) 4/\ld h.Bytes (p*64+8+k*(bD (cB h p)).toNat) 4<=7 then some (.next ((k+1:Nat):Int)) else some (.stop (Out.ret false)):=by
        intro k hk;have hz:=uF hs hp rfl hk;have e5:bC (8+bC ((k:Int)*bD (cB h p)))=((8+k*(bD (cB h p)).toNat:Nat):Int):=by grind[dA]
        have l1:=tN (aVU hs hp) (a:=8+k*(bD (cB h p)).toNat) (w:=4) aa aa aa;rw[show((4:Nat):Int)=4 from rfl,a3U hs hp aa] at l1;simp only[qI,PR,aG,e0,e1,BC,a49 hs hp,e5];rw[cH,l1,TU,cN (x:=(k:Int)+1)];simp only[aG,eT];grind
       refine z5 (f:=qI h (p:Int) (cB h p) (dB (cB h p))) (dB (cB h p)).toNat (λk=>(k:Int)) (λi=>1<=ld h.Bytes (p*64+8+i*(bD (cB h p)).toNat) 4/\ld h.Bytes (p*64+8+i*(bD (cB h p)).toNat) 4<=7) _ _ (λk hk hx=>?_) (λk hk hx=>?_) ?_
       ·grind
       ·simp_all
       ·simp only[qI];rw[pH]
      rw[key2];by_cases h5:∀i,i<(dB (cB h p)).toNat->1<=ld h.Bytes (p*64+8+i*(bD (cB h p)).toNat) 4/\ld h.Bytes (p*64+8+i*(bD (cB h p)).toNat) 4<=7
      ·rw[aL h5,cD (hP.2 ⟨⟨a0,a1,a2⟩,h4,h5⟩)];rfl
      ·rw[aN h5,dR (λq=>h5 (hP.1 q).2.2)];rfl
     grind
    ·have n0:((fL h p).getD 0 0 != 171)=false:=aj
     have n1:((fL h p).getD 1 0 != cB h p)=false:=aj
     have n2:((fL h p).getD 2 0 != dB (cB h p))=true:=aj
     simp_all[i5]
   simp_all[i5]
  simp_all[i5]
end
instance (h:Heap):Decidable (∀p,p<6->nA h p):=Nat.decidableBallLT 6 λp _=>nA h p
def XC(h:Heap):Prop:=eY h/\∀p,p<6->nA h p
instance (h:Heap):Decidable (XC h):=by unfold XC;infer_instance
theorem aHX(hl:h.Bytes.length<=maxLen):MT h=some (decide (XC h)):=by
 unfold MT;rw[aEA hl];by_cases hs:eY h
 ·have key:loop (vS h) 0=some (if ∀p,p<6->nA h p then Out.brk () else Out.ret false):=by
   refine z5 (f:=vS h) 6 (λk=>(k:Int)) (λp=>nA h p) _ _ (λk hk hx=>?_) (λk hk hx=>?_) ?_
   ·simp only[vS];rw[cH,U6 hs hk,cN,cD hx];rfl
   ·simp only[vS];rw[cH,U6 hs hk,dR hx];rfl
   ·rfl
  simp only[aG,cD hs,g8,bO,bM];rw[key];by_cases h4:∀p,p<6->nA h p
  ·rw[aL h4,cD (show XC h from⟨hs,h4⟩)];rfl
  ·rw[aN h4,dR (λq:XC h=>h4 q.2)];rfl
 grind[XC]
theorem LM(hl:h.Bytes.length<=maxLen):HK h=some (decide (XC h)):=by
 unfold HK;rw[LL hl];by_cases hs:eY h
 ·have key:loop (vY h) 0=some (if ∀p,p<6->nA h p then Out.brk () else Out.ret false):=by
   refine z5 (f:=vY h) 6 (λk=>(k:Int)) (λp=>nA h p) _ _ (λk hk hx=>?_) (λk hk hx=>?_) ?_
   ·simp only[vY];rw[cH,U8 hs hk,cN,cD hx];rfl
   ·simp only[vY];rw[cH,U8 hs hk,dR hx];rfl
   ·rfl
  simp only[aG,cD hs,g8,bO,bM];rw[key];by_cases h4:∀p,p<6->nA h p
  ·rw[aL h4,cD (show XC h from⟨hs,h4⟩)];rfl
  ·rw[aN h4,dR (λq:XC h=>h4 q.2)];rfl
 grind[XC]
def bW(h:Heap)(s:Int):Int:=if(0<=s/\s<=23)/\s % 4<dB (cB h (s/4).toNat) then cB h (s/4).toNat else -1
theorem NI(hc:0<=bW h s):(0<=s/\s<=23)/\s % 4<dB (cB h (s/4).toNat)/\bW h s=cB h (s/4).toNat:=by unfold bW at hc ⊢;omega
theorem kX(hs:eY h)(s:Int):lL h s=some (bW h s):=by
 unfold lL sN bW;rw[U4,SU];by_cases h1:0<=s/\s<=23
 ·obtain⟨k,rfl⟩:=a1T h1.1;have hk:k/4<6:=aa
  have e1:((k:Int)/4)=((k/4:Nat):Int):=aa
  have hi:=aE3 hs hk;have n1:¬((k/4:Nat):Int)<0:=aa
  simp only[h1,and_self,bP,aG,e1,n1,decide_false,bO,bM,hi,BC,true_and];grind[aND,iH]
 ·simp[h1]
theorem jG(hs:eY h)(s:Int):jY h s=some (bW h s):=by
 unfold jY AV bW;rw[wN];by_cases h1:0<=s/\s<=23
 ·obtain⟨k,rfl⟩:=a1T h1.1;have hk:k/4<6:=aa
  have e1:((k:Int)/4)=((k/4:Nat):Int):=aa
  have hi:=aE3 hs hk;have e2:bC (Int.tdiv (k:Int) 4)=((k/4:Nat):Int):=by grind[dA]
  simp only[h1,and_self,decide_true,g8,bO,bP,aG,e1,e2,bM,hi,BC,true_and,z6];by_cases h3:(k:Int) % 4<dB (cB h (k/4))
  ·have hm:=RD (c:=cB h (k/4)) aa h3;have hg:¬iW (k:Int) (cB h (k/4))<0:=by unfold iW;omega
   grind
  simp_all[iW,aN]
 ·simp[h1]
def l8(h:Heap)(s:Int):Int:=ld h.Bytes (iW s (bW h s)).toNat 4
theorem V1(hc:0<=bW h s):0<=iW s (bW h s)/\iW s (bW h s)+4<=384:=by
 obtain⟨h1,h2,h3⟩:=NI hc;rw[h3];have hm:=RD (c:=cB h (s/4).toNat) aa h2;have hst:0<bD (cB h (s/4).toNat):=by have:0<=cB h (s/4).toNat/\cB h (s/4).toNat<=2:=wM.1 aa;rcases yE this with e|e|e<;>rw[e]<;>decide
 have:4<=bD (cB h (s/4).toNat):=by have:0<=cB h (s/4).toNat/\cB h (s/4).toNat<=2:=wM.1 aa;rcases yE this with e|e|e<;>rw[e]<;>decide
 unfold iW;omega
theorem pC(hs:eY h)(hc:0<=bW h s):vL h s=some (l8 h s):=by have hg:=V1 hc;unfold vL;rw[kX hs];simp only[aG,uE];have l1:=wO hs.2.2.1 (a:=(iW s (bW h s)).toNat) (w:=4) aa (by have:=hs.1;omega) (by have:=hs.1;omega);rw[show((4:Nat):Int)=4 from rfl,Int.toNat_of_nonneg hg.1] at l1;rw[l1];rfl
theorem G5(hs:eY h)(hc:0<=bW h s):BG h s=some (l8 h s):=by
 have hg:=V1 hc;have hm:h.Bytes.length<=maxLen:=by rw[hs.1];simp[maxLen]
 unfold BG D5;rw[LL hm,jG hs];have l1:=tN hs.2.2.1 (a:=(iW s (bW h s)).toNat) (w:=4) aa (by have:=hs.1;omega) (by have:=hs.1;omega);grind[z6,l8]
def eZ(l:List aW):List Int:=l.flatMap aW.aR
def fS(l:aD):List Int:=eZ l.Global++eZ l.Own
def LOk(l:aD):Prop:=l.Global.length=3/\l.Own.length=9/\(∀s∈l.Own,s.aR.length<=2)/\(∀x∈fS l,0<=x/\x<=23)/\(fS l).Nodup
instance (l:aD):Decidable (LOk l):=by unfold LOk;infer_instance
theorem PU{l:List aW}(h:k<l.length):eZ (l.take (k+1))=eZ (l.take k)++l[k].aR:=by grind[eZ,TS]
theorem aNG(l:List aW)(k:Nat):(eZ (l.take k)).length<=(eZ l).length:=by grind[eZ,aB1]
theorem aHY(l:List aW)(h:k<l.length):l[k].aR.length<=(eZ l).length:=by have h1:=aNG l (k+1);grind[PU]
theorem XD{l:aD}(h:(fS l).length<=1073741824)(hg:l.Global.length<=maxLen)(ho:l.Own.length<=maxLen):KO l=some (fS l):=by
 have hsum:(eZ l.Global).length+(eZ l.Own).length<=1073741824:=by grind[fS]
 unfold KO;have k1:loop (zH l) ([],0)=some (eZ l.Global):=by
  refine iG (f:=zH l) l.Global.length (λk=>(eZ (l.Global.take k),(k:Int))) _ (λk hk=>?_) ?_
  ·have h1:=aNG l.Global (k+1);rw[PU hk] at h1;simp only[zH];rw[cH,aU hk];grind[bZ,PU,lJ]
  grind[zH]
 rw[k1];simp only[aG,WV,WU];have k2:loop (zG l) (eZ l.Global,0)=some (fS l):=by
  have:=iG (f:=zG l) l.Own.length (λk=>(eZ l.Global++eZ (l.Own.take k),(k:Int))) (fS l) (λk hk=>?_) ?_
  ·grind[eZ]
  ·have h1:=aNG l.Own (k+1);rw[PU hk] at h1;simp only[zG];rw[cH,aU hk];grind[bZ,PU,lJ]
  grind[zG,fS]
 rw[k2];rfl
theorem OF(hl:l.length<=maxLen)(x:Int):FL l x=some (decide (x∈l)):=by
 unfold FL;have key:loop (tU l x) 0=some (if ∀y∈l,y≠x then Out.brk () else Out.ret true):=by
  refine l7 (f:=tU l x) l (λk=>(k:Int)) (λy=>y≠x) _ _ (λk h hp=>?_) (λk h hp=>?_) ?_
  ·simp only[tU];rw[cH,aU h,lJ (H0 h hl)];have:(l[k] == x)=false:=by simpa using hp
   simp only[aG,this,bO,bM]
  ·simp only[tU];rw[cH,aU h];have:(l[k] == x)=true:=by simpa using hp
   simp only[aG,this,bP]
  ·simp[tU]
 rw[key];by_cases h:x∈l
 ·rw[aN (λq=>q x h rfl),cD h];rfl
 ·rw[aL (λy hy (e:y=x)=>h (e ▸ hy)),dR h];rfl
theorem aHZ(l:List Int):l.Nodup↔∀k (h:k<l.length),l[k]∉l.take k:=by grind[List.pairwise_iff_getElem,List.mem_take_iff_getElem]
theorem aEB{l:aD}(h:(fS l).length<=1073741824):JQ l=some (decide (LOk l)):=by
 unfold JQ AK;by_cases hg:l.Global.length=3
 ·by_cases ho:l.Own.length=9
  ·have n1:((l.Global.length:Int) != 3)=false:=ah
   have n2:((l.Own.length:Int) != 9)=false:=ah
   simp only[n1,n2,bO,bM];have k1:loop (nN l) 0=some (if ∀s∈l.Own,s.aR.length<=2 then Out.brk () else Out.ret false):=by
    refine l7 (f:=nN l) l.Own (λk=>(k:Int)) (λs=>s.aR.length<=2) _ _ (λk hk hp=>?_) (λk hk hp=>?_) ?_
    ·simp only[nN];rw[cH,aU hk,cN];simp only[aG];rw[pH];rfl
    ·simp only[nN];rw[cH,aU hk];simp only[aG];rw[cH]
    ·simp[nN]
   rw[k1];by_cases h2:∀s∈l.Own,s.aR.length<=2
   ·rw[aL h2];simp only[aG,R7,R6];rw[XD h (by rw[hg];simp[maxLen]) (by rw[ho];simp[maxLen])];simp only[aG];have k2:loop (nM (fS l)) 0=some (if ∀k,k<(fS l).length->(0<=(fS l).getD k 0/\(fS l).getD k 0<=23)/\(fS l).getD k 0∉(fS l).take k then Out.brk () else Out.ret false):=by
     have hst:∀k,k<(fS l).length->nM (fS l) (k:Int)=if(0<=(fS l).getD k 0/\(fS l).getD k 0<=23)/\(fS l).getD k 0∉(fS l).take k then some (.next ((k+1:Nat):Int)) else some (.stop (Out.ret false)):=by
      intro k hk;have e:(fS l).getD k 0=(fS l)[k]:=by rw[RP,kG hk];rfl
      rw[e];simp only[nM];rw[cH,aU hk];simp only[aG,cW,AJ];by_cases q:0<=(fS l)[k]/\(fS l)[k]<=23
      ·rw[cD q];simp only[g8,bO,bM,BC,WL];rw[LU,OF (by simp[maxLen];omega),cN];by_cases q2:(fS l)[k]∈(fS l).take k
       ·rw[aN (λx=>x.2 q2),cD q2];rfl
       ·rw[aL ⟨q,q2⟩,dR q2];rfl
      ·rw[dR q];simp only[HX,bP];rw[aN (λx=>q x.1)]
     refine z5 (f:=nM (fS l)) (fS l).length (λk=>(k:Int)) (λk=>(0<=(fS l).getD k 0/\(fS l).getD k 0<=23)/\(fS l).getD k 0∉(fS l).take k) _ _ (λk hk hx=>?_) (λk hk hx=>?_) ?_
     ·rw[hst k hk,aL hx]
     ·rw[hst k hk,aN hx]
     ·simp[nM]
    rw[k2];have hiff:LOk l↔∀k,k<(fS l).length->(0<=(fS l).getD k 0/\(fS l).getD k 0<=23)/\(fS l).getD k 0∉(fS l).take k:=by
     have e:∀k (hk:k<(fS l).length),(fS l).getD k 0=(fS l)[k]:=λk hk=>aj
     constructor
     ·rintro⟨_,_,_,q1,q2⟩ k hk;rw[e k hk];exact⟨q1 _ (cZ hk),(aHZ _).1 q2 k hk⟩
     ·intro q;refine⟨hg,ho,h2,λx hx=>?_,(aHZ _).2 λk hk=>?_⟩
      ·obtain⟨k,hk,rfl⟩:=YC.1 hx;have:=(q k hk).1;rw[e k hk] at this;exact this
      ·have:=(q k hk).2;rw[e k hk] at this;exact this
    by_cases q:LOk l
    ·rw[aL (hiff.1 q),cD q];rfl
    ·rw[aN (λx=>q (hiff.2 x)),dR q];rfl
   ·rw[aN h2,dR (λq:LOk l=>h2 q.2.2.1)];rfl
  ·have n1:((l.Global.length:Int) != 3)=false:=ah
   have n2:((l.Own.length:Int) != 9)=true:=ah
   simp_all[LOk]
 ·have n1:((l.Global.length:Int) != 3)=true:=ah
  simp_all[LOk]
def z7:List Bool->List Int->Option (List Bool)
 |met,[]=>some met
 |met,x::r=>if(0<=x/\x<=23)/\met.getD x.toNat true=false then z7 (met.set x.toNat true) r else none
theorem aLK:∀{xs:List Int} {met m:List Bool},z7 met xs=some m->m.length=met.length
 |[],met,m,h=>by grind[z7]
 |x::r,met,m,h=>by
  simp only[z7] at h;split at h
  ·have:=aLK h;grind
  ·cases h
theorem Z1:∀(a b:List Int) (met:List Bool),z7 met (a++b)=(z7 met a).bind λm=>z7 m b
 |[],b,met=>rfl
 |x::r,b,met=>by
  simp only[WK,z7];split
  ·exact Z1 r b _
  ·rfl
theorem X4:∀(xs:List Int) (met:List Bool),met.length=24->((z7 met xs).isSome=true↔(∀x∈xs,0<=x/\x<=23)/\xs.Nodup/\∀x∈xs,met.getD x.toNat true=false)
 |[],met,hm=>by simp[z7]
 |x::r,met,hm=>by
  simp only[z7];by_cases h:(0<=x/\x<=23)/\met.getD x.toNat true=false
  ·rw[aL h,X4 r _ aj];grind
  grind
def aNH:Option (List Bool)->Out (List Bool) Bool
 |some m=>.brk m
 |none=>.ret false
theorem a9D{s:aW}(hl:s.aR.length<=maxLen):∀d k (met:List Bool),k+d=s.aR.length->met.length=24->loop (tF s) ((k:Int),met)=some (aNH (z7 met (s.aR.drop k))):=by
 intro d;induction d with
 |zero=>
  intro k met hk hm;rw[bH (r:=Out.brk met) (by grind[tF]),List.drop_eq_nil_of_le aa];rfl
 |succ d ih=>
  intro k met hk hm;have hk':k<s.aR.length:=aa
  have hd:s.aR.drop k=s.aR[k]::s.aR.drop (k+1):=BW hk';have hst:tF s ((k:Int),met)=if(0<=s.aR[k]/\s.aR[k]<=23)/\met.getD s.aR[k].toNat true=false then some (.next (((k+1:Nat):Int),met.set s.aR[k].toNat true)) else some (.stop (Out.ret false)):=by
   simp only[tF];rw[cH,aU hk'];simp only[aG,wN];generalize s.aR[k]=x;by_cases q:0<=x/\x<=23
   ·obtain⟨j,rfl⟩:=a1T q.1;have hj:j<met.length:=aa
    have e:met.getD j true=met[j]:=aj
    simp only[q,and_self,decide_true,g8,bO,bM,tE,BC,true_and,e];rw[LU,aU hj];simp only[aG];cases met[j]
    ·simp only[bO,bM,bP];grind[bZ,lJ]
    ·simp
   ·rw[dR q];simp only[HX,bP,tE];grind
  rw[hd,z7];by_cases q:(0<=s.aR[k]/\s.aR[k]<=23)/\met.getD s.aR[k].toNat true=false
  ·rw[aL q] at hst ⊢;grind[bK]
  ·rw[aN q] at hst ⊢;rw[bH hst];rfl
def aCE(l:List aW):Prop:=∀s∈l,s.aR.length<=2
instance (l:List aW):Decidable (aCE l):=by unfold aCE;infer_instance
theorem a9E{l:aD}(ho:l.Own.length=9)(hn:(l.Own++l.Global).length<=1000)(hs:∀s∈l.Own++l.Global,s.aR.length<=maxLen):∀d k (met:List Bool),k+d=(l.Own++l.Global).length->met.length=24 ->
  loop (tG l) ((k:Int),met)=some (if aCE (((l.Own++l.Global).drop k).take (9-k))/\(z7 met (eZ ((l.Own++l.Global).drop k))).isSome=true then Out.brk () else Out.ret false):=by
 intro d;induction d with
 |zero=>
  intro k met hk hm;rw[List.drop_eq_nil_of_le aa,aL ⟨by simp[aCE],rfl⟩];simp_all[bH,tG]
 |succ d ih=>
  intro k met hk hm;have hk':k<(l.Own++l.Global).length:=aa
  have hd:(l.Own++l.Global).drop k=(l.Own++l.Global)[k]::(l.Own++l.Global).drop (k+1):=BW hk';have hsk:=hs _ (cZ hk');have hf:eZ ((l.Own++l.Global).drop k)=(l.Own++l.Global)[k].aR++eZ ((l.Own++l.Global).drop (k+1)):=by grind[eZ]
  have hin:∀b:Bool,nO (k:Int) met (l.Own++l.Global)[k] b=if b then some (.stop (Out.ret false)) else(match z7 met (l.Own++l.Global)[k].aR with|some m=>some (.next (((k+1:Nat):Int),m))|none=>some (.stop (Out.ret false))):=by
   intro b;have h4:=a9D hsk _ 0 met (WN _) hm;rw[show((0:Nat):Int)=0 from rfl,WL] at h4;unfold nO;rw[h4];cases b
   ·simp only[bO,bM,aG];cases z7 met (l.Own++l.Global)[k].aR with
    |none=>rfl
    |some m=>simp only[aNH,SB,SA];rw[cN];rfl
   ·rfl
  have hst:tG l ((k:Int),met)=nO (k:Int) met (l.Own++l.Global)[k] (decide (k<9/\2<(l.Own++l.Global)[k].aR.length)):=by
   simp only[tG];rw[aL aj,aU hk'];simp only[aG];by_cases h9:k<9
   ·rw[cH];congr 1
    (simp_all;omega)
   grind
  rw[hin] at hst;by_cases h2:k<9/\2<(l.Own++l.Global)[k].aR.length
  ·rw[cD h2] at hst;simp only[bP] at hst;rw[bH hst,aN];rintro⟨q,_⟩;have e:9-k=(9-(k+1))+1:=aa
   rw[hd,e,List.take_succ_cons] at q;have:=q _ List.mem_cons_self;omega
  ·rw[dR h2] at hst;simp only[bO,bM] at hst;have hcond:aCE (((l.Own++l.Global).drop k).take (9-k))↔aCE (((l.Own++l.Global).drop (k+1)).take (9-(k+1))):=by
    unfold aCE;by_cases h9:k<9
    ·have e:9-k=(9-(k+1))+1:=aa
     simp_all
    ·have e:9-k=0:=aa
     have e':9-(k+1)=0:=aa
     simp_all
   rw[hf,Z1];cases hg:z7 met (l.Own++l.Global)[k].aR with
   |none=>
    simp_all[bH]
   |some m=>
    rw[hg] at hst;rw[bK hst,ih (k+1) m aa (by grind[aLK])];simp_all
theorem SW{l:aD}(h:(fS l).length<=1073741824):oE l=some (decide (LOk l)):=by
 unfold oE AR;by_cases hg:l.Global.length=3
 ·by_cases ho:l.Own.length=9
  ·have n1:((l.Global.length:Int) != 3)=false:=ah
   have n2:((l.Own.length:Int) != 9)=false:=ah
   simp only[n1,n2,bO,bM];rw[LU];have hsl:∀s∈l.Own++l.Global,s.aR.length<=maxLen:=by grind[fS,maxLen,YC,aHY]
   have key:=a9E ho ah hsl (l.Own++l.Global).length 0 (List.replicate 24 false) aa rfl;rw[show((0:Nat):Int)=0 from rfl,WL,Nat.sub_zero] at key;rw[key];have et:(l.Own++l.Global).take 9=l.Own:=aj
   have ef:eZ (l.Own++l.Global)=eZ l.Own++eZ l.Global:=by simp[eZ]
   have hm0:∀j:Nat,j<24->(List.replicate 24 false).getD j true=false:=ai
   have hiff:LOk l↔aCE ((l.Own++l.Global).take 9)/\(z7 (List.replicate 24 false) (eZ (l.Own++l.Global))).isSome=true:=by
    rw[X4 _ _ rfl,et,ef];have hp:(eZ l.Own++eZ l.Global).Perm (fS l):=List.perm_append_comm;constructor
    ·rintro⟨_,_,q1,q2,q3⟩;exact⟨q1,λx hx=>q2 x (hp.mem_iff.1 hx),hp.nodup_iff.2 q3,λx hx=>hm0 _ aj⟩
    ·rintro⟨q1,q2,q3,_⟩;exact⟨hg,ho,q1,λx hx=>q2 x (hp.mem_iff.2 hx),hp.nodup_iff.1 q3⟩
   by_cases q:LOk l
   ·rw[aL (hiff.1 q),cD q];rfl
   ·rw[aN (λx=>q (hiff.2 x)),dR q];rfl
  ·have n1:((l.Global.length:Int) != 3)=false:=ah
   have n2:((l.Own.length:Int) != 9)=true:=ah
   simp_all[LOk]
 ·have n1:((l.Global.length:Int) != 3)=true:=ah
  simp_all[LOk]
end Go.Gv
end
