import Derived.Test.YtejjbceagmbdhaaGreatXUE
set_option linter.unusedVariables false
set_option linter.unusedSimpArgs false
set_option linter.unusedSectionVars false
set_option linter.constructorNameAsVariable false
set_option linter.unnecessarySimpa false
noncomputable section
set_option maxHeartbeats 4000000
set_option maxRecDepth 100000
namespace Go.Proofs.YtejjbceagmbdhaaGreat
open Go.Gv Tryz
noncomputable section
variable {κ:Ctx}
theorem VB{s:Sub}{b:aB}{w_:Int}{s1 s2 s3 s4 s5 s6 s7:AC}{b0 b1:Nat×Nat}:VS prog κ 147 (vQ s b w_) [.p 0 0,.p 1 0,I w_] [b0,b1] ([.box 0 [I s.Kind,I s.A,I s.Pc,I s.E,I s.Row,I s.B,I s.H,I s.Out,I s.Code,.b s.dJ],.box 1 (gB b s1 s2 s3 s4 s5 s6 s7)]++(oBs b s1 s2 s3 s4 s5 s6 s7 [])) (fun(r:Sub×aB) (y:AC)=>.t []) (fun(r:Sub×aB) (y:AC)=>([.box 0 [I r.1.Kind,I r.1.A,I r.1.Pc,I r.1.E,I r.1.Row,I r.1.B,I r.1.H,I r.1.Out,I r.1.Code,.b r.1.dJ],.box 1 (gB r.2 s1 s2 s3 s4 y s6 s7)]++(oBs r.2 s1 s2 s3 s4 y s6 s7 []))):=
 cT tok call147 func147 results147 Q Q<|bM [14,15] Q Q (DF s5 [0,1,2,3,4,5,6,7,8] Q Q)<|bM [27,28] Q Q (eI 0 3 (fun(p:Bool×Int×(List sC))=>wV s b p.1 p.2.1 p.2.2) [0,1] (fun(p:Bool×Int×(List sC)) (s8:AC)=>[(6,.p 2 0),(7,.b p.1)]) [0,2,3,4,5,6,7,8,1] (fun p s8=>[ow s8 (p.2.2:List sC),.box 2 [I p.2.1,.h s8 p.2.2.length]]) Q (iO aC [0,1] Q<|fun hF=>bd hF fun x5 hA1 hF=>dD Q Q (have hq1:=rb hA1;wi hq1<|c1 Q (fun h=>WZ (h.o 6 Q)) fun u1 s10=>fun hq1=>match u1,hq1 with | _,rfl=>wi hF<|vB (p:=(x5.2,x5.1.aM,x5.1.cV)) s10 [9,10,0,2,3,4,5,6,7,8,1] Q Q) (have hq2:=rb hA1;wi hq2<|c1 Q (fun h=>WZ (h.o 6 Q)) fun u2 s11=>fun hq2=>match u2,hq2 with | _,rfl=>wi hF<|vB (p:=(x5.2,x5.1.aM,x5.1.cV)) s11 [10,9,0,2,3,4,5,6,7,8,1] Q Q)) fun⟨x1,x2,x3⟩ s8=>bM [43] Q Q (eB 2 0 0 10 [] Q Q Q Q Q (fun _=>cR) fun x4 _=>lS s5 [2,10,3,4,5,6,7,8,9] Q Q)<|DF s8 [2,10,3,4,5,6,0,8,9] Q Q)<|bM [53,54] Q Q (iO aC [0,1] Q<|bM [64] Q Q (eB 0 0 0 10 [] Q Q Q Q Q (fun _=>cR) fun x6 _=>DF s5 [0,1,2,3,4,5,6,7,8] Q Q)<|DF s5 [0,1,2,3,4,5,6,7,8] Q Q)<|eB 0 0 0 10 [] Q Q Q Q Q (fun _=>cR) fun x7 _=>DF s5 [0,1,2,3,4,5,6,7,8] Q Q
theorem GN{s:Sub}{b:aB}{w_:Int}{s1 s2 s3 s4 s5 s6 s7:AC}{b0 b1:Nat×Nat}:VS prog κ 99 (oA s b w_) [.p 0 0,.p 1 0,I w_] [b0,b1] ([.box 0 [I s.Kind,I s.A,I s.Pc,I s.E,I s.Row,I s.B,I s.H,I s.Out,I s.Code,.b s.dJ],.box 1 (gB b s1 s2 s3 s4 s5 s6 s7)]++(oBs b s1 s2 s3 s4 s5 s6 s7 [])) (fun(r:Sub×aB) (y:A6C)=>.t []) (fun(r:Sub×aB) (y:A6C)=>([.box 0 [I r.1.Kind,I r.1.A,I r.1.Pc,I r.1.E,I r.1.Row,I r.1.B,I r.1.H,I r.1.Out,I r.1.Code,.b r.1.dJ],.box 1 (gB r.2 y.1 y.2.1 y.2.2.1 y.2.2.2.1 y.2.2.2.2.1 y.2.2.2.2.2 s7)]++(oBs r.2 y.1 y.2.1 y.2.2.1 y.2.2.2.1 y.2.2.2.2.1 y.2.2.2.2.2 s7 []))):=
 cT tok call99 func99 results99 Q Q<|bM [9] Q Q (lS (s1,s2,s3,s4,s5,s6) [0,1,2,3,4,5,6,7,8] Q Q)<|bM [16,17] Q Q (aJB 0 0 0 10 1 1 0 8 [2,3,4,5,6,7,8] Q Q Q Q Q (fun _=>RV) fun x1 s8=>DF (s8.1,s8.2.1,s8.2.2.1,s8.2.2.2,s5,s6) [0,1,9,10,11,12,13,14,15] Q Q)<|bM [22,23] Q Q (aJB 0 0 0 10 1 1 0 8 [2,3,4,5,6,7,8] Q Q Q Q Q (fun _=>QP) fun x2 s9=>DF (s1,s2,s3,s4,s5,s9) [0,1,9,10,11,12,13,14,15] Q Q)<|bM [28,29] Q Q (aJB 0 0 0 10 1 1 0 8 [2,3,4,5,6,7,8] Q Q Q Q Q (fun _=>OY) fun x3 s10=>DF (s1,s2,s3,s4,s10,s6) [0,1,9,10,11,12,13,14,15] Q Q)<|bM [33,34] Q Q (aJB 0 0 0 10 1 1 0 8 [2,3,4,5,6,7,8] Q Q Q Q Q (fun _=>OZ) fun x4 s11=>DF (s11.1,s11.2.1,s11.2.2.1,s11.2.2.2.1,s5,s11.2.2.2.2) [0,1,9,10,11,12,13,14,15] Q Q)<|bM [39,40] Q Q (aJB 0 0 0 10 1 1 0 8 [2,3,4,5,6,7,8] Q Q Q Q Q (fun _=>VB) fun x5 s12=>DF (s1,s2,s3,s4,s12,s6) [0,1,9,10,11,12,13,14,15] Q Q)<|eB 0 0 0 10 [] Q Q Q Q Q (fun _=>cR) fun x6 _=>DF (s1,s2,s3,s4,s5,s6) [0,1,2,3,4,5,6,7,8] Q Q
theorem RY{t:Table}{w_:Int}{s1 s2 s3 s4 s5 s6 s7 s8 s9 s10 s11:AC}{b0:Nat×Nat}:VS prog κ 48 (qM t w_) [.p 0 0,I w_] [b0] ([.box 0 (QA t s1 s2 s3 s4 s5 s6 s7 s8 s9 s10 s11)]++(QX t s1 s2 s3 s4 s5 s6 s7 s8 s9 s10 s11 [])) (fun(r:Table) (y:A6C)=>.t []) (fun(r:Table) (y:A6C)=>([.box 0 (QA r y.1 y.2.1 y.2.2.1 y.2.2.2.1 y.2.2.2.2.1 y.2.2.2.2.2 s7 s8 s9 s10 s11)]++(QX r y.1 y.2.1 y.2.2.1 y.2.2.2.1 y.2.2.2.2.1 y.2.2.2.2.2 s7 s8 s9 s10 s11 []))):=
 cT tok call48 func48 results48 Q Q<|qA aT 9 Q Q Q fun x1 h1 s12 h2=>fun hF=>l5 1 h2 h1 Q Q Q Q Q<|wi hF<|iO aC [14] Q<|aJB 13 1 16 10 0 0 0 8 [1,2,3,4,5,6,7] Q Q Q Q Q (fun _=>GN) fun x2 s13=>bM [24] Q Q (fun hF=>sR Q<|l6 aT 12 [15,16,17,18,19,20,21] [8] ({x1 with Sub:=x2.1}:aE) s12 Q Q Q Q Q Q Q Q<|fR Q Q<|oZ s9 cL.symm [] [(0,9)] Q Q Q<|fR Q Q<|p5 (hT:=tok) s13 [0,22,23,24,25,26,27,28,8,29,10,11] hF Q results48 Q Q Q Q)<|bM [32,33] Q Q (fun hF=>sF Q<|l6 aT 12 [15,16,17,18,19,20,21] [8] ({x1 with Pc:=1,Sub:=x2.1}:aE) s12 Q Q Q Q Q Q Q Q<|fR Q Q<|oZ s9 cL.symm [] [(0,9)] Q Q Q<|fR Q Q<|p5 (hT:=tok) s13 [0,22,23,24,25,26,27,28,8,29,10,11] hF Q results48 Q Q Q Q)<|bM [37,38] Q Q (c0 Q (fun _=>oC) fun x3=>fun hF=>sF Q<|l6 aT 12 [15,16,17,18,19,20,21] [8] ({x1 with Pc:=21,Sub:=x3}:aE) s12 Q Q Q Q Q Q Q Q<|fR Q Q<|oZ s9 cL.symm [] [(0,9)] Q Q Q<|fR Q Q<|p5 (hT:=tok) s13 [0,22,23,24,25,26,27,28,8,29,10,11] hF Q results48 Q Q Q Q)<|fun hF=>sF Q<|l6 aT 12 [15,16,17,18,19,20,21] [8] ({x1 with Pc:=19,Sub:=x2.1}:aE) s12 Q Q Q Q Q Q Q Q<|fR Q Q<|oZ s9 cL.symm [] [(0,9)] Q Q Q<|fR Q Q<|p5 (hT:=tok) s13 [0,22,23,24,25,26,27,28,8,29,10,11] hF Q results48 Q Q Q Q
theorem G7{j:aE}{s1 s2 s3 s4 s5 s6 s7:AC}{b0:Nat×Nat}:VS prog κ 100 (nQ j) [.p 0 0] [b0] [.box 0 [.b j.iY,.b j.Batch.Collect,.h s1 j.Batch.bK.length,I j.aS,I j.Pc,I j.At,I j.K,I j.bT,I j.fM,I j.H,I j.fF,I j.Node.Key,I j.Node.dO,I j.Node.Next,.b j.Found,I j.Code,I j.Sub.Kind,I j.Sub.A,I j.Sub.Pc,I j.Sub.E,I j.Sub.Row,I j.Sub.B,I j.Sub.H,I j.Sub.Out,I j.Sub.Code,.b j.Sub.dJ,.h s2 j.Reads.length,.h s3 j.aJ.length,.h s4 j.eA.length,.h s5 j.fL.length,.h s6 j.aW.length,.h s7 j.cG.length],ow s1 (j.Batch.bK:List iG),ow s2 (j.Reads:List Seen),ow s3 (j.aJ:List aU),ow s4 (j.eA:List eA),ow s5 (j.fL:List Int),ow s6 (j.aW:List Int),ow s7 (j.cG:List Int)] (fun(r:iG×Bool×aE) (y:Unit)=>.t [.g [I r.1.Kind,I r.1.Key,I r.1.dO],.b r.2.1]) (fun(r:iG×Bool×aE) (y:Unit)=>[.box 0 [.b r.2.2.iY,.b r.2.2.Batch.Collect,.h s1 r.2.2.Batch.bK.length,I r.2.2.aS,I r.2.2.Pc,I r.2.2.At,I r.2.2.K,I r.2.2.bT,I r.2.2.fM,I r.2.2.H,I r.2.2.fF,I r.2.2.Node.Key,I r.2.2.Node.dO,I r.2.2.Node.Next,.b r.2.2.Found,I r.2.2.Code,I r.2.2.Sub.Kind,I r.2.2.Sub.A,I r.2.2.Sub.Pc,I r.2.2.Sub.E,I r.2.2.Sub.Row,I r.2.2.Sub.B,I r.2.2.Sub.H,I r.2.2.Sub.Out,I r.2.2.Sub.Code,.b r.2.2.Sub.dJ,.h s2 r.2.2.Reads.length,.h s3 r.2.2.aJ.length,.h s4 r.2.2.eA.length,.h s5 r.2.2.fL.length,.h s6 r.2.2.aW.length,.h s7 r.2.2.cG.length],ow s1 r.2.2.Batch.bK,ow s2 r.2.2.Reads,ow s3 r.2.2.aJ,ow s4 r.2.2.eA,ow s5 r.2.2.fL,ow s6 r.2.2.aW,ow s7 r.2.2.cG]):=
 cT tok call100 func100 results100 Q Q<|iO aC [0,8] Q<|c0 Q (fun _=>bV) fun x1=>bM [16] Q Q (lS () [0,1,2,3,4,5,6,7] Q Q)<|iO aC [0] Q<|qA aOB 1 Q Q Q fun x2 h1 _ h2=>fun hF=>l5 2 h2 h1 Q Q Q Q Q<|sR Q<|iW aOB 9 [] h1 () Q Q Q Q Q Q Q<|p5 (hT:=tok) () [0,12,2,3,4,5,6,7] hF Q results100 Q Q Q Q
theorem dI{j:aE}{code:Int}{s1 s2 s3 s4 s5 s6 s7:AC}{b0:Nat×Nat}:VS prog κ 60 (cH j code) [.p 0 0,I code] [b0] [.box 0 [.b j.iY,.b j.Batch.Collect,.h s1 j.Batch.bK.length,I j.aS,I j.Pc,I j.At,I j.K,I j.bT,I j.fM,I j.H,I j.fF,I j.Node.Key,I j.Node.dO,I j.Node.Next,.b j.Found,I j.Code,I j.Sub.Kind,I j.Sub.A,I j.Sub.Pc,I j.Sub.E,I j.Sub.Row,I j.Sub.B,I j.Sub.H,I j.Sub.Out,I j.Sub.Code,.b j.Sub.dJ,.h s2 j.Reads.length,.h s3 j.aJ.length,.h s4 j.eA.length,.h s5 j.fL.length,.h s6 j.aW.length,.h s7 j.cG.length],ow s1 (j.Batch.bK:List iG),ow s2 (j.Reads:List Seen),ow s3 (j.aJ:List aU),ow s4 (j.eA:List eA),ow s5 (j.fL:List Int),ow s6 (j.aW:List Int),ow s7 (j.cG:List Int)] (fun(r:aE) (y:Unit)=>.t []) (fun(r:aE) (y:Unit)=>[.box 0 [.b r.iY,.b r.Batch.Collect,.h s1 r.Batch.bK.length,I r.aS,I r.Pc,I r.At,I r.K,I r.bT,I r.fM,I r.H,I r.fF,I r.Node.Key,I r.Node.dO,I r.Node.Next,.b r.Found,I r.Code,I r.Sub.Kind,I r.Sub.A,I r.Sub.Pc,I r.Sub.E,I r.Sub.Row,I r.Sub.B,I r.Sub.H,I r.Sub.Out,I r.Sub.Code,.b r.Sub.dJ,.h s2 r.Reads.length,.h s3 r.aJ.length,.h s4 r.eA.length,.h s5 r.fL.length,.h s6 r.aW.length,.h s7 r.cG.length],ow s1 r.Batch.bK,ow s2 r.Reads,ow s3 r.aJ,ow s4 r.eA,ow s5 r.fL,ow s6 r.aW,ow s7 r.cG]):=
 cT tok call60 func60 results60 Q Q<|DF () [0,1,2,3,4,5,6,7] Q Q
theorem oD{s:List aU}{f:(aU->Option Bool)}{s1:AC}{g_f:FuncId}{cap_f:List Value}(h1:bY κ s1 s)(h_f:V6 prog κ (D4:E2 aU) .b g_f cap_f f):V0 prog κ 150 (cN s f) [.h s1 s.length,.k (.func (.func g_f) #[] cap_f.toArray)] I:=
 cT tok call150 func150 results150 Q Q<|IG 8 [0,1,7] [] Out.brk [] [] Q Q (fun hF1 x2 hr1=>bM [9] Q Q (A6 D4 Q h1 Q fun x3 _ _=>fun hG1=>fa1 h_f x3 () Q Q Q Q Q trivial hG1 fun x4 _ hG1=>wi hG1<|bM [16] Q Q (FQ hr1 hF1<|cO Q Q)<|DG [] Q)<|A3 [] Q)<|cO Q Q
theorem J9{s:List aU}{del:(aU->Option Bool)}{s1:AC}{g_del:FuncId}{cap_del:List Value}(h_del:V6 prog κ (D4:E2 aU) .b g_del cap_del del):VS prog κ 199 (iJ s del) [.h s1 s.length,.k (.func (.func g_del) #[] cap_del.toArray)] [] [ow s1 (s:List aU)] (fun(r:(List aU)) (y:AC)=>.h y r.length) (fun(r:(List aU)) (y:AC)=>[ow y r]):=
 cT tok call199 func199 results199 Q Q<|c0 Q (fun h=>oD (h.o 0 Q) (h.u1 h_del)) fun x1=>bM [12] Q Q (lS s1 [0] Q Q)<|S2 () [1] (fun(p:(List aU)×Int×Int) (_:Unit)=>[(0,.h s1 p.1.length),(5,I p.2.1),(6,I p.2.2)]) [0] [] (fun p _=>[ow s1 (p.1:List aU)]) id [] (fun(p:(List aU)×Int) (_:Unit)=>[(0,.h s1 p.1.length),(5,I p.2)]) [] (fun p _=>[ow s1 (p.1:List aU)]) Q Q (fun hF1 ⟨x5,x6,x7⟩ _ hr1=>bM [19] Q Q (eI 2 0 (fun(p:(List aU)×Int)=>gJ x7 p.1 p.2) [1,6] (fun(p:(List aU)×Int) (_:Unit)=>[(0,.h s1 p.1.length),(5,I p.2)]) [] (fun p _=>[ow s1 (p.1:List aU)]) Q (qA xE 0 Q Q Q fun x12 h3 _ h4=>fun hG1=>l5 0 h4 h3 Q Q Q Q Q<|fa1 h_del x12 () Q Q Q Q Q trivial hG1 fun x13 _ hG1=>wi hG1<|bM [29] Q Q (fun hG1=>cqS xE 1 [] h3 () Q Q Q Q Q Q Q Q Q<|wi hG1<|qA xE 5 Q Q Q fun x14 h5 _ h6=>fun hG1=>l5 2 h6 h5 Q Q Q Q Q<|sF Q<|l6 xE 6 [] [0,17,22,30] x12 () Q Q Q Q Q Q Q Q<|lE (p:=(x5.set x6.toNat x12,aX (x6+1))) () [9] hG1 Q)<|fun hG1=>sF Q<|iW xE 1 [] h3 () Q Q Q Q Q Q Q<|lE (p:=(x5,x6)) () [5] hG1 Q) fun⟨x10,x11⟩ _=>DG [0] Q)<|A3 [0] Q) fun⟨x8,x9⟩ _=>fun hF=>cpc 0 Q Q fun hc1=>aI8 hc1 Q Q Q Q Q Q hF fun hF h1=>clr 0 x9.toNat x8.length ((⟨0,false,0⟩:aU):aU) h1 uR Q (fun _=>(aV4 (⟨0,false,0⟩:aU))) Q Q Q Q Q Q Q Q<|rr s1 (eQ (xs:=List.replicate (x8.length - x9.toNat) (⟨0,false,0⟩:aU)) (sS h1.1 h1.2)).symm [0,36] [] [] Q Q Q Q<|cpc 0 Q Q fun hc2=>aNZ hc2 Q Q Q Q Q Q hF fun hF h2=>sR Q<|poR 0 0 x9.toNat Q Q h2 Q<|p5 (hT:=tok) (AC.sub s1 3 0) [0] hF Q results199 Q Q Q Q
theorem RZ{s:List aU}{s1:AC}(h1:bY κ s1 s):VS prog κ 200 (zY s) [.h s1 s.length] [] [] (fun r (y:AC)=>.h y r.length) (fun r y=>[ow y r]):=
 cT tok call200 func200 results200 Q Q<|fun hF=>eqn Q Q Q Q (fun h2=>have hF:=cln h1 h2 hF;sR Q<|DE aU<|p5 (hT:=tok) ⟨none,0⟩ [0] hF Q results200 Q Q Q Q)<|lt0 (α:=aU) uR Q Q Q Q fun s2=>ap 0 uR Q Q Q Q Q Q Q (fun h=>(h.a h1)) Q Q hF fun hF s3=>wi hF<|lS s3 [0] Q Q
theorem W0{x k0:aU}{b0:Nat×Nat}:VS prog κ 201 (F7 x k0) [.g [I x.Key,.b x.GX,I x.dO],.p 0 0] [b0] [.ro 0 [I k0.Key,.b k0.GX,I k0.dO]] (fun r (_:Unit)=>.b r) (fun _ _=>[]):=
 cT tok call201 func201 results201 Q Q<|cO Q Q
theorem W2{x k0:aU}{b0:Nat×Nat}:VS prog κ 202 (yW x k0) [.g [I x.Key,.b x.GX,I x.dO],.p 0 0] [b0] [.ro 0 [I k0.Key,.b k0.GX,I k0.dO]] (fun r (_:Unit)=>.b r) (fun _ _=>[]):=
 cT tok call202 func202 results202 Q Q<|cO Q Q
theorem QQ{s v:List aU}{i:Int}{s1 s2:AC}:VS prog κ 203 (oQ s i v) [.h s1 s.length,I i,.h s2 v.length] [] [ow s1 s,.o (cLs s2 v)] (fun(r:(List aU)) (y:AC)=>.h y r.length) (fun(r:(List aU)) (y:AC)=>[ow y r]):=
 a51 Q (by decide) (aY6 (k:=3) (el:=119) (z:=.agg #[.int .i64 0,.bool false,.int .i64 0]) (by decide) Q aLX aN8 aRX aN9) call203
theorem aA4{l:List aU}{w_:aU}{s1:AC}(h1:bY κ s1 l):VS prog κ 149 (EM l w_) [.h s1 l.length,.g [I w_.Key,.b w_.GX,I w_.dO]] [] [] (fun r (y:AC)=>.h y r.length) (fun r y=>[ow y r]):=
 cT tok call149 func149 results149 Q Q<|c1 Q (fun h=>RZ (h.a h1)) fun x1 s2=>fun hF=>mf [0] Q Q Q<|wi hF<|a5T 0 [1] Q Q Q Q Q Q (fun _=>fun hB=>J9 (a5S call201 hB fun _=>W0)) fun x2 s3=>fun hF=>mf [0] Q Q Q<|wi hF<|aLE [0] Q Q Q Q (fun h=>fun hB=>oD (h.o 2 Q) (aLD (cs:=[(0,[I w_.Key,.b w_.GX,I w_.dO])]) call202 hB Q fun _ _=>W2)) fun x3=>eI 0 1 (pG w_ x2) [3,5] (fun(x4:Int) (_:Unit)=>[(6,I x4)]) [2,0] (fun x4 _=>[]) Q (bM [15] Q Q (cA [2,0] Q Q)<|cA [2,0] Q Q) fun x4 _=>fun hF=>ltL xE () w_ uR Q Q Q Q Q Q Q Q (fun _=>Q) fun s4=>wi hF<|J1 [0,2] Q Q Q Q (fun _=>QQ) fun x5 s5=>lS s5 [3] Q Q
theorem JJ{j:aE}{x:aU}{s1 s2 s3 s4 s5 s6 s7:AC}{b0:Nat×Nat}:VS prog κ 101 (pH j x) [.p 0 0,.g [I x.Key,.b x.GX,I x.dO]] [b0] [.box 0 [.b j.iY,.b j.Batch.Collect,.h s1 j.Batch.bK.length,I j.aS,I j.Pc,I j.At,I j.K,I j.bT,I j.fM,I j.H,I j.fF,I j.Node.Key,I j.Node.dO,I j.Node.Next,.b j.Found,I j.Code,I j.Sub.Kind,I j.Sub.A,I j.Sub.Pc,I j.Sub.E,I j.Sub.Row,I j.Sub.B,I j.Sub.H,I j.Sub.Out,I j.Sub.Code,.b j.Sub.dJ,.h s2 j.Reads.length,.h s3 j.aJ.length,.h s4 j.eA.length,.h s5 j.fL.length,.h s6 j.aW.length,.h s7 j.cG.length],ow s1 (j.Batch.bK:List iG),ow s2 (j.Reads:List Seen),ow s3 (j.aJ:List aU),ow s4 (j.eA:List eA),ow s5 (j.fL:List Int),ow s6 (j.aW:List Int),ow s7 (j.cG:List Int)] (fun(r:Bool×aE) (y:AC)=>.b r.1) (fun(r:Bool×aE) (y:AC)=>[.box 0 [.b r.2.iY,.b r.2.Batch.Collect,.h s1 r.2.Batch.bK.length,I r.2.aS,I r.2.Pc,I r.2.At,I r.2.K,I r.2.bT,I r.2.fM,I r.2.H,I r.2.fF,I r.2.Node.Key,I r.2.Node.dO,I r.2.Node.Next,.b r.2.Found,I r.2.Code,I r.2.Sub.Kind,I r.2.Sub.A,I r.2.Sub.Pc,I r.2.Sub.E,I r.2.Sub.Row,I r.2.Sub.B,I r.2.Sub.H,I r.2.Sub.Out,I r.2.Sub.Code,.b r.2.Sub.dJ,.h s2 r.2.Reads.length,.h y r.2.aJ.length,.h s4 r.2.eA.length,.h s5 r.2.fL.length,.h s6 r.2.aW.length,.h s7 r.2.cG.length],ow s1 r.2.Batch.bK,ow s2 r.2.Reads,ow y r.2.aJ,ow s4 r.2.eA,ow s5 r.2.fL,ow s6 r.2.aW,ow s7 r.2.cG]):=
 cT tok call101 func101 results101 Q Q<|iO aC [0,8] Q<|c1 Q (fun h=>aA4 (h.o 3 Q)) fun x1 s8=>bM [14] Q Q (eB 0 0 0 32 [1,2,3,4,5,6,7] Q Q Q Q Q (fun _=>dI) fun x2 _=>lS s3 [0,10,11,12,13,14,15,16] Q Q)<|lS s8 [0,1,2,9,4,5,6,7] Q Q
theorem YT{x:aU}{k0:Int}{b0:Nat×Nat}:VS prog κ 151 (CD x k0) [.g [I x.Key,.b x.GX,I x.dO],.p 0 0] [b0] [.ro 0 [I k0]] (fun r (_:Unit)=>.b r) (fun _ _=>[]):=
 cT tok call151 func151 results151 Q Q<|cO Q Q
theorem aD6{l:List aU}{key:Int}{s1:AC}(h1:bY κ s1 l):V0 prog κ 102 (HU l key) [.h s1 l.length,I key] (fun r=>.t [.g [I r.1.Key,.b r.1.GX,I r.1.dO],.b r.2]):=
 cT tok call102 func102 results102 Q Q<|fun hF=>mf [0] Q Q Q<|wi hF<|aLE [0] Q Q Q Q (fun h=>fun hB=>oD (h.a h1) (aLD (cs:=[(0,[I key])]) call151 hB Q fun _ _=>YT)) fun x1=>bM [11] Q Q (cO Q Q)<|A6 D4 Q h1 Q fun x2 _ _=>cO Q Q
theorem aJJ{a_ b:Int}:V0 prog κ 152 (U2 a_ b) [I a_,I b] I:=
 cT tok call152 func152 results152 Q Q<|cO Q Q
theorem JK{j:aE}{c:iG}{val:Int}{is:Bool}{s1 s2 s3 s4 s5 s6 s7:AC}{b0:Nat×Nat}:VS prog κ 103 (pI j c val is) [.p 0 0,.g [I c.Kind,I c.Key,I c.dO],I val,.b is] [b0] [.box 0 [.b j.iY,.b j.Batch.Collect,.h s1 j.Batch.bK.length,I j.aS,I j.Pc,I j.At,I j.K,I j.bT,I j.fM,I j.H,I j.fF,I j.Node.Key,I j.Node.dO,I j.Node.Next,.b j.Found,I j.Code,I j.Sub.Kind,I j.Sub.A,I j.Sub.Pc,I j.Sub.E,I j.Sub.Row,I j.Sub.B,I j.Sub.H,I j.Sub.Out,I j.Sub.Code,.b j.Sub.dJ,.h s2 j.Reads.length,.h s3 j.aJ.length,.h s4 j.eA.length,.h s5 j.fL.length,.h s6 j.aW.length,.h s7 j.cG.length],ow s1 (j.Batch.bK:List iG),ow s2 (j.Reads:List Seen),ow s3 (j.aJ:List aU),ow s4 (j.eA:List eA),ow s5 (j.fL:List Int),ow s6 (j.aW:List Int),ow s7 (j.cG:List Int)] (fun(r:aE) (y:AC×AC)=>.t []) (fun(r:aE) (y:AC×AC)=>[.box 0 [.b r.iY,.b r.Batch.Collect,.h s1 r.Batch.bK.length,I r.aS,I r.Pc,I r.At,I r.K,I r.bT,I r.fM,I r.H,I r.fF,I r.Node.Key,I r.Node.dO,I r.Node.Next,.b r.Found,I r.Code,I r.Sub.Kind,I r.Sub.A,I r.Sub.Pc,I r.Sub.E,I r.Sub.Row,I r.Sub.B,I r.Sub.H,I r.Sub.Out,I r.Sub.Code,.b r.Sub.dJ,.h s2 r.Reads.length,.h y.1 r.aJ.length,.h y.2 r.eA.length,.h s5 r.fL.length,.h s6 r.aW.length,.h s7 r.cG.length],ow s1 r.Batch.bK,ow s2 r.Reads,ow y.1 r.aJ,ow y.2 r.eA,ow s5 r.fL,ow s6 r.aW,ow s7 r.cG]):=
 cT tok call103 func103 results103 Q Q<|eI 0 2 (lB j c is) [0,3,5] (fun(x1:Int) (_:Unit)=>[(2,I x1)]) [1,2,3,4,5,6,7,0,8] (fun x1 _=>[]) Q (bM [10] Q Q (cA [1,2,3,4,5,6,7,0,8] Q Q)<|cA [1,2,3,4,5,6,7,0,8] Q Q) fun x1 _=>eI 0 3 (fun(p:aE×Bool×Int)=>lA p.1 p.2.1 p.2.2) [0,8] (fun(p:aE×Bool×Int) (s8:AC)=>[]) [] (fun p s8=>[ow s1 (p.1.Batch.bK:List iG),ow s2 (p.1.Reads:List Seen),ow s8 (p.1.aJ:List aU),ow s4 (p.1.eA:List eA),ow s5 (p.1.fL:List Int),ow s6 (p.1.aW:List Int),ow s7 (p.1.cG:List Int),.box 0 [.b p.1.iY,.b p.1.Batch.Collect,.h s1 p.1.Batch.bK.length,I p.1.aS,I p.1.Pc,I p.1.At,I p.1.K,I p.1.bT,I p.1.fM,I p.1.H,I p.1.fF,I p.1.Node.Key,I p.1.Node.dO,I p.1.Node.Next,.b p.1.Found,I p.1.Code,I p.1.Sub.Kind,I p.1.Sub.A,I p.1.Sub.Pc,I p.1.Sub.E,I p.1.Sub.Row,I p.1.Sub.B,I p.1.Sub.H,I p.1.Sub.Out,I p.1.Sub.Code,.b p.1.Sub.dJ,.h s2 p.1.Reads.length,.h s8 p.1.aJ.length,.h s4 p.1.eA.length,.h s5 p.1.fL.length,.h s6 p.1.aW.length,.h s7 p.1.cG.length],.box 2 [.b p.2.1,I p.2.2]]) Q (bM [16] Q Q (c0 Q (fun _=>aJJ) fun x6=>eB 7 0 0 32 [0,1,2,3,4,5,6] Q Q Q Q Q (fun _=>JJ) fun x7 s16=>bM [29] Q Q (lS (s16,s4) [7,10,11,12,13,14,15,16] Q Q)<|vB (p:=(x7.2,true,x6)) s16 [10,11,12,13,14,15,16,7,9] Q Q)<|vB (p:=(j,is,x1)) s3 [0,1,2,3,4,5,6,7,9] Q Q) fun⟨x2,x3,x4⟩ s8=>eI 0 3 oR [0] (fun(x5:aE) (s9:AC)=>[]) [] (fun x5 s9=>[ow s1 (x5.Batch.bK:List iG),ow s2 (x5.Reads:List Seen),ow s8 (x5.aJ:List aU),ow s9 (x5.eA:List eA),ow s5 (x5.fL:List Int),ow s6 (x5.aW:List Int),ow s7 (x5.cG:List Int),.box 0 [.b x5.iY,.b x5.Batch.Collect,.h s1 x5.Batch.bK.length,I x5.aS,I x5.Pc,I x5.At,I x5.K,I x5.bT,I x5.fM,I x5.H,I x5.fF,I x5.Node.Key,I x5.Node.dO,I x5.Node.Next,.b x5.Found,I x5.Code,I x5.Sub.Kind,I x5.Sub.A,I x5.Sub.Pc,I x5.Sub.E,I x5.Sub.Row,I x5.Sub.B,I x5.Sub.H,I x5.Sub.Out,I x5.Sub.Code,.b x5.Sub.dJ,.h s2 x5.Reads.length,.h s8 x5.aJ.length,.h s9 x5.eA.length,.h s5 x5.fL.length,.h s6 x5.aW.length,.h s7 x5.cG.length]]) Q (iO aC [8] Q<|fun hF=>nd hF fun hA1 hF=>(by refine dD Q Q ?_ ?_ <;> exact S1 a4D [] ((⟨x3,x4⟩:eA)) () LA Q Q Q Q Q Q Q Q Q Q Q Q Q fun s12=>have hq1:=rn hA1;ap 3 LA Q Q Q Q Q Q Q (fun h=>(h.o 9 Q)) Q Q hq1 fun hq1 s13=>wi hF<|vB (p:=(({x2 with eA:=x2.eA++([(⟨x3,x4⟩:eA)])}:aE))) s13 [0,1,2,3,4,5,6,7] Q Q)) fun x5 s9=>DF (s8,s9) [7,0,1,2,3,4,5,6] Q Q
theorem O0{key:Int}:V0 prog κ 104 (DZ key) [I key] I:=
 cT tok call104 func104 results104 Q Q<|c0 Q (fun _=>bV) fun x1=>bM [5] Q Q (cO Q Q)<|cO Q Q
theorem YU{j:aE}{s1 s2 s3 s4 s5 s6 s7:AC}{b0:Nat×Nat}:VS prog κ 49 (CF j) [.p 0 0] [b0] [.box 0 [.b j.iY,.b j.Batch.Collect,.h s1 j.Batch.bK.length,I j.aS,I j.Pc,I j.At,I j.K,I j.bT,I j.fM,I j.H,I j.fF,I j.Node.Key,I j.Node.dO,I j.Node.Next,.b j.Found,I j.Code,I j.Sub.Kind,I j.Sub.A,I j.Sub.Pc,I j.Sub.E,I j.Sub.Row,I j.Sub.B,I j.Sub.H,I j.Sub.Out,I j.Sub.Code,.b j.Sub.dJ,.h s2 j.Reads.length,.h s3 j.aJ.length,.h s4 j.eA.length,.h s5 j.fL.length,.h s6 j.aW.length,.h s7 j.cG.length],ow s1 (j.Batch.bK:List iG),ow s2 (j.Reads:List Seen),ow s3 (j.aJ:List aU),ow s4 (j.eA:List eA),ow s5 (j.fL:List Int),ow s6 (j.aW:List Int),ow s7 (j.cG:List Int)] (fun(r:aE) (y:AC×AC)=>.t []) (fun(r:aE) (y:AC×AC)=>[.box 0 [.b r.iY,.b r.Batch.Collect,.h s1 r.Batch.bK.length,I r.aS,I r.Pc,I r.At,I r.K,I r.bT,I r.fM,I r.H,I r.fF,I r.Node.Key,I r.Node.dO,I r.Node.Next,.b r.Found,I r.Code,I r.Sub.Kind,I r.Sub.A,I r.Sub.Pc,I r.Sub.E,I r.Sub.Row,I r.Sub.B,I r.Sub.H,I r.Sub.Out,I r.Sub.Code,.b r.Sub.dJ,.h s2 r.Reads.length,.h y.1 r.aJ.length,.h y.2 r.eA.length,.h s5 r.fL.length,.h s6 r.aW.length,.h s7 r.cG.length],ow s1 r.Batch.bK,ow s2 r.Reads,ow y.1 r.aJ,ow y.2 r.eA,ow s5 r.fL,ow s6 r.aW,ow s7 r.cG]):=
 cT tok call49 func49 results49 Q Q<|eB 0 0 0 32 [1,2,3,4,5,6,7] Q Q Q Q Q (fun _=>G7) fun x1 _=>bM [39,41] Q Q (c0 Q (fun _=>oC) fun x2=>DF (s3,s4) [0,8,9,10,11,12,13,14] Q Q)<|eI 0 2 (fun(p:Bool×aE)=>i6 x1 p.1 p.2) [0,2] (fun(p:Bool×aE) (_:Unit)=>[(52,.b p.1)]) [15] (fun p _=>[ow s1 (p.2.Batch.bK:List iG),ow s2 (p.2.Reads:List Seen),ow s3 (p.2.aJ:List aU),ow s4 (p.2.eA:List eA),ow s5 (p.2.fL:List Int),ow s6 (p.2.aW:List Int),ow s7 (p.2.cG:List Int),.box 0 [.b p.2.iY,.b p.2.Batch.Collect,.h s1 p.2.Batch.bK.length,I p.2.aS,I p.2.Pc,I p.2.At,I p.2.K,I p.2.bT,I p.2.fM,I p.2.H,I p.2.fF,I p.2.Node.Key,I p.2.Node.dO,I p.2.Node.Next,.b p.2.Found,I p.2.Code,I p.2.Sub.Kind,I p.2.Sub.A,I p.2.Sub.Pc,I p.2.Sub.E,I p.2.Sub.Row,I p.2.Sub.B,I p.2.Sub.H,I p.2.Sub.Out,I p.2.Sub.Code,.b p.2.Sub.dJ,.h s2 p.2.Reads.length,.h s3 p.2.aJ.length,.h s4 p.2.eA.length,.h s5 p.2.fL.length,.h s6 p.2.aW.length,.h s7 p.2.cG.length]]) Q (eS [55,56] Q Q (cA (p:=(true,x1.2.2)) [8,9,10,11,12,13,14,0,15] Q Q)<|cA (p:=(x1.1.Kind == 3,x1.2.2)) [8,9,10,11,12,13,14,0,15] Q Q) fun⟨x3,x4⟩ _=>bM [52] Q Q (eB 7 0 0 32 [0,1,2,3,4,5,6] Q Q Q Q Q (fun _=>JJ) fun x5 s8=>bM [70] Q Q (fun hF=>S1 a4D [] ((⟨false,0⟩:eA)) () LA Q Q Q Q Q Q Q Q Q Q Q Q Q fun s9=>ap 12 LA Q Q Q Q Q Q Q (fun h=>(h.o 16 Q)) Q Q hF fun hF s10=>wi hF<|DF (s8,s10) [7,9,10,11,12,13,14,15] Q Q)<|DF (s8,s4) [7,9,10,11,12,13,14,15] Q Q)<|eI 0 3 (fun(p:Bool×aE×Int×Bool×Int)=>CE x1 p.1 p.2.1 p.2.2.1 p.2.2.2.1 p.2.2.2.2) [0,2] (fun(p:Bool×aE×Int×Bool×Int) (_:Unit)=>[(4,.p 2 0),(5,.b p.1)]) [8] (fun p _=>[ow s1 (p.2.1.Batch.bK:List iG),ow s2 (p.2.1.Reads:List Seen),ow s3 (p.2.1.aJ:List aU),ow s4 (p.2.1.eA:List eA),ow s5 (p.2.1.fL:List Int),ow s6 (p.2.1.aW:List Int),ow s7 (p.2.1.cG:List Int),.box 0 [.b p.2.1.iY,.b p.2.1.Batch.Collect,.h s1 p.2.1.Batch.bK.length,I p.2.1.aS,I p.2.1.Pc,I p.2.1.At,I p.2.1.K,I p.2.1.bT,I p.2.1.fM,I p.2.1.H,I p.2.1.fF,I p.2.1.Node.Key,I p.2.1.Node.dO,I p.2.1.Node.Next,.b p.2.1.Found,I p.2.1.Code,I p.2.1.Sub.Kind,I p.2.1.Sub.A,I p.2.1.Sub.Pc,I p.2.1.Sub.E,I p.2.1.Sub.Row,I p.2.1.Sub.B,I p.2.1.Sub.H,I p.2.1.Sub.Out,I p.2.1.Sub.Code,.b p.2.1.Sub.dJ,.h s2 p.2.1.Reads.length,.h s3 p.2.1.aJ.length,.h s4 p.2.1.eA.length,.h s5 p.2.1.fL.length,.h s6 p.2.1.aW.length,.h s7 p.2.1.cG.length],.box 2 [I p.2.2.1,.b p.2.2.2.1,I p.2.2.2.2]]) Q (iO aC [7,8] Q<|fun hF=>bd hF fun x13 hA1 hF=>(by refine dD Q Q ?_ ?_ <;> exact have hq1:=rb hA1;wi hq1<|c0 Q (fun h=>aD6 (h.o 2 Q)) fun u1=>fun hq1=>match u1,hq1 with | _,rfl=>wi hF<|cA (p:=(x13.2,x4,x13.1.Key,x13.1.GX,x13.1.dO)) [0,1,2,3,4,5,6,7,9,8] Q Q)) fun⟨x6,x7,x8,x9,x10⟩ _=>bM [5,21] Q Q (eB 7 0 0 32 [0,1,2,3,4,5,6] Q Q Q Q Q (fun _=>JK) fun x11 s11=>lS (s11.1,s11.2) [7,10,11,12,13,14,15,16] Q Q)<|c0 Q (fun _=>O0) fun x12=>DF (s3,s4) [7,0,1,2,3,4,5,6] Q Q
theorem R0{h:Heap}{slot:Int}{s1 s2:AC}(h1:bY κ s1 h.Bytes)(h2:bY κ s2 h.Class):V0 prog κ 154 (CG h slot) [.g [.h s1 h.Bytes.length,.h s2 h.Class.length],I slot] .b:=
 cT tok call154 func154 results154 Q Q<|c0 Q (fun h=>mJ (h.a h1) (h.a h2)) fun x1=>c0 Q (fun _=>MB) fun x2=>cO Q Q
theorem aD7{slot c:Int}:V0 prog κ 215 (HV slot c) [I slot,I c] I:=
 cT tok call215 func215 results215 Q Q<|c0 Q (fun _=>rB) fun x1=>bM [10] Q Q (cO Q Q)<|cO Q Q
theorem uW{h:Heap}{slot:Int}{s1 s2:AC}(h1:bY κ s1 h.Bytes)(h2:bY κ s2 h.Class):V0 prog κ 166 (vR h slot) [.g [.h s1 h.Bytes.length,.h s2 h.Class.length],I slot] I:=
 cT tok call166 func166 results166 Q Q<|c0 Q (fun h=>mJ (h.a h1) (h.a h2)) fun x1=>c0 Q (fun _=>aD7) fun x2=>cO Q Q
theorem aGP{h:Heap}{slot:Int}{s1 s2:AC}(h1:bY κ s1 h.Bytes)(h2:bY κ s2 h.Class):V0 prog κ 155 (K1 h slot) [.g [.h s1 h.Bytes.length,.h s2 h.Class.length],I slot] (fun r=>.g [I r.Key,I r.dO,I r.Next]):=
 cT tok call155 func155 results155 Q Q<|c0 Q (fun h=>uW (h.a h1) (h.a h2)) fun x1=>iO aC [0] Q<|c0 Q (fun h=>uV (h.a h1)) fun x2=>c0 Q (fun h=>uV (h.a h1)) fun x3=>c0 Q (fun h=>uV (h.a h1)) fun x4=>cO Q Q
theorem UH{m:Mem}{h:Int}{s1 s2 s3 s4:AC}(h1:bY κ s1 m.Heap.Bytes)(h2:bY κ s2 m.Heap.Class)(h3:bY κ s3 m.aA.Global)(h4:bY κ s4 m.aA.Own):V0 prog κ 105 (FC m h) [.g (gM m s1 s2 s3 s4),I h] (fun r=>.t [.g [I r.1.Key,I r.1.dO,I r.1.Next],I r.2]):=
 cT tok call105 func105 results105 Q Q<|eD 0 2 (CH m h) [1,2,4] 6 [0,1] Q (c0 Q (fun _=>kS) fun x4=>eS [9,10] Q Q (cA [0,1] Q Q)<|c0 Q (fun h=>mJ (h.a h1) (h.a h2)) fun x5=>cA [0,1] Q Q) fun x1=>bM [6] Q Q (cO Q Q)<|c0 Q (fun h=>R0 (h.a h1) (h.a h2)) fun x2=>bM [19,25] Q Q (cO Q Q)<|c0 Q (fun h=>aGP (h.a h1) (h.a h2)) fun x3=>cO Q Q
theorem R1{p:sC}:V0 prog κ 106 (zZ p) [.g [.b p.On,I p.aM,.b p.gP,I p.Seen]] .b:=
 cT tok call106 func106 results106 Q Q<|eD 0 1 mM [] 2 [] Q (eS [4,5] Q Q (cA [] Q Q)<|cA [] Q Q) fun x1=>cO Q Q
theorem cK{n:bP}:V0 prog κ 107 (fW n) [.g [I n.Key,I n.dO,I n.Next]] I:=
 cT tok call107 func107 results107 Q Q<|c0 Q (fun _=>kS) fun x1=>bM [6] Q Q (cO Q Q)<|cO Q Q
theorem TL{s:List Seen}{s1:AC}(h1:bY κ s1 s):VS prog κ 156 (CI s) [.h s1 s.length] [] [] (fun r (y:AC)=>.h y r.length) (fun r y=>[ow y r]):=
 cT tok call156 func156 results156 Q Q<|fun hF=>eqn Q Q Q Q (fun h2=>have hF:=cln h1 h2 hF;sR Q<|DE Seen<|p5 (hT:=tok) ⟨none,0⟩ [0] hF Q results156 Q Q Q Q)<|lt0 (α:=Seen) LB Q Q Q Q fun s2=>ap 0 LB Q Q Q Q Q Q Q (fun h=>(h.a h1)) Q Q hF fun hF s3=>wi hF<|lS s3 [0] Q Q
theorem A0{s:List Seen}{f:(Seen->Option Bool)}{s1:AC}{g_f:FuncId}{cap_f:List Value}(h1:bY κ s1 s)(h_f:V6 prog κ (ZI:E2 Seen) .b g_f cap_f f):V0 prog κ 157 (dV s f) [.h s1 s.length,.k (.func (.func g_f) #[] cap_f.toArray)] I:=
 cT tok call157 func157 results157 Q Q<|IG 8 [0,1,7] [] Out.brk [] [] Q Q (fun hF1 x2 hr1=>bM [9] Q Q (A6 ZI Q h1 Q fun x3 _ _=>fun hG1=>fa1 h_f x3 () Q Q Q Q Q trivial hG1 fun x4 _ hG1=>wi hG1<|bM [16] Q Q (FQ hr1 hF1<|cO Q Q)<|DG [] Q)<|A3 [] Q)<|cO Q Q
theorem YV{s:Seen}{k0:Int}{b0:Nat×Nat}:VS prog κ 158 (CJ s k0) [.g [I s.bT,I s.fM],.p 0 0] [b0] [.ro 0 [I k0]] (fun r (_:Unit)=>.b r) (fun _ _=>[]):=
 cT tok call158 func158 results158 Q Q<|cO Q Q
theorem JL{l:List Seen}{b v:Int}{s1:AC}(h1:bY κ s1 l):VS prog κ 108 (HW l b v) [.h s1 l.length,I b,I v] [] [] (fun r (y:AC)=>.t [.h y r.1.length,.b r.2]) (fun r y=>[ow y r.1]):=
 cT tok call108 func108 results108 Q Q<|c1 Q (fun h=>TL (h.a h1)) fun x1 s2=>fun hF=>mf [0] Q Q Q<|wi hF<|aLE [0] Q Q Q Q (fun h=>fun hB=>A0 (h.a h1) (aLD (cs:=[(0,[I b])]) call158 hB Q fun _ _=>YV)) fun x2=>bM [16] Q Q (fun hF=>S1 RQ [] ((⟨b,v⟩:Seen)) () LB Q Q Q Q Q Q Q Q Q Q Q Q Q fun s3=>ap 1 LB Q Q Q Q Q Q Q (fun h=>(h.o 2 Q)) Q Q hF fun hF s4=>wi hF<|lS s4 [1] Q Q)<|iO aC [0] Q<|A6 ZI Q h1 Q fun x3 _ _=>lS s2 [1] Q Q
theorem W3{t:Table}{w_:Int}{s1 s2 s3 s4 s5 s6 s7 s8 s9 s10 s11:AC}{b0:Nat×Nat}:VS prog κ 50 (yX t w_) [.p 0 0,I w_] [b0] ([.box 0 (QA t s1 s2 s3 s4 s5 s6 s7 s8 s9 s10 s11)]++(QX t s1 s2 s3 s4 s5 s6 s7 s8 s9 s10 s11 [])) (fun(r:Table) (y:Unit)=>.t []) (fun(r:Table) (y:Unit)=>([.box 0 (QA r s1 s2 s3 s4 s5 s6 s7 s8 s9 s10 s11)]++(QX r s1 s2 s3 s4 s5 s6 s7 s8 s9 s10 s11 []))):=
 cT tok call50 func50 results50 Q Q<|qA aT 9 Q Q Q fun x1 h1 s12 h2=>fun hF=>l5 1 h2 h1 Q Q Q Q Q<|wi hF<|eI 0 4 (fun(p:Int×Int×Int)=>z7 t w_ p.1 p.2.1 p.2.2) [0,1,4] (fun(p:Int×Int×Int) (_:Unit)=>[(5,.p 3 0)]) [1,2,3,4,5,6,7,8,10,11,0,14] (fun p _=>[ow s9 (t.aN:List aE),.box 3 [I p.1,I p.2.1,I p.2.2]]) Q (fun hF=>cqS aT 12 [15,16,17,18,19,20,21] h1 s12 Q Q Q Q Q Q Q Q Q<|wi hF<|iO aC [0,14] Q<|fun hF=>bd hF fun x30 hA5 hF=>dD Q Q (have hq15:=rb h1;ro aT 22 14 1 Q Q Q Q hq15 fun u15 h27 hq15 s34=>match u15,hq15 with | _,rfl=>have hq16:=rb hA5;wi hq16<|qA uS 8 Q Q Q fun u16 h29 _ h30=>fun hq16=>l5 2 h30 h29 Q Q Q Q Q<|match u16,hq16 with | _,rfl=>(by refine dD Q Q ?_ ?_ <;> exact sF Q<|iW uS 33 [] h29 () Q Q Q Q Q Q Q<|fR Q Q<|iW aT 23 [26,27,28,29,30,31,32] h27 s34 Q Q Q Q Q Q Q<|fR Q Q<|lE (p:=(x30.Head,x30.fM,x30.fO)) () [38,36,1,2,3,4,5,6,7,37,10,11,0,14] hF Q)) (have hq17:=rb h1;ro aT 22 14 1 Q Q Q Q hq17 fun u17 h31 hq17 s35=>match u17,hq17 with | _,rfl=>have hq18:=rb hA5;wi hq18<|qA uS 8 Q Q Q fun u18 h33 _ h34=>fun hq18=>l5 3 h34 h33 Q Q Q Q Q<|match u18,hq18 with | _,rfl=>sF Q<|swR 3 2 Q<|fD Q Q<|iW uS 34 [] h33 () Q Q Q Q Q Q Q<|fR Q Q<|iW aT 24 [27,28,29,30,31,32,33] h31 s35 Q Q Q Q Q Q Q<|fR Q Q<|lE (p:=(x30.Head,x30.fM,x30.fO)) () [38,23,1,2,3,4,5,6,7,37,10,11,0,14] hF Q)) fun⟨x2,x3,x4⟩ _=>fun hF=>ro aT 0 13 1 Q Q Q Q hF fun x5 h3 hF s13=>wi hF<|eB 15 1 0 32 [17,18,19,20,21,22,23] Q Q Q Q Q (fun _=>G7) fun x6 _=>bM [91,92] Q Q (bM [95] Q Q (eB 15 1 0 32 [24,25,26,27,28,29,30] Q Q Q Q Q (fun _=>dI) fun x7 _=>fun hF=>sR Q<|l6 aT 14 [32,33,34,35,36,37,38] [] x7 s13 Q Q Q Q Q Q Q Q<|fR Q Q<|oZ s9 cL.symm [] [(12,9)] Q Q Q<|fR Q Q<|p5 (hT:=tok) () [12,2,3,4,5,6,7,8,9,39,10,11] hF Q results50 Q Q Q Q)<|iO aC [1,12,13,16,31] Q<|bM [122] Q Q (fun hF=>sF Q<|l6 aT 14 [24,25,26,27,28,29,30] [] (⟨x6.2.2.iY,x6.2.2.Batch,x6.2.2.aS,5,x6.2.2.At,x6.2.2.K,x6.2.2.bT,x3,x2,x6.2.2.fF,(⟨0,0,0⟩:bP),false,x6.2.2.Code,x6.2.2.Sub,x6.2.2.Reads,x6.2.2.aJ,x6.2.2.eA,x6.2.2.fL,x6.2.2.aW,x6.2.2.cG⟩:aE) s13 Q Q Q Q Q Q Q Q<|fR Q Q<|oZ s9 cL.symm [] [(12,9)] Q Q Q<|fR Q Q<|p5 (hT:=tok) () [12,2,3,4,5,6,7,8,9,32,10,11] hF Q results50 Q Q Q Q)<|fun hF=>sF Q<|l6 aT 14 [24,25,26,27,28,29,30] [] (⟨x6.2.2.iY,x6.2.2.Batch,x6.2.2.aS,3,x6.2.2.At,x6.2.2.K,x6.2.2.bT,x3,x2,x6.2.2.fF,(⟨0,0,0⟩:bP),false,x6.2.2.Code,x6.2.2.Sub,x6.2.2.Reads,x6.2.2.aJ,x6.2.2.eA,x6.2.2.fL,x6.2.2.aW,x6.2.2.cG⟩:aE) s13 Q Q Q Q Q Q Q Q<|fR Q Q<|oZ s9 cL.symm [] [(12,9)] Q Q Q<|fR Q Q<|p5 (hT:=tok) () [12,2,3,4,5,6,7,8,9,32,10,11] hF Q results50 Q Q Q Q)<|bM [126,127] Q Q (iO aC [1,12,13,16,31] Q<|c0 Q (fun h=>UH (h.o 2 Q) (h.o 3 Q) (h.o 4 Q) (h.o 5 Q)) fun x8=>fun hF=>sF Q<|l6 aT 14 [24,25,26,27,28,29,30] [] (⟨x6.2.2.iY,x6.2.2.Batch,x6.2.2.aS,4,x6.2.2.At,x6.2.2.K,x6.2.2.bT,x6.2.2.fM,x6.2.2.H,x6.2.2.fF,x8.1,x6.2.2.Found,x6.2.2.Code,x6.2.2.Sub,x6.2.2.Reads,x6.2.2.aJ,x6.2.2.eA,x6.2.2.fL,x6.2.2.aW,x6.2.2.cG⟩:aE) s13 Q Q Q Q Q Q Q Q<|fR Q Q<|oZ s9 cL.symm [] [(12,9)] Q Q Q<|fR Q Q<|p5 (hT:=tok) () [12,2,3,4,5,6,7,8,9,32,10,11] hF Q results50 Q Q Q Q)<|bM [147,148] Q Q (qA TG 6 Q Q Q fun x9 h5 _ h6=>fun hF=>l5 5 h6 h5 Q Q Q Q Q<|wi hF<|c0 Q (fun _=>R1) fun x10=>bM [149,160] Q Q (eB 15 1 0 32 [24,25,26,27,28,29,30] Q Q Q Q Q (fun _=>dI) fun x11 _=>fun hF=>sR Q<|iW TG 32 [] h5 () Q Q Q Q Q Q Q<|fR Q Q<|l6 aT 14 [35,36,37,38,39,40,41] [] x11 s13 Q Q Q Q Q Q Q Q<|fR Q Q<|oZ s9 cL.symm [] [(12,9)] Q Q Q<|fR Q Q<|p5 (hT:=tok) () [12,2,3,4,5,42,7,8,9,43,10,11] hF Q results50 Q Q Q Q)<|bM [163,165] Q Q (eB 15 1 0 32 [24,25,26,27,28,29,30] Q Q Q Q Q (fun _=>dI) fun x12 _=>fun hF=>sR Q<|iW TG 32 [] h5 () Q Q Q Q Q Q Q<|fR Q Q<|l6 aT 14 [35,36,37,38,39,40,41] [] x12 s13 Q Q Q Q Q Q Q Q<|fR Q Q<|oZ s9 cL.symm [] [(12,9)] Q Q Q<|fR Q Q<|p5 (hT:=tok) () [12,2,3,4,5,42,7,8,9,43,10,11] hF Q results50 Q Q Q Q)<|eI 0 6 (z5 t w_) [0,4] (fun(x13:(List aE)) (_:Unit)=>[]) [2,3,4,5,7,8,9,10,11,13] (fun x13 _=>[ow s5 (t.aB.aH.cV:List sC),ow s9 (x13:List aE),.box 0 [.h s1 t.aB.Mem.Heap.Bytes.length,.h s2 t.aB.Mem.Heap.Class.length,.h s3 t.aB.Mem.aA.Global.length,.h s4 t.aB.Mem.aA.Own.length,I t.aB.aH.aM,.h s5 t.aB.aH.cV.length,.h s6 t.aB.bJ.length,.h s7 t.aB.A4.length,.h s8 t.cS.length,.h s9 x13.length,.h s10 t.gZ.length,.h s11 t.Log.length,I t.aS]]) Q (iO aC [1,12,13,16,31,34] Q<|fun hF=>bd hF fun x17 hA1 hF=>dD Q Q (have hq1:=rb hA1;wi hq1<|c0 Q (fun _=>cK) fun u1=>fun hq1=>match u1,hq1 with | _,rfl=>sF Q<|iW TG 32 [] h5 () Q Q Q Q Q Q Q<|fR Q Q<|l6 aT 14 [24,25,26,27,28,29,30] [] (⟨x6.2.2.iY,x6.2.2.Batch,x6.2.2.aS,3,x6.2.2.At,x6.2.2.K,x6.2.2.bT,x6.2.2.fM,x17,x6.2.2.fF,x6.2.2.Node,x6.2.2.Node.Key == x6.1.Key,x6.2.2.Code,x6.2.2.Sub,x6.2.2.Reads,x6.2.2.aJ,x6.2.2.eA,x6.2.2.fL,x6.2.2.aW,x6.2.2.cG⟩:aE) s13 Q Q Q Q Q Q Q Q<|fR Q Q<|oZ s9 cL.symm [] [(12,9)] Q Q Q<|fR Q Q<|lE (p:=(t.aN.set w_.toNat (⟨x6.2.2.iY,x6.2.2.Batch,x6.2.2.aS,3,x6.2.2.At,x6.2.2.K,x6.2.2.bT,x6.2.2.fM,x17,x6.2.2.fF,x6.2.2.Node,x6.2.2.Node.Key == x6.1.Key,x6.2.2.Code,x6.2.2.Sub,x6.2.2.Reads,x6.2.2.aJ,x6.2.2.eA,x6.2.2.fL,x6.2.2.aW,x6.2.2.cG⟩:aE))) () [35,36,12,2,3,4,5,7,8,9,10,11,13] hF Q) ((by refine dD Q Q ?_ ?_ <;> exact have hq2:=rb hA1;wi hq2<|c0 Q (fun _=>cK) fun u2=>fun hq2=>match u2,hq2 with | _,rfl=>sF Q<|iW TG 32 [] h5 () Q Q Q Q Q Q Q<|fR Q Q<|l6 aT 14 [24,25,26,27,28,29,30] [] (⟨x6.2.2.iY,x6.2.2.Batch,x6.2.2.aS,3,x6.2.2.At,x6.2.2.K,x6.2.2.bT,x6.2.2.fM,x17,x6.2.2.fF,x6.2.2.Node,x6.2.2.Node.Key == x6.1.Key,x6.2.2.Code,x6.2.2.Sub,x6.2.2.Reads,x6.2.2.aJ,x6.2.2.eA,x6.2.2.fL,x6.2.2.aW,x6.2.2.cG⟩:aE) s13 Q Q Q Q Q Q Q Q<|fR Q Q<|oZ s9 cL.symm [] [(12,9)] Q Q Q<|fR Q Q<|lE (p:=(t.aN.set w_.toNat (⟨x6.2.2.iY,x6.2.2.Batch,x6.2.2.aS,3,x6.2.2.At,x6.2.2.K,x6.2.2.bT,x6.2.2.fM,x17,x6.2.2.fF,x6.2.2.Node,x6.2.2.Node.Key == x6.1.Key,x6.2.2.Code,x6.2.2.Sub,x6.2.2.Reads,x6.2.2.aJ,x6.2.2.eA,x6.2.2.fL,x6.2.2.aW,x6.2.2.cG⟩:aE))) () [35,36,12,2,3,4,5,7,8,9,10,11,13] hF Q))) fun x13 _=>eD 0 6 (qN t w_ x13) [0,4] 200 [3,4,5,6,0,7,8,9,1,10,11,2,12] Q (fun hF=>ro aT 1 12 1 Q Q Q Q hF fun x16 h9 hF s15=>wi hF<|eS [193,194] Q Q (fun hF=>sF Q<|iW aT 13 [16,17,18,19,20,21,22] h9 s15 Q Q Q Q Q Q Q<|fR Q Q<|lE () [3,4,5,6,0,7,8,9,23,10,11,2,12] hF Q)<|fun hF=>sF Q<|iW aT 13 [16,17,18,19,20,21,22] h9 s15 Q Q Q Q Q Q Q<|fR Q Q<|lE () [3,4,5,6,0,7,8,9,23,10,11,2,12] hF Q) fun x14=>bM [200] Q Q (fun hF=>ro aT 8 12 1 Q Q Q Q hF fun x15 h7 hF s14=>sF Q<|l6 aT 13 [16,17,18,19,20,21,22] [] ({x15 with Pc:=5}:aE) s14 Q Q Q Q Q Q Q Q<|fR Q Q<|oZ s9 cL.symm [] [(11,9)] Q Q Q<|fR Q Q<|p5 (hT:=tok) () [11,0,1,2,3,4,5,6,7,23,9,10] hF Q results50 Q Q Q Q)<|DF () [11,0,1,2,3,4,5,6,7,8,9,10] Q Q)<|eI 0 5 (hY t w_ x6) [0,4,6,7] (fun(x18:Bool) (_:Unit)=>[(46,.b x18)]) [2,3,4,5,6,7,8,9,10,11,13,31] (fun x18 _=>[ow s9 (t.aN.set w_.toNat x6.2.2:List aE),.box 0 [.h s1 t.aB.Mem.Heap.Bytes.length,.h s2 t.aB.Mem.Heap.Class.length,.h s3 t.aB.Mem.aA.Global.length,.h s4 t.aB.Mem.aA.Own.length,I t.aB.aH.aM,.h s5 t.aB.aH.cV.length,.h s6 t.aB.bJ.length,.h s7 t.aB.A4.length,.h s8 t.cS.length,.h s9 (t.aN.set w_.toNat x6.2.2).length,.h s10 t.gZ.length,.h s11 t.Log.length,I t.aS]]) Q (iO aC [1,12,13,16,31] Q<|eS [37,38] Q Q (fun hF=>sF Q<|l6 aT 14 [24,25,26,27,28,29,30] [] x6.2.2 s13 Q Q Q Q Q Q Q Q<|fR Q Q<|oZ s9 cL.symm [] [(12,9)] Q Q Q<|fR Q Q<|lE () [32,12,2,3,4,5,6,7,8,9,10,11,13,31] hF Q)<|fun hF=>sF Q<|l6 aT 14 [24,25,26,27,28,29,30] [] x6.2.2 s13 Q Q Q Q Q Q Q Q<|fR Q Q<|oZ s9 cL.symm [] [(12,9)] Q Q Q<|fR Q Q<|lE () [32,12,2,3,4,5,6,7,8,9,10,11,13,31] hF Q) fun x18 _=>bM [46] Q Q (fun hF=>ro aT 0 12 1 Q Q Q Q hF fun x19 h11 hF s16=>wi hF<|eB 15 1 0 32 [17,18,19,20,21,22,23] Q Q Q Q Q (fun _=>dI) fun x20 _=>fun hF=>sR Q<|l6 aT 14 [24,25,26,27,28,29,30] [] x20 s16 Q Q Q Q Q Q Q Q<|fR Q Q<|oZ s9 cL.symm [] [(1,9)] Q Q Q<|fR Q Q<|p5 (hT:=tok) () [1,2,3,4,5,6,7,8,9,31,10,11] hF Q results50 Q Q Q Q)<|eI 0 5 (fun(p:(List Seen)×Bool)=>z6 t w_ x6 p.1 p.2) [0,4,6,7] (fun(p:(List Seen)×Bool) (s17:AC)=>[(8,.h s17 p.1.length),(9,.b p.2)]) [2,3,4,5,6,7,8,9,0,10,11,1,12,13] (fun p s17=>[ow s17 (p.1:List Seen)]) Q (iO aC [1,12,13] Q<|fun hF=>bd hF fun x28 hA3 hF=>bd hF fun x29 hA4 hF=>aFW Q Q (have hq6:=rb hA3;ro aT 0 12 1 Q Q Q Q hq6 fun u6 h17 hq6 s24=>match u6,hq6 with | _,rfl=>(by refine dD Q Q ?_ ?_ <;> exact have hq7:=rb hA4;wi hq7<|c1 Q (fun h=>JL (h.o 18 Q)) fun u7 s25=>fun hq7=>match u7,hq7 with | _,rfl=>sF Q<|iW aT 14 [17,18,19,20,21,22,23] h17 s24 Q Q Q Q Q Q Q<|fR Q Q<|lE (p:=(x29.1,x29.2)) s25 [24,2,3,4,5,6,7,8,9,25,10,11,1,12,13] hF Q)) (have hq9:=rb hA3;ro aT 0 12 1 Q Q Q Q hq9 fun u9 h19 hq9 s27=>match u9,hq9 with | _,rfl=>(by refine dD Q Q ?_ ?_ <;> exact have hq10:=rb hA4;wi hq10<|c1 Q (fun h=>JL (h.o 18 Q)) fun u10 s28=>fun hq10=>match u10,hq10 with | _,rfl=>sF Q<|iW aT 14 [17,18,19,20,21,22,23] h19 s27 Q Q Q Q Q Q Q<|fR Q Q<|lE (p:=(x29.1,x29.2)) s28 [24,2,3,4,5,6,7,8,9,25,10,11,1,12,13] hF Q)) (have hq12:=rb hA3;ro aT 0 12 1 Q Q Q Q hq12 fun u12 h21 hq12 s30=>match u12,hq12 with | _,rfl=>(by refine dD Q Q ?_ ?_ <;> exact have hq13:=rb hA4;wi hq13<|c1 Q (fun h=>JL (h.o 18 Q)) fun u13 s31=>fun hq13=>match u13,hq13 with | _,rfl=>sF Q<|iW aT 14 [17,18,19,20,21,22,23] h21 s30 Q Q Q Q Q Q Q<|fR Q Q<|lE (p:=(x29.1,x29.2)) s31 [24,2,3,4,5,6,7,8,9,25,10,11,1,12,13] hF Q))) fun⟨x21,x22⟩ s17=>fun hF=>ro aT 9 13 1 Q Q Q Q hF fun x23 h13 hF s18=>wi hF<|bM [81,83] Q Q (eB 16 1 0 32 [18,0,20,21,22,23,24] Q Q Q Q Q (fun _=>dI (j:=({x23 with Reads:=x21}:aE))) fun x24 _=>fun hF=>sF Q<|l6 aT 15 [25,26,27,28,29,30,31] [] x24 (s18.1,s17,s18.2.2.1,s18.2.2.2.1,s18.2.2.2.2.1,s18.2.2.2.2.2.1,s18.2.2.2.2.2.2) Q Q Q Q Q Q Q Q<|fR Q Q<|oZ s9 cL.symm [] [(12,9)] Q Q Q<|fR Q Q<|p5 (hT:=tok) () [12,1,2,3,4,5,6,7,8,32,10,11] hF Q results50 Q Q Q Q)<|bM [86,88] Q Q (eB 16 1 0 32 [18,0,20,21,22,23,24] Q Q Q Q Q (fun _=>dI (j:=({x23 with Reads:=x21}:aE))) fun x25 _=>fun hF=>sF Q<|l6 aT 15 [25,26,27,28,29,30,31] [] x25 (s18.1,s17,s18.2.2.1,s18.2.2.2.1,s18.2.2.2.2.1,s18.2.2.2.2.2.1,s18.2.2.2.2.2.2) Q Q Q Q Q Q Q Q<|fR Q Q<|oZ s9 cL.symm [] [(12,9)] Q Q Q<|fR Q Q<|p5 (hT:=tok) () [12,1,2,3,4,5,6,7,8,32,10,11] hF Q results50 Q Q Q Q)<|eI 0 5 (I3 t) [0] (fun(x26:(List aE)) (_:Unit)=>[]) [1,2,3,4,5,6,7,8,10,11] (fun x26 _=>[ow s9 (x26:List aE),.box 0 [.h s1 t.aB.Mem.Heap.Bytes.length,.h s2 t.aB.Mem.Heap.Class.length,.h s3 t.aB.Mem.aA.Global.length,.h s4 t.aB.Mem.aA.Own.length,I t.aB.aH.aM,.h s5 t.aB.aH.cV.length,.h s6 t.aB.bJ.length,.h s7 t.aB.A4.length,.h s8 t.cS.length,.h s9 x26.length,.h s10 t.gZ.length,.h s11 t.Log.length,I t.aS]]) Q (iO aC [12,13,14,17] Q<|fun hF=>bd hF fun x27 hA2 hF=>(by refine dD Q Q ?_ ?_ <;> exact have hq4:=rb hA2;wi hq4<|eB 16 1 0 32 [18,0,20,21,22,23,24] Q Q Q Q Q (fun _=>JK (j:=({x23 with Reads:=x21}:aE))) fun u4 s20=>fun hq4=>match u4,hq4 with | _,rfl=>sF Q<|l6 aT 15 [25,26,27,28,29,30,31] [] x27 (s18.1,s17,s20.1,s20.2,s18.2.2.2.2.1,s18.2.2.2.2.2.1,s18.2.2.2.2.2.2) Q Q Q Q Q Q Q Q<|fR Q Q<|oZ s9 cL.symm [] [(12,9)] Q Q Q<|fR Q Q<|lE (p:=((t.aN.set w_.toNat x6.2.2).set w_.toNat x27)) () [32,12,1,2,3,4,5,6,7,8,10,11] hF Q)) fun x26 _=>DF () [1,2,3,4,5,6,7,8,9,0,10,11] Q Q
theorem A1{l:List aU}{n:Int}{s1:AC}(h1:bY κ s1 l):V0 prog κ 109 (NO l n) [.h s1 l.length,I n] I:=
 cT tok call109 func109 results109 Q Q<|fun hF=>a1U Q Q Q Q<|a3T Q Q Q Q<|aU4 Q Q Q Q Q h1 Q Q hF fun hF s2 h2=>wi hF<|S2 () [14,15] (fun(p:Int×Int) (_:Unit)=>[(5,I p.1),(16,I p.2)]) [] [] (fun p _=>[]) id [] (fun(x5:Int) (_:Unit)=>[(5,I x5)]) [] (fun x5 _=>[]) Q Q (fun hF1 ⟨x3,x4⟩ _ hr1=>bM [17] Q Q (eI 2 0 (CK x4) [14,15,16] (fun(x6:Int) (_:Unit)=>[(5,I x6)]) [] (fun x6 _=>[]) Q (A6 D4 Q h2 Q fun x7 _ _=>bM [22] Q Q (cA [] Q Q)<|cA [] Q Q) fun x6 _=>DG [] Q)<|A3 [] Q) fun x5 _=>cO Q Q
theorem VC{t:Table}{w_:Int}{s1 s2 s3 s4 s5 s6 s7 s8 s9 s10 s11:AC}{b0:Nat×Nat}:VS prog κ 51 (vS t w_) [.p 0 0,I w_] [b0] ([.box 0 (QA t s1 s2 s3 s4 s5 s6 s7 s8 s9 s10 s11)]++(QX t s1 s2 s3 s4 s5 s6 s7 s8 s9 s10 s11 [])) (fun(r:Table) (y:A6C)=>.t []) (fun(r:Table) (y:A6C)=>([.box 0 (QA r y.1 y.2.1 y.2.2.1 y.2.2.2.1 y.2.2.2.2.1 y.2.2.2.2.2 s7 s8 s9 s10 s11)]++(QX r y.1 y.2.1 y.2.2.1 y.2.2.2.1 y.2.2.2.2.1 y.2.2.2.2.2 s7 s8 s9 s10 s11 []))):=
 cT tok call51 func51 results51 Q Q<|qA aT 9 Q Q Q fun x1 h1 s12 h2=>fun hF=>l5 1 h2 h1 Q Q Q Q Q<|wi hF<|eI 0 2 (wY t w_) [0,1,4] (fun(x2:Bool) (_:Unit)=>[(25,.b x2)]) [1,2,3,4,5,6,7,8,10,11,0,14] (fun x2 _=>[ow s9 (t.aN:List aE)]) Q (iO aC [0,14] Q<|fun hF=>bd hF fun x16 hA5 hF=>aFW Q Q ((by refine dD Q Q ?_ ?_ <;> exact have hq10:=rb hA5;wi hq10<|c0 Q (fun h=>A1 (h.o 17 Q)) fun u7=>fun hq10=>match u7,hq10 with | _,rfl=>sF Q<|iW aT 12 [15,16,17,18,19,20,21] h1 s12 Q Q Q Q Q Q Q<|fR Q Q<|lE (p:=(decide (x16<=x1.K))) () [22,1,2,3,4,5,6,7,8,10,11,0,14] hF Q)) (dD Q Q (have hq12:=rb hA5;wi hq12<|c0 Q (fun h=>A1 (h.o 17 Q)) fun u9=>fun hq12=>match u9,hq12 with | _,rfl=>sF Q<|iW aT 12 [15,16,17,18,19,20,21] h1 s12 Q Q Q Q Q Q Q<|fR Q Q<|lE (p:=(decide (x16<=x1.K))) () [22,1,2,3,4,5,6,7,8,10,11,0,14] hF Q) ((by refine dD Q Q ?_ ?_ <;> exact have hq13:=rb hA5;wi hq13<|c0 Q (fun h=>A1 (h.o 17 Q)) fun u10=>fun hq13=>match u10,hq13 with | _,rfl=>sF Q<|iW aT 12 [15,16,17,18,19,20,21] h1 s12 Q Q Q Q Q Q Q<|fR Q Q<|lE (p:=(decide (x16<=x1.K))) () [22,1,2,3,4,5,6,7,8,10,11,0,14] hF Q))) (dD Q Q (have hq15:=rb hA5;wi hq15<|c0 Q (fun h=>A1 (h.o 17 Q)) fun u12=>fun hq15=>match u12,hq15 with | _,rfl=>sF Q<|iW aT 12 [15,16,17,18,19,20,21] h1 s12 Q Q Q Q Q Q Q<|fR Q Q<|lE (p:=(decide (x16<=x1.K))) () [22,1,2,3,4,5,6,7,8,10,11,0,14] hF Q) ((by refine dD Q Q ?_ ?_ <;> exact have hq16:=rb hA5;wi hq16<|c0 Q (fun h=>A1 (h.o 17 Q)) fun u13=>fun hq16=>match u13,hq16 with | _,rfl=>sF Q<|iW aT 12 [15,16,17,18,19,20,21] h1 s12 Q Q Q Q Q Q Q<|fR Q Q<|lE (p:=(decide (x16<=x1.K))) () [22,1,2,3,4,5,6,7,8,10,11,0,14] hF Q)))) fun x2 _=>bM [25] Q Q (fun hF=>ro aT 0 12 1 Q Q Q Q hF fun x3 h3 hF s13=>sR Q<|l6 aT 13 [16,17,18,19,20,21,22] [] ({x3 with Pc:=7,K:=0}:aE) s13 Q Q Q Q Q Q Q Q<|fR Q Q<|oZ s9 cL.symm [] [(11,9)] Q Q Q<|fR Q Q<|p5 (hT:=tok) (s1,s2,s3,s4,s5,s6) [11,1,2,3,4,5,6,7,8,23,9,10] hF Q results51 Q Q Q Q)<|iO aC [12] Q<|fun hF=>ro aT 0 12 1 Q Q Q Q hF fun x4 h5 hF s14=>wi hF<|aJB 14 1 16 10 11 0 0 8 [1,2,3,4,5,6,7] Q Q Q Q Q (fun _=>GN) fun x5 s15=>bM [66,72] Q Q (fun hF=>sF Q<|l6 aT 13 [16,17,18,19,20,21,22] [] ({x4 with Sub:=x5.1}:aE) s14 Q Q Q Q Q Q Q Q<|fR Q Q<|oZ s9 cL.symm [] [(11,9)] Q Q Q<|fR Q Q<|p5 (hT:=tok) s15 [11,23,24,25,26,27,28,29,8,30,9,10] hF Q results51 Q Q Q Q)<|eI 0 2 (fun(p:Bool×Table)=>fX w_ p.1 p.2) [0,4] (fun(p:Bool×Table) (_:Unit)=>[(73,.b p.1)]) [12] (fun p _=>(QX p.2 s15.1 s15.2.1 s15.2.2.1 s15.2.2.2.1 s15.2.2.2.2.1 s15.2.2.2.2.2 s7 s8 s9 s10 s11 [.box 0 (QA p.2 s15.1 s15.2.1 s15.2.2.1 s15.2.2.2.1 s15.2.2.2.2.1 s15.2.2.2.2.2 s7 s8 s9 s10 s11)])) Q (eS [79,80] Q Q (fun hF=>sF Q<|l6 aT 13 [16,17,18,19,20,21,22] [] ({x4 with Sub:=x5.1}:aE) s14 Q Q Q Q Q Q Q Q<|fR Q Q<|oZ s9 cL.symm [] [(11,9)] Q Q Q<|fR Q Q<|lE (p:=(true,({t with aB:=x5.2,aN:=t.aN.set w_.toNat ({x4 with Sub:=x5.1}:aE)}:Table))) () [23,24,25,26,27,28,29,8,30,9,10,11,12] hF Q)<|c0 Q (fun _=>kS) fun x15=>eS [87,88,89] Q Q (fun hF=>sF Q<|l6 aT 13 [16,17,18,19,20,21,22] [] ({x4 with Sub:=x5.1}:aE) s14 Q Q Q Q Q Q Q Q<|fR Q Q<|oZ s9 cL.symm [] [(11,9)] Q Q Q<|fR Q Q<|lE (p:=(true,({t with aB:=x5.2,aN:=t.aN.set w_.toNat ({x4 with Sub:=x5.1}:aE)}:Table))) () [23,24,25,26,27,28,29,8,30,9,10,11,12] hF Q)<|fun hF=>sF Q<|l6 aT 13 [16,17,18,19,20,21,22] [] ({x4 with Sub:=x5.1}:aE) s14 Q Q Q Q Q Q Q Q<|fR Q Q<|oZ s9 cL.symm [] [(11,9)] Q Q Q<|fR Q Q<|lE (p:=(decide (6<=(x4.fL.length:Int)),({t with aB:=x5.2,aN:=t.aN.set w_.toNat ({x4 with Sub:=x5.1}:aE)}:Table))) () [23,24,25,26,27,28,29,8,30,9,10,11,12] hF Q) fun⟨x6,x7⟩ _=>bM [73] Q Q (fun hF=>ro aT 8 12 1 Q Q Q Q hF fun x8 h7 hF s16=>wi hF<|eB 14 1 0 32 [16,17,18,19,20,21,22] Q Q Q Q Q (fun _=>dI) fun x9 _=>fun hF=>sF Q<|l6 aT 13 [23,24,25,26,27,28,29] [] x9 s16 Q Q Q Q Q Q Q Q<|fR Q Q<|oZ s9 cL.symm [] [(11,9)] Q Q Q<|fR Q Q<|p5 (hT:=tok) s15 [11,0,1,2,3,4,5,6,7,30,9,10] hF Q results51 Q Q Q Q)<|eI 0 2 (wX w_) [0,4] (fun(x10:Table) (_:Unit)=>[]) [12] (fun x10 _=>(QX x10 s15.1 s15.2.1 s15.2.2.1 s15.2.2.2.1 s15.2.2.2.2.1 s15.2.2.2.2.2 s7 s8 s9 s10 s11 [.box 0 (QA x10 s15.1 s15.2.1 s15.2.2.1 s15.2.2.2.1 s15.2.2.2.2.1 s15.2.2.2.2.2 s7 s8 s9 s10 s11)])) Q (iO aC [11,12] Q<|fun hF=>bd hF fun x14 hA3 hF=>nd hF fun hA4 hF=>dD Q Q (have hq5:=rb hA3;ro aT 8 12 1 Q Q Q Q hq5 fun u5 h17 hq5 s23=>match u5,hq5 with | _,rfl=>lt1 Q bH Q Q Q Q fun s24=>have hq6:=rn hA4;ap 20 bH Q Q Q Q Q Q Q (fun h=>(h.o 23 Q)) Q Q hq6 fun hq6 s25=>sF Q<|l6 aT 13 [16,17,18,19,20,21,22] [] ({x14 with fL:=x14.fL++([x14.Sub.Out])}:aE) (s23.1,s23.2.1,s23.2.2.1,s23.2.2.2.1,s25,s23.2.2.2.2.2.1,s23.2.2.2.2.2.2) Q Q Q Q Q Q Q Q<|fR Q Q<|oZ s9 cL.symm [] [(11,9)] Q Q Q<|fR Q Q<|lE (p:=(({x7 with aN:=x7.aN.set w_.toNat ({x14 with fL:=x14.fL++([x14.Sub.Out])}:aE)}:Table))) () [0,1,2,3,4,5,6,7,24,9,10,11,12] hF Q) (have hq7:=rb hA3;ro aT 8 12 1 Q Q Q Q hq7 fun u6 h19 hq7 s26=>match u6,hq7 with | _,rfl=>(by refine dD Q Q ?_ ?_ <;> exact lt1 Q bH Q Q Q Q fun s27=>have hq8:=rn hA4;ap 20 bH Q Q Q Q Q Q Q (fun h=>(h.o 23 Q)) Q Q hq8 fun hq8 s28=>sF Q<|l6 aT 13 [16,17,18,19,20,21,22] [] ({x14 with fL:=x14.fL++([x14.Sub.Out])}:aE) (s26.1,s26.2.1,s26.2.2.1,s26.2.2.2.1,s28,s26.2.2.2.2.2.1,s26.2.2.2.2.2.2) Q Q Q Q Q Q Q Q<|fR Q Q<|oZ s9 cL.symm [] [(11,9)] Q Q Q<|fR Q Q<|lE (p:=(({x7 with aN:=x7.aN.set w_.toNat ({x14 with fL:=x14.fL++([x14.Sub.Out])}:aE)}:Table))) () [0,1,2,3,4,5,6,7,24,9,10,11,12] hF Q))) fun x10 _=>eI 0 2 wW [0] (fun(x11:Table) (_:Unit)=>[]) [] (fun x11 _=>(QX x11 s15.1 s15.2.1 s15.2.2.1 s15.2.2.2.1 s15.2.2.2.2.1 s15.2.2.2.2.2 s7 s8 s9 s10 s11 [.box 0 (QA x11 s15.1 s15.2.1 s15.2.2.1 s15.2.2.2.1 s15.2.2.2.2.1 s15.2.2.2.2.2 s7 s8 s9 s10 s11)])) Q (iO aC [11,12] Q<|fun hF=>bd hF fun x12 hA1 hF=>bd hF fun x13 hA2 hF=>dD Q Q (have hq1:=rb hA1;ro aT 8 12 1 Q Q Q Q hq1 fun u1 h11 hq1 s18=>match u1,hq1 with | _,rfl=>have hq2:=rb hA2;wi hq2<|c0 Q (fun _=>oC) fun u2=>fun hq2=>match u2,hq2 with | _,rfl=>sF Q<|l6 aT 13 [16,17,18,19,20,21,22] [] ({x12 with K:=aX (x12.K+1),Sub:=x13}:aE) s18 Q Q Q Q Q Q Q Q<|fR Q Q<|oZ s9 cL.symm [] [(11,9)] Q Q Q<|fR Q Q<|lE (p:=(({x10 with aN:=x10.aN.set w_.toNat ({x12 with K:=aX (x12.K+1),Sub:=x13}:aE)}:Table))) () [0,1,2,3,4,5,6,7,23,9,10,11] hF Q) (have hq3:=rb hA2;wi hq3<|c0 Q (fun _=>oC) fun u3=>fun hq3=>match u3,hq3 with | _,rfl=>have hq4:=rb hA1;ro aT 8 12 1 Q Q Q Q hq4 fun u4 h13 hq4 s19=>match u4,hq4 with | _,rfl=>sF Q<|l6 aT 13 [16,17,18,19,20,21,22] [] ({x12 with K:=aX (x12.K+1),Sub:=x13}:aE) s19 Q Q Q Q Q Q Q Q<|fR Q Q<|oZ s9 cL.symm [] [(11,9)] Q Q Q<|fR Q Q<|lE (p:=(({x10 with aN:=x10.aN.set w_.toNat ({x12 with K:=aX (x12.K+1),Sub:=x13}:aE)}:Table))) () [0,1,2,3,4,5,6,7,23,9,10,11] hF Q)) fun x11 _=>DF s15 [11,0,1,2,3,4,5,6,7,8,9,10] Q Q
theorem QD{x:Int}:V0 prog κ 276 (cmp_isNaN_int x) [I x] .b:=
 cT tok call276 func276 results276 Q Q<|cO Q Q
theorem R3{x y:Int}:V0 prog κ 252 (cmp_Less_int x y) [I x,I y] .b:=
 cT tok call252 func252 results252 Q Q<|eD 0 0 rJ [] 4 [] Q (c0 Q (fun _=>QD) fun x2=>eS [6,7] Q Q (c0 Q (fun _=>QD) fun x3=>eS [10,11,12] Q Q (cA [] Q Q)<|cA [] Q Q)<|cA [] Q Q) fun x1=>cO Q Q
theorem A5{data:List Int}{a_ b:Int}{s1:AC}:VS prog κ 246 (gG data a_ b) [.h s1 data.length,I a_,I b] [] [ow s1 (data:List Int)] (fun(r:(List Int)) (y:Unit)=>.t []) (fun(r:(List Int)) (y:Unit)=>[.o (aZ [AC.v s1 data.length] r)]):=
 cT tok call246 func246 results246 Q Q<|S2 () [1,2] (fun(p:(List Int)×Int) (_:Unit)=>[(0,.h s1 p.1.length),(6,I p.2)]) [0] [] (fun p _=>[ow s1 (p.1:List Int)]) id [] (fun(x5:(List Int)) (_:Unit)=>[(0,.h s1 x5.length)]) [] (fun x5 _=>[ow s1 (x5:List Int)]) Q Q (fun hF1 ⟨x3,x4⟩ _ hr1=>fun hG1=>nd hG1 fun hl3 hG1=>wi hG1<|bM [12] Q Q (S2 () [1,2,6] (fun(p:(List Int)×Int) (_:Unit)=>[(0,.h s1 p.1.length),(7,I p.2)]) [0] [] (fun p _=>[ow s1 (p.1:List Int)]) id [1,2,6] (fun(x10:(List Int)) (_:Unit)=>[(0,.h s1 x10.length)]) [] (fun x10 _=>[ow s1 (x10:List Int)]) Q Q (fun hF2 ⟨x8,x9⟩ _ hr2=>fun hG2=>nd hG2 fun hl6 hG2=>wi hG2<|eD 0 0 (dA data x8 x9) [0,1,2,6,7] 30 [0] Q (iO aC [] Q<|eS [18,19] Q Q (qA oI 0 Q Q Q fun x16 h27 _ h28=>fun hG2=>l5 0 h28 h27 Q Q Q Q Q<|cqS oI 1 [] h27 () Q Q Q Q Q Q Q Q Q<|wi hG2<|qA oI 4 Q Q Q fun x17 h29 _ h30=>fun hG2=>l5 1 h30 h29 Q Q Q Q Q<|bd hG2 fun x18 hA2 hG2=>dD Q Q (cqS oI 5 [] h29 () Q Q Q Q Q Q Q Q Q<|have hq8:=rb h27;ro oI 8 3 0 Q Q Q Q hq8 fun u8 h35 hq8 _=>match u8,hq8 with | _,rfl=>cqS oI 9 [] h35 () Q Q Q Q Q Q Q Q Q<|have hq9:=rb h29;ro oI 12 7 1 Q Q Q Q hq9 fun u9 h37 hq9 _=>match u9,hq9 with | _,rfl=>have hq10:=rb hA2;wi hq10<|c0 Q (fun _=>R3) fun u10=>fun hq10=>match u10,hq10 with | _,rfl=>sF Q<|iW oI 13 [] h37 () Q Q Q Q Q Q Q<|lE (p:=(x18)) () [16] hG2 Q) (cqS oI 5 [] h29 () Q Q Q Q Q Q Q Q Q<|have hq11:=rb h27;ro oI 8 3 0 Q Q Q Q hq11 fun u11 h39 hq11 _=>match u11,hq11 with | _,rfl=>have hq12:=rb hA2;wi hq12<|c0 Q (fun _=>R3) fun u12=>fun hq12=>match u12,hq12 with | _,rfl=>sF Q<|iW oI 9 [] h39 () Q Q Q Q Q Q Q<|lE (p:=(x18)) () [12] hG2 Q))<|cA (p:=(false)) [0] Q Q) fun x11=>fun hG2=>nd hG2 fun hl7 hG2=>wi hG2<|bM [30] Q Q (eI 0 0 (iB data x9) [1,2,6,7] (fun(x12:(List Int)) (_:Unit)=>[(0,.h s1 x12.length)]) [] (fun x12 _=>[ow s1 (x12:List Int)]) Q (iO aC [] Q<|qA oI 0 Q Q Q fun x13 h1 _ h2=>fun hG2=>l5 0 h2 h1 Q Q Q Q Q<|cqS oI 1 [] h1 () Q Q Q Q Q Q Q Q Q<|wi hG2<|qA oI 4 Q Q Q fun x14 h3 _ h4=>fun hG2=>l5 1 h4 h3 Q Q Q Q Q<|bd hG2 fun x15 hA1 hG2=>dD Q Q (cqS oI 5 [] h3 () Q Q Q Q Q Q Q Q Q<|have hq1:=rb h1;ro oI 8 3 0 Q Q Q Q hq1 fun u1 h13 hq1 _=>match u1,hq1 with | _,rfl=>cqS oI 9 [] h13 () Q Q Q Q Q Q Q Q Q<|have hq2:=rb h3;ro oI 12 7 1 Q Q Q Q hq2 fun u2 h15 hq2 _=>match u2,hq2 with | _,rfl=>cqS oI 13 [] h15 () Q Q Q Q Q Q Q Q Q<|have hq3:=rb h3;wi hq3<|qA oI 16 Q Q Q fun u3 h17 _ h18=>fun hq3=>l5 2 h18 h17 Q Q Q Q Q<|match u3,hq3 with | _,rfl=>ceS oI 17 [] [0,33,35,38,43] x13 () Q Q Q Q Q Q Q Q Q Q<|have hq4:=rb hA1;wi hq4<|qA oI 20 Q Q Q fun u4 h19 _ h20=>fun hq4=>l5 3 h20 h19 Q Q Q Q Q<|match u4,hq4 with | _,rfl=>sF Q<|l6 oI 21 [] [0,33,35,38,43] x14 () Q Q Q Q Q Q Q Q<|lE (p:=((x8.set x9.toNat x13).set ((aX (x9 - 1)).toNat) x14)) () [24] hG2 Q) (cqS oI 5 [] h3 () Q Q Q Q Q Q Q Q Q<|have hq5:=rb h1;ro oI 8 3 0 Q Q Q Q hq5 fun u5 h21 hq5 _=>match u5,hq5 with | _,rfl=>cqS oI 9 [] h21 () Q Q Q Q Q Q Q Q Q<|have hq6:=rb h3;wi hq6<|qA oI 12 Q Q Q fun u6 h23 _ h24=>fun hq6=>l5 2 h24 h23 Q Q Q Q Q<|match u6,hq6 with | _,rfl=>ceS oI 13 [] [0,33,35,38,43] x13 () Q Q Q Q Q Q Q Q Q Q<|have hq7:=rb hA1;wi hq7<|qA oI 16 Q Q Q fun u7 h25 _ h26=>fun hq7=>l5 3 h26 h25 Q Q Q Q Q<|match u7,hq7 with | _,rfl=>sF Q<|l6 oI 17 [] [0,33,35,38,43] x14 () Q Q Q Q Q Q Q Q<|lE (p:=((x8.set x9.toNat x13).set ((aX (x9 - 1)).toNat) x14)) () [20] hG2 Q)) fun x12 _=>fun hG2=>nd hG2 fun hl8 hG2=>wi hG2<|DG [0] Q)<|A3 [0] Q) fun x10 _=>fun hG1=>nd hG1 fun hl5 hG1=>wi hG1<|DG [0] Q)<|A3 [0] Q) fun x5 _=>fun hF=>nd hF fun hl2 hF=>sF Q<|pnR 0 hl2 Q<|p5 (hT:=tok) () [0] hF Q results246 Q Q Q Q
theorem IC{data:List Int}{a_ b limit:Int}{s1:AC}:VS prog κ 208 (mW data a_ b limit) [.h s1 data.length,I a_,I b,I limit] [] [ow s1 (data:List Int)] (fun(r:(List Int)) (y:Unit)=>.t []) (fun(r:(List Int)) (y:Unit)=>[.o (aZ [AC.v s1 data.length] r)]):=
 cT tok call208 func208 results208 Q Q<|lrW () [0,1,2,3,8,9] (fun(_:Unit) (_:Unit)=>[]) [0] [0] (fun _ _=>[]) Q Q (fun hF1 _ _ hr1=>bM [23] Q Q (J1 [0] Q Q Q Q (fun _=>A5) fun x1 _=>fun hG1=>un 1 [0,24] [] [] Q Q Q Q Q Q fun hl2=>sR Q<|pnR 1 hl2 Q<|p5 (hT:=tok) () [1] (re hG1 Q hr1 hF1) Q results208 Q Q Q Q)<|bM [29] Q Q (fun hG1=>nomatch hG1)<|fun hG1=>nomatch hG1)
theorem W4{x:Int}:V0 prog κ 256 (PY x) [.i .u64 x] I:=
 cT tok call256 func256 results256 Q Q<|eI 0 0 (fun(p:Int×Int)=>AB p.1 p.2) [] (fun(p:Int×Int) (_:Unit)=>[(0,.i .u64 p.1),(2,I p.2)]) [] (fun p _=>[]) Q (bM [4] Q Q (cA (p:=(nH .u64 x 32,32)) [] Q Q)<|cA (p:=(x,0)) [] Q Q) fun⟨x1,x2⟩ _=>eI 0 0 (fun(p:Int×Int)=>AA p.1 p.2) [] (fun(p:Int×Int) (_:Unit)=>[(0,.i .u64 p.1),(2,I p.2)]) [] (fun p _=>[]) Q (bM [8] Q Q (cA (p:=(nH .u64 x1 16,aX (x2+16))) [] Q Q)<|cA (p:=(x1,x2)) [] Q Q) fun⟨x3,x4⟩ _=>eI 0 0 (fun(p:Int×Int)=>z8 p.1 p.2) [] (fun(p:Int×Int) (_:Unit)=>[(0,.i .u64 p.1),(2,I p.2)]) [] (fun p _=>[]) Q (bM [14] Q Q (cA (p:=(nH .u64 x3 8,aX (x4+8))) [] Q Q)<|cA (p:=(x3,x4)) [] Q Q) fun⟨x5,x6⟩ _=>fun hF=>qsi Q Q Q Q Q hF fun x7 _ hF=>wi hF<|cO Q Q
theorem aA5{x:Int}:V0 prog κ 209 (xO x) [.i .u64 x] I:=
 cT tok call209 func209 results209 Q Q<|c0 Q (fun _=>W4) fun x1=>cO Q Q
theorem W5{x:List Int}{s1:AC}:VS prog κ 159 (yY x) [.h s1 x.length] [] [ow s1 (x:List Int)] (fun(r:(List Int)) (y:Unit)=>.t []) (fun(r:(List Int)) (y:Unit)=>[.o (aZ [AC.v s1 x.length] r)]):=
 cT tok call159 func159 results159 Q Q<|c0 Q (fun _=>aA5) fun x1=>J1 [0] Q Q Q Q (fun _=>IC) fun x2 _=>fun hF=>un 1 [0,3,5] [] [] Q Q Q Q Q Q fun hl1=>sF Q<|pnR 1 hl1 Q<|p5 (hT:=tok) () [1] hF Q results159 Q Q Q Q
theorem R4{s:List Int}{s1:AC}:VS prog κ 160 (slices_Compact_int s) [.h s1 s.length] [] [ow s1 s] (fun r (y:AC)=>.h y r.length) (fun r y=>[ow y r]):=
 a5U a4E call160
theorem aD8{l:List aU}{s1:AC}(h1:bY κ s1 l):VS prog κ 111 (HX l) [.h s1 l.length] [] [] (fun r (y:AC)=>.h y r.length) (fun r y=>[ow y r]):=
 cT tok call111 func111 results111 Q Q<|fun hF=>lt0 (α:=Int) bH Q Q Q Q fun s2=>wi hF<|S2 s2 [8,9] (fun(p:(List Int)×Int) (s4:AC)=>[(3,.h s4 p.1.length),(10,I p.2)]) [0] [] (fun p s4=>[ow s4 (p.1:List Int)]) id [] (fun(x5:(List Int)) (s5:AC)=>[(3,.h s5 x5.length)]) [] (fun x5 s5=>[ow s5 (x5:List Int)]) Q Q (fun hF1 ⟨x3,x4⟩ s4 hr1=>bM [11] Q Q (eI 2 0 (yZ x4) [8,9,10] (fun(x8:(List Int)) (s7:AC)=>[(3,.h s7 x8.length)]) [] (fun x8 s7=>[ow s7 (x8:List Int)]) Q (A6 D4 Q h1 Q fun x9 _ _=>c0 Q (fun _=>O0) fun x10=>bM [18] Q Q (fun hG1=>lt1 Q bH Q Q Q Q fun s8=>ap 0 bH Q Q Q Q Q Q Q (fun h=>(h.o 3 Q)) Q Q hG1 fun hG1 s9=>wi hG1<|vB s9 [0] Q Q)<|vB s4 [0] Q Q) fun x8 s7=>nxW s7 [0] Q)<|bkW s4 [0] Q) fun x5 s5=>wm (F:=F9 x5) Q<|J1 [0] Q Q Q Q (fun _=>W5) fun x6 _=>fun hF=>un 1 [3,24] [] [] Q Q Q Q Q Q fun hl2=>wi hF<|J1 [1] Q Q Q Q (fun _=>R4) fun x7 s6=>lS s6 [2] Q Q
theorem JM{s:List Seen}{f:(Seen->Option Bool)}{s1:AC}{g_f:FuncId}{cap_f:List Value}(h1:bY κ s1 s)(h_f:V6 prog κ (ZI:E2 Seen) .b g_f cap_f f):V0 prog κ 112 (g9 s f) [.h s1 s.length,.k (.func (.func g_f) #[] cap_f.toArray)] .b:=
 cT tok call112 func112 results112 Q Q<|c0 Q (fun h=>A0 (h.a h1) (h.u1 h_f)) fun x1=>cO Q Q
theorem TM{s:Seen}{k0:Int}{k1:bT}{b0 b1 b2:Nat×Nat}:VS prog κ 113 (tE s k0 k1) [.g [I s.bT,I s.fM],.p 0 0,.p 1 0] [b0,b1,b2] [.ro 0 [I k0],.ro 1 [.p 2 0],.ro 2 [I k1.Head,I k1.fM,I k1.fO]] (fun r (_:Unit)=>.b r) (fun _ _=>[]):=
 cT tok call113 func113 results113 Q Q<|eD 0 4 nR [] 4 [] Q (iO aC [0,1,2,3] Q<|eS [8,9] Q Q (cA [] Q Q)<|cA [] Q Q) fun x1=>cO Q Q
theorem W6{t:Table}{w_:Int}{s1 s2 s3 s4 s5 s6 s7 s8 s9 s10 s11:AC}{b0:Nat×Nat}:VS prog κ 52 (y5 t w_) [.p 0 0,I w_] [b0] ([.box 0 (QA t s1 s2 s3 s4 s5 s6 s7 s8 s9 s10 s11)]++(QX t s1 s2 s3 s4 s5 s6 s7 s8 s9 s10 s11 [])) (fun(r:Table) (y:AC)=>.t []) (fun(r:Table) (y:AC)=>([.box 0 (QA r s1 s2 s3 s4 s5 s6 s7 s8 s9 s10 y)]++(QX r s1 s2 s3 s4 s5 s6 s7 s8 s9 s10 y []))):=
 cT tok call52 func52 results52 Q Q<|qA aT 9 Q Q Q fun x1 h1 s12 h2=>fun hF=>l5 1 h2 h1 Q Q Q Q Q<|wi hF<|c1 Q (fun h=>aD8 (h.o 17 Q)) fun x2 s13=>eI 0 2 (fun(p:(List bT)×(List aE))=>mE t w_ x2 p.1 p.2) [0,1,4,5] (fun(p:(List bT)×(List aE)) (_:Unit)=>[]) [22,1,2,3,4,5,6,7,10,11,14] (fun p _=>[ow s8 (p.1:List bT),ow s9 (p.2:List aE),.box 0 [.h s1 t.aB.Mem.Heap.Bytes.length,.h s2 t.aB.Mem.Heap.Class.length,.h s3 t.aB.Mem.aA.Global.length,.h s4 t.aB.Mem.aA.Own.length,I t.aB.aH.aM,.h s5 t.aB.aH.cV.length,.h s6 t.aB.bJ.length,.h s7 t.aB.A4.length,.h s8 p.1.length,.h s9 p.2.length,.h s10 t.gZ.length,.h s11 t.Log.length,I t.aS]]) Q (bM [25] Q Q (qA oI 22 Q Q Q fun x7 h7 _ h8=>fun hF=>l5 2 h8 h7 Q Q Q Q Q<|cqS oI 23 [] h7 () Q Q Q Q Q Q Q Q Q<|wi hF<|iO aC [0,14,25,26] Q<|qA uS 8 Q Q Q fun x8 h9 _ h10=>fun hF=>l5 4 h10 h9 Q Q Q Q Q<|wi hF<|eI 0 6 (gK t w_ x2 x7) [0,1,4,5,6,7] (fun(x9:Bool) (_:Unit)=>[(39,.b x9)]) [27,1,2,3,4,5,6,7,10,11,0,14,30] (fun x9 _=>[ow s8 (t.cS:List bT),ow s9 (t.aN:List aE),.ro 3 [I x7],.ro 5 [.p 4 0]]) Q (fun hF=>shS [3,5] Q Q<|wi hF<|eS [44,45] Q Q (fun hF=>sF Q<|iW uS 28 [] h9 () Q Q Q Q Q Q Q<|fR Q Q<|iW aT 12 [15,16,17,18,19,20,21] h1 s12 Q Q Q Q Q Q Q<|fR Q Q<|lE () [32,33,26,31,27,1,2,3,4,5,6,7,10,11,0,14,30] hF Q)<|fun hF=>mf [3,5] Q Q Q<|wi hF<|clP (n3:=4) [26,31,29] Q Q Q Q (fun h=>fun hB=>JM (h.o 16 Q) (fkP (xs:=[.p 0 0,.p 1 0]) call113 hB Q fun _ _=>TM)) fun x19=>fun hF=>sF Q<|iW uS 28 [] h9 () Q Q Q Q Q Q Q<|fR Q Q<|iW aT 12 [15,16,17,18,19,20,21] h1 s12 Q Q Q Q Q Q Q<|fR Q Q<|lE () [32,33,26,31,27,1,2,3,4,5,6,7,10,11,0,14,30] hF Q) fun x9 _=>bM [39] Q Q (fun hF=>ro aT 1 15 1 Q Q Q Q hF fun x10 h11 hF s25=>wi hF<|eB 18 1 0 32 [20,21,22,23,24,25,26] Q Q Q Q Q (fun _=>dI) fun x11 _=>fun hF=>sR Q<|l6 aT 17 [27,28,29,30,31,32,33] [] x11 s25 Q Q Q Q Q Q Q Q<|fR Q Q<|oZ s9 cL.symm [] [(14,9)] Q Q Q<|fR Q Q<|p5 (hT:=tok) s11 [14,5,6,7,8,9,10,11,0,34,12,13] hF Q results52 Q Q Q Q)<|fun hF=>ro uS 0 16 4 Q Q Q Q hF fun x12 h13 hF _=>wi hF<|bM [55,60] Q Q (fun hF=>ro aT 1 15 1 Q Q Q Q hF fun x13 h15 hF s26=>wi hF<|eB 21 1 0 32 [23,24,25,26,27,28,29] Q Q Q Q Q (fun _=>dI) fun x14 _=>fun hF=>sR Q<|l6 aT 20 [30,31,32,33,34,35,36] [] x14 s26 Q Q Q Q Q Q Q Q<|fR Q Q<|oZ s9 cL.symm [] [(14,9)] Q Q Q<|fR Q Q<|iW uS 17 [] h13 () Q Q Q Q Q Q Q<|fR Q Q<|p5 (hT:=tok) s11 [14,5,6,7,8,9,10,11,38,37,12,13] hF Q results52 Q Q Q Q)<|eI 1 6 (mF t w_ x2 x7 x12) [0,1,4,5] (fun(x15:(List aE)) (_:Unit)=>[]) [4,5,6,7,8,9,10,11,12,13,15] (fun x15 _=>[ow s8 (t.cS.set x7.toNat ({x12 with fO:=aX (w_+1)}:bT):List bT),ow s9 (x15:List aE),.box 0 [.h s1 t.aB.Mem.Heap.Bytes.length,.h s2 t.aB.Mem.Heap.Class.length,.h s3 t.aB.Mem.aA.Global.length,.h s4 t.aB.Mem.aA.Own.length,I t.aB.aH.aM,.h s5 t.aB.aH.cV.length,.h s6 t.aB.bJ.length,.h s7 t.aB.A4.length,.h s8 (t.cS.set x7.toNat ({x12 with fO:=aX (w_+1)}:bT)).length,.h s9 x15.length,.h s10 t.gZ.length,.h s11 t.Log.length,I t.aS]]) Q (iO aC [2,3,14,15,16,19] Q<|fun hF=>ro aT 1 15 1 Q Q Q Q hF fun x17 h19 hF s28=>wi hF<|c0 Q (fun h=>DP (h.o 28 Q)) fun x18=>bM [74] Q Q (eI 0 6 (fun(_:Unit)=>AD t w_ x2 x7 x12 x17) [0,1,4,5] (fun(_:Unit) (_:Unit)=>[]) [4,5,6,7,8,9,10,11,12,13,15] (fun _ _=>[ow s8 (t.cS.set x7.toNat ({x12 with fO:=aX (w_+1)}:bT):List bT),ow s9 (t.aN.set w_.toNat ({x17 with aW:=x17.aW++([x7])}:aE):List aE),.box 0 [.h s1 t.aB.Mem.Heap.Bytes.length,.h s2 t.aB.Mem.Heap.Class.length,.h s3 t.aB.Mem.aA.Global.length,.h s4 t.aB.Mem.aA.Own.length,I t.aB.aH.aM,.h s5 t.aB.aH.cV.length,.h s6 t.aB.bJ.length,.h s7 t.aB.A4.length,.h s8 (t.cS.set x7.toNat ({x12 with fO:=aX (w_+1)}:bT)).length,.h s9 (t.aN.set w_.toNat ({x17 with aW:=x17.aW++([x7])}:aE)).length,.h s10 t.gZ.length,.h s11 t.Log.length,I t.aS]]) Q (iO aC [2,3,14,15,16,19,22] Q<|fun hF=>nd hF fun hA2 hF=>(by refine dD Q Q ?_ ?_ <;> exact lt1 Q bH Q Q Q Q fun s31=>have hq4:=rn hA2;ap 28 bH Q Q Q Q Q Q Q (fun h=>(h.o 30 Q)) Q Q hq4 fun hq4 s32=>sF Q<|l6 aT 20 [23,24,25,26,27,28,29] [] ({x17 with aW:=x17.aW++([x7])}:aE) (s28.1,s28.2.1,s28.2.2.1,s28.2.2.2.1,s28.2.2.2.2.1,s32,s28.2.2.2.2.2.2) Q Q Q Q Q Q Q Q<|fR Q Q<|oZ s9 cL.symm [] [(14,9)] Q Q Q<|fR Q Q<|l6 uS 17 [] [] ({x12 with fO:=aX (w_+1)}:bT) () Q Q Q Q Q Q Q Q<|fR Q Q<|oZ s8 cL.symm [] [(14,8)] Q Q Q<|fR Q Q<|lE (p:=()) () [32,31,14,4,5,6,7,8,9,10,11,12,13,15] hF Q)) fun _ _=>cA (p:=(t.aN.set w_.toNat ({x17 with aW:=x17.aW++([x7])}:aE))) [0,1,2,3,4,5,6,7,8,9,10,11,12,13] Q Q)<|fun hF=>sF Q<|iW aT 20 [23,24,25,26,27,28,29] h19 s28 Q Q Q Q Q Q Q<|fR Q Q<|l6 uS 17 [] [] ({x12 with fO:=aX (w_+1)}:bT) () Q Q Q Q Q Q Q Q<|fR Q Q<|oZ s8 cL.symm [] [(14,8)] Q Q Q<|fR Q Q<|lE () [31,30,14,4,5,6,7,8,9,10,11,12,13,15] hF Q) fun x15 _=>fun hF=>ro aT 1 13 1 Q Q Q Q hF fun x16 h17 hF s27=>sF Q<|l6 aT 14 [17,18,19,20,21,22,23] [] ({x16 with K:=aX (x16.K+1)}:aE) s27 Q Q Q Q Q Q Q Q<|fR Q Q<|oZ s9 cL.symm [] [(2,9)] Q Q Q<|fR Q Q<|lE (p:=(t.cS.set x7.toNat ({x12 with fO:=aX (w_+1)}:bT),x15.set w_.toNat ({x16 with K:=aX (x16.K+1)}:aE))) () [0,24,2,3,4,5,6,7,8,9,10,11,12,13] hF Q)<|fun hF=>sF Q<|iW aT 12 [15,16,17,18,19,20,21] h1 s12 Q Q Q Q Q Q Q<|fR Q Q<|lE (p:=(t.cS,t.aN)) () [8,23,0,22,1,2,3,4,5,6,7,10,11,14] hF Q) fun⟨x3,x4⟩ _=>fun hF=>ro aT 1 13 1 Q Q Q Q hF fun x5 h3 hF s14=>wi hF<|bM [98] Q Q (eI 0 2 (fun(_:Unit)=>qO t w_ x3 x4 x5) [0,4] (fun(_:Unit) (s15:AC)=>[]) [4,5,6,7,8,9,10,0,11,13] (fun _ s15=>[ow s9 (x4:List aE),ow s15 (t.Log++([(⟨2,w_,x5.aS,0,[],[]⟩:LM)]):List LM),.box 0 [.h s1 t.aB.Mem.Heap.Bytes.length,.h s2 t.aB.Mem.Heap.Class.length,.h s3 t.aB.Mem.aA.Global.length,.h s4 t.aB.Mem.aA.Own.length,I t.aB.aH.aM,.h s5 t.aB.aH.cV.length,.h s6 t.aB.bJ.length,.h s7 t.aB.A4.length,.h s8 x3.length,.h s9 x4.length,.h s10 t.gZ.length,.h s15 (t.Log++([(⟨2,w_,x5.aS,0,[],[]⟩:LM)])).length,I t.aS]]) Q (iO aC [13,16] Q<|fun hF=>nd hF fun hA1 hF=>dD Q Q (nw iG Q<|nw eA Q<|S1 aRZ [24,25] ((⟨2,w_,x5.aS,0,[],[]⟩:LM)) (⟨none,0⟩,⟨none,0⟩) kR Q Q Q Q Q Q Q Q Q Q Q Q Q fun s19=>have hq1:=rn hA1;ZT 12 26 kR Q Q Q Q Q Q Q Q Q Q Q hq1 fun hq1 s20=>sF Q<|iW aT 14 [17,18,19,20,21,22,23] h3 s14 Q Q Q Q Q Q Q<|fR Q Q<|lE (p:=()) s20 [28,27,2,4,5,6,7,8,9,10,0,11,13] hF Q) ((by refine dD Q Q ?_ ?_ <;> exact nw iG Q<|nw eA Q<|S1 aRZ [24,25] ((⟨2,w_,x5.aS,0,[],[]⟩:LM)) (⟨none,0⟩,⟨none,0⟩) kR Q Q Q Q Q Q Q Q Q Q Q Q Q fun s21=>have hq2:=rn hA1;ZT 12 26 kR Q Q Q Q Q Q Q Q Q Q Q hq2 fun hq2 s22=>sF Q<|iW aT 14 [17,18,19,20,21,22,23] h3 s14 Q Q Q Q Q Q Q<|fR Q Q<|lE (p:=()) s22 [28,27,2,4,5,6,7,8,9,10,0,11,13] hF Q))) fun _ s15=>fun hF=>ro aT 0 12 1 Q Q Q Q hF fun x6 h5 hF s16=>sF Q<|l6 aT 13 [16,17,18,19,20,21,22] [] ({x6 with Pc:=8,K:=0}:aE) s16 Q Q Q Q Q Q Q Q<|fR Q Q<|oZ s9 cL.symm [] [(2,9)] Q Q Q<|fR Q Q<|p5 (hT:=tok) s15 [2,3,4,5,6,7,8,9,10,23,11,1] hF Q results52 Q Q Q Q)<|fun hF=>sF Q<|iW aT 14 [17,18,19,20,21,22,23] h3 s14 Q Q Q Q Q Q Q<|p5 (hT:=tok) s11 [2,4,5,6,7,8,9,10,0,24,11,12] hF Q results52 Q Q Q Q
theorem QT{t:Table}{w_:Int}{s1 s2 s3 s4 s5 s6 s7 s8 s9 s10 s11:AC}{b0:Nat×Nat}:VS prog κ 53 (oS t w_) [.p 0 0,I w_] [b0] ([.box 0 (QA t s1 s2 s3 s4 s5 s6 s7 s8 s9 s10 s11)]++(QX t s1 s2 s3 s4 s5 s6 s7 s8 s9 s10 s11 [])) (fun(r:Table) (y:Unit)=>.t []) (fun(r:Table) (y:Unit)=>([.box 0 (QA r s1 s2 s3 s4 s5 s6 s7 s8 s9 s10 s11)]++(QX r s1 s2 s3 s4 s5 s6 s7 s8 s9 s10 s11 []))):=
 cT tok call53 func53 results53 Q Q<|qA aT 9 Q Q Q fun x1 h1 s12 h2=>fun hF=>l5 1 h2 h1 Q Q Q Q Q<|wi hF<|eI 0 2 (fun(_:Unit)=>qR t w_ x1) [0,1,4] (fun(_:Unit) (_:Unit)=>[(22,.b (decide ((x1.Reads.length:Int)<=x1.K)))]) [1,2,3,4,5,6,7,8,10,11,0,14] (fun _ _=>[ow s9 (t.aN:List aE)]) Q (iO aC [0,14] Q<|fun hF=>(by refine dD Q Q ?_ ?_ <;> exact sF Q<|iW aT 12 [15,16,17,18,19,20,21] h1 s12 Q Q Q Q Q Q Q<|fR Q Q<|lE (p:=()) () [22,1,2,3,4,5,6,7,8,10,11,0,14] hF Q)) fun _ _=>bM [22] Q Q (fun hF=>ro aT 0 12 1 Q Q Q Q hF fun x2 h3 hF s13=>sR Q<|l6 aT 13 [16,17,18,19,20,21,22] [] ({x2 with Pc:=9,K:=0}:aE) s13 Q Q Q Q Q Q Q Q<|fR Q Q<|oZ s9 cL.symm [] [(11,9)] Q Q Q<|fR Q Q<|p5 (hT:=tok) () [11,1,2,3,4,5,6,7,8,23,9,10] hF Q results53 Q Q Q Q)<|eI 0 4 (fun(p:Int×Int)=>qQ t w_ p.1 p.2) [0,1,4] (fun(p:Int×Int) (_:Unit)=>[(5,.p 3 0)]) [1,2,3,4,5,6,7,8,0,9,10,11,12] (fun p _=>[.box 3 [I p.1,I p.2]]) Q (iO aC [11,12] Q<|fun hF=>bd hF fun x13 hA1 hF=>bd hF fun x14 hA2 hF=>aFW Q Q (have hq1:=rb hA1;ro aT 0 12 1 Q Q Q Q hq1 fun u1 h15 hq1 s17=>match u1,hq1 with | _,rfl=>dD Q Q (have hq2:=rb hA2;wi hq2<|qA RQ 17 Q Q Q fun u2 h17 _ h18=>fun hq2=>l5 2 h18 h17 Q Q Q Q Q<|match u2,hq2 with | _,rfl=>(by refine dD Q Q ?_ ?_ <;> exact sF Q<|iW RQ 23 [] h17 () Q Q Q Q Q Q Q<|fR Q Q<|iW aT 13 [16,27,18,19,20,21,22] h15 s17 Q Q Q Q Q Q Q<|fR Q Q<|lE (p:=(x14.bT,x14.fM)) () [26,1,2,3,4,5,6,7,8,28,9,10,11,12] hF Q)) (have hq3:=rb hA2;wi hq3<|qA RQ 17 Q Q Q fun u3 h19 _ h20=>fun hq3=>l5 3 h20 h19 Q Q Q Q Q<|match u3,hq3 with | _,rfl=>sF Q<|swR 3 2 Q<|fD Q Q<|iW RQ 24 [] h19 () Q Q Q Q Q Q Q<|fR Q Q<|iW aT 13 [16,27,18,19,20,21,22] h15 s17 Q Q Q Q Q Q Q<|fR Q Q<|lE (p:=(x14.bT,x14.fM)) () [23,1,2,3,4,5,6,7,8,28,9,10,11,12] hF Q)) (have hq4:=rb hA1;ro aT 0 12 1 Q Q Q Q hq4 fun u4 h21 hq4 s18=>match u4,hq4 with | _,rfl=>dD Q Q (have hq5:=rb hA2;wi hq5<|qA RQ 17 Q Q Q fun u5 h23 _ h24=>fun hq5=>l5 2 h24 h23 Q Q Q Q Q<|match u5,hq5 with | _,rfl=>(by refine dD Q Q ?_ ?_ <;> exact sF Q<|iW RQ 23 [] h23 () Q Q Q Q Q Q Q<|fR Q Q<|iW aT 13 [16,27,18,19,20,21,22] h21 s18 Q Q Q Q Q Q Q<|fR Q Q<|lE (p:=(x14.bT,x14.fM)) () [26,1,2,3,4,5,6,7,8,28,9,10,11,12] hF Q)) (have hq6:=rb hA2;wi hq6<|qA RQ 17 Q Q Q fun u6 h25 _ h26=>fun hq6=>l5 3 h26 h25 Q Q Q Q Q<|match u6,hq6 with | _,rfl=>sF Q<|swR 3 2 Q<|fD Q Q<|iW RQ 24 [] h25 () Q Q Q Q Q Q Q<|fR Q Q<|iW aT 13 [16,27,18,19,20,21,22] h21 s18 Q Q Q Q Q Q Q<|fR Q Q<|lE (p:=(x14.bT,x14.fM)) () [23,1,2,3,4,5,6,7,8,28,9,10,11,12] hF Q)) ((by refine dD Q Q ?_ ?_ <;> exact have hq7:=rb hA1;ro aT 0 12 1 Q Q Q Q hq7 fun u7 h27 hq7 s19=>match u7,hq7 with | _,rfl=>have hq8:=rb hA2;wi hq8<|qA RQ 18 Q Q Q fun u8 h29 _ h30=>fun hq8=>l5 3 h30 h29 Q Q Q Q Q<|match u8,hq8 with | _,rfl=>sF Q<|swR 3 2 Q<|fD Q Q<|iW RQ 24 [] h29 () Q Q Q Q Q Q Q<|fR Q Q<|iW aT 14 [17,27,19,20,21,22,23] h27 s19 Q Q Q Q Q Q Q<|fR Q Q<|lE (p:=(x14.bT,x14.fM)) () [13,1,2,3,4,5,6,7,8,28,9,10,11,12] hF Q))) fun⟨x3,x4⟩ _=>eI 0 6 (fun(p:Int×Int×Int)=>qP t w_ x4 p.1 p.2.1 p.2.2) [0,1,4,5] (fun(p:Int×Int×Int) (_:Unit)=>[(6,.p 5 0)]) [1,2,3,4,5,6,7,8,9,10,11,12,13,0] (fun p _=>[.box 5 [I p.1,I p.2.1,I p.2.2]]) Q (iO aC [0,12,13] Q<|qA uS 8 Q Q Q fun x12 h9 _ h10=>fun hF=>l5 4 h10 h9 Q Q Q Q Q<|(by refine dD Q Q ?_ ?_ <;> exact sF Q<|iW uS 14 [] h9 () Q Q Q Q Q Q Q<|fR Q Q<|lE (p:=(x12.Head,x12.fM,x12.fO)) () [17,1,2,3,4,5,6,7,18,9,10,11,12,13,0] hF Q)) fun⟨x5,x6,x7⟩ _=>eD 0 6 (eK t w_) [0,4] 63 [1,2,3,4,5,6,7,8,9,10,11,12,13] Q (eS [49,50] Q Q (eS [55,56,57] Q Q (cA [1,2,3,4,5,6,7,8,9,10,11,12,13] Q Q)<|cA [1,2,3,4,5,6,7,8,9,10,11,12,13] Q Q)<|cA [1,2,3,4,5,6,7,8,9,10,11,12,13] Q Q) fun x8=>bM [63] Q Q (fun hF=>ro aT 8 12 1 Q Q Q Q hF fun x9 h5 hF s14=>wi hF<|eB 14 1 0 32 [16,17,18,19,20,21,22] Q Q Q Q Q (fun _=>dI) fun x10 _=>fun hF=>sR Q<|l6 aT 13 [23,24,25,26,27,28,29] [] x10 s14 Q Q Q Q Q Q Q Q<|fR Q Q<|oZ s9 cL.symm [] [(11,9)] Q Q Q<|fR Q Q<|p5 (hT:=tok) () [11,0,1,2,3,4,5,6,7,30,9,10] hF Q results53 Q Q Q Q)<|fun hF=>ro aT 8 12 1 Q Q Q Q hF fun x11 h7 hF s15=>sF Q<|l6 aT 13 [16,17,18,19,20,21,22] [] ({x11 with K:=aX (x11.K+1)}:aE) s15 Q Q Q Q Q Q Q Q<|fR Q Q<|oZ s9 cL.symm [] [(11,9)] Q Q Q<|fR Q Q<|p5 (hT:=tok) () [11,0,1,2,3,4,5,6,7,23,9,10] hF Q results53 Q Q Q Q
theorem C1{j:aE}{x:aU}{s1 s2 s3 s4 s5 s6 s7:AC}{b0:Nat×Nat}:VS prog κ 114 (m6 j x) [.p 0 0,.g [I x.Key,.b x.GX,I x.dO]] [b0] [.box 0 [.b j.iY,.b j.Batch.Collect,.h s1 j.Batch.bK.length,I j.aS,I j.Pc,I j.At,I j.K,I j.bT,I j.fM,I j.H,I j.fF,I j.Node.Key,I j.Node.dO,I j.Node.Next,.b j.Found,I j.Code,I j.Sub.Kind,I j.Sub.A,I j.Sub.Pc,I j.Sub.E,I j.Sub.Row,I j.Sub.B,I j.Sub.H,I j.Sub.Out,I j.Sub.Code,.b j.Sub.dJ,.h s2 j.Reads.length,.h s3 j.aJ.length,.h s4 j.eA.length,.h s5 j.fL.length,.h s6 j.aW.length,.h s7 j.cG.length],ow s1 (j.Batch.bK:List iG),ow s2 (j.Reads:List Seen),ow s3 (j.aJ:List aU),ow s4 (j.eA:List eA),ow s5 (j.fL:List Int),ow s6 (j.aW:List Int),ow s7 (j.cG:List Int)] (fun(r:aE) (y:Unit)=>.t []) (fun(r:aE) (y:Unit)=>[.box 0 [.b r.iY,.b r.Batch.Collect,.h s1 r.Batch.bK.length,I r.aS,I r.Pc,I r.At,I r.K,I r.bT,I r.fM,I r.H,I r.fF,I r.Node.Key,I r.Node.dO,I r.Node.Next,.b r.Found,I r.Code,I r.Sub.Kind,I r.Sub.A,I r.Sub.Pc,I r.Sub.E,I r.Sub.Row,I r.Sub.B,I r.Sub.H,I r.Sub.Out,I r.Sub.Code,.b r.Sub.dJ,.h s2 r.Reads.length,.h s3 r.aJ.length,.h s4 r.eA.length,.h s5 r.fL.length,.h s6 r.aW.length,.h s7 r.cG.length],ow s1 r.Batch.bK,ow s2 r.Reads,ow s3 r.aJ,ow s4 r.eA,ow s5 r.fL,ow s6 r.aW,ow s7 r.cG]):=
 cT tok call114 func114 results114 Q Q<|bM [8] Q Q (DF () [0,1,2,3,4,5,6,7] Q Q)<|DF () [0,1,2,3,4,5,6,7] Q Q
theorem C2{m:Mem}{s1 s2 s3 s4:AC}(h1:bY κ s1 m.Heap.Bytes)(h2:bY κ s2 m.Heap.Class)(h3:bY κ s3 m.aA.Global)(h4:bY κ s4 m.aA.Own):VS prog κ 161 (qS m) [.g (gM m s1 s2 s3 s4)] [] [] (fun r (y:A4C)=>.g (yM r y)) (fun r y=>(zM r y [])):=
 cT tok call161 func161 results161 Q Q<|iO aC [0] Q<|c1 Q (fun h=>zL (h.a h1) (h.a h2)) fun x1 s5=>c1 Q (fun h=>iL (h.a h3) (h.a h4)) fun x2 s6=>lS (s5.1,s5.2,s6.1,s6.2) [2,3,4,5] Q Q
theorem QE{h:Heap}{s:aO}{c:Int}{s1 s2:AC}{s3:AC}(h1:bY κ s1 h.Bytes)(h2:bY κ s2 h.Class)(h3:bY κ s3 s.aQ):V0 prog κ 214 (xP h s c) [.g [.h s1 h.Bytes.length,.h s2 h.Class.length],.g [.h s3 s.aQ.length],I c] .b:=
 cT tok call214 func214 results214 Q Q<|IG 12 [2,3,10,11] [0] Out.brk [] [] Q Q (fun hF1 x2 hr1=>bM [13] Q Q (Q8 Q h3 Q fun x3=>eD 0 3 (vT x2) [2,3,10,11,12] 26 [0] Q (c0 Q (fun h=>mJ (h.a h1) (h.a h2)) fun x5=>eS [20,21] Q Q (cA [0] Q Q)<|c0 Q (fun h=>IA (h.a h1) (h.a h2)) fun x6=>cA [0] Q Q) fun x4=>bM [26] Q Q (FQ hr1 hF1<|cO Q Q)<|DG [0] Q)<|A3 [] Q)<|cO Q Q
theorem O1{m:Mem}{s1 s2 s3 s4:AC}(h1:bY κ s1 m.Heap.Bytes)(h2:bY κ s2 m.Heap.Class)(h3:bY κ s3 m.aA.Global)(h4:bY κ s4 m.aA.Own):V0 prog κ 162 (D0 m) [.g (gM m s1 s2 s3 s4)] .b:=
 cT tok call162 func162 results162 Q Q<|eD 0 1 (EN m) [1] 16 [0] Q (c0 Q (fun h=>UE (h.a h1) (h.a h2)) fun x10=>eS [10,11] Q Q (cA [0] Q Q)<|c0 Q (fun h=>CZ (h.a h3) (h.a h4)) fun x11=>cA [0] Q Q) fun x1=>bM [16] Q Q (cO Q Q)<|IG 21 [1,19,20] [0] Out.brk [1] [0] Q Q (fun hF2 x3 hr2=>bM [22] Q Q (A6 D3 Q h3 Q fun x8 s6 h6=>c0 Q (fun h=>QE (h.a h1) (h.a h2) (h.a h6)) fun x9=>bM [31] Q Q (FQ hr2 hF2<|cO Q Q)<|DG [0] Q)<|A3 [0] Q)<|IG 37 [1,35,36] [0] Out.brk [] [] Q Q (fun hF3 x5 hr3=>bM [38] Q Q (A6 D3 Q h4 Q fun x6 s5 h5=>c0 Q (fun h=>QE (h.a h1) (h.a h2) (h.a h5)) fun x7=>bM [48] Q Q (FQ hr3 hF3<|cO Q Q)<|DG [0] Q)<|A3 [] Q)<|cO Q Q
theorem UI{h:Int}:V0 prog κ 163 (FD h) [I h] .b:=
 cT tok call163 func163 results163 Q Q<|eD 0 0 CL [] 2 [] Q (eS [4,5] Q Q (cA [] Q Q)<|c0 Q (fun _=>kS) fun x2=>cA [] Q Q) fun x1=>cO Q Q
theorem QF{m:Mem}{h:Int}{s1 s2 s3 s4:AC}(h1:bY κ s1 m.Heap.Bytes)(h2:bY κ s2 m.Heap.Class)(h3:bY κ s3 m.aA.Global)(h4:bY κ s4 m.aA.Own):V0 prog κ 164 (xQ m h) [.g (gM m s1 s2 s3 s4),I h] I:=
 cT tok call164 func164 results164 Q Q<|c0 Q (fun h=>ME (h.a h1) (h.a h2) (h.a h3) (h.a h4)) fun x1=>bM [5,9] Q Q (cO Q Q)<|c0 Q (fun h=>R0 (h.a h1) (h.a h2)) fun x2=>bM [10,16] Q Q (cO Q Q)<|cO Q Q
theorem oE{m:Mem}{h next_:Int}{s1 s2 s3 s4:AC}(h1:bY κ s1 m.Heap.Bytes)(h2:bY κ s2 m.Heap.Class)(h3:bY κ s3 m.aA.Global)(h4:bY κ s4 m.aA.Own):VS prog κ 115 (K2 m h next_) [.g (gM m s1 s2 s3 s4),I h,I next_] [] [] (fun r (y:A4C)=>.t [.g (yM r.1 y),I r.2]) (fun r y=>(zM r.1 y [])):=
 cT tok call115 func115 results115 Q Q<|c1 Q (fun h=>C2 (h.a h1) (h.a h2) (h.a h3) (h.a h4)) fun x1 s5=>eI 0 3 (fun(p:Bool×Mem)=>CM m h next_ p.1 p.2) [1,2,3,6,8] (fun(p:Bool×Mem) (_:Unit)=>[(19,.b p.1)]) [0,1] (fun p _=>(zM p.2 s5 [.box 2 (yM p.2 s5)])) Q (c0 Q (fun h=>O1 (h.a h1) (h.a h2) (h.a h3) (h.a h4)) fun x10=>eS [14,15] Q Q (cA (p:=(true,x1)) [2,3,4,5,6,0,1] Q Q)<|c0 Q (fun _=>UI) fun x11=>cA (p:=(!x11,x1)) [2,3,4,5,6,0,1] Q Q) fun⟨x2,x3⟩ _=>bM [19] Q Q (lS s5 [0,1,2,3] Q Q)<|c0 Q (fun h=>QF (h.a h1) (h.a h2) (h.a h3) (h.a h4)) fun x4=>eI 0 3 (I4 x4) [6,8,9] (fun(x5:Mem) (_:Unit)=>[]) [6] (fun x5 _=>(zM x5 s5 [.box 2 (yM x5 s5)])) Q (bM [25] Q Q (eI 0 3 (RK x4) [6,8,9] (fun(x6:Mem) (_:Unit)=>[]) [6] (fun x6 _=>(zM x6 s5 [.box 2 (yM x6 s5)])) Q (iO aC [5,6] Q<|fun hF=>bd hF fun x7 hA1 hF=>bd hF fun x8 hA2 hF=>bd hF fun x9 hA3 hF=>dD Q Q (have hq1:=rb hA1;wi hq1<|c0 Q (fun h=>uW (h.a h1) (h.a h2)) fun u1=>fun hq1=>match u1,hq1 with | _,rfl=>have hq2:=rb hA2;wi hq2<|c0 Q (fun _=>dF) fun u2=>fun hq2=>match u2,hq2 with | _,rfl=>have hq3:=rb hA3;wi hq3<|J1 [0] Q Q Q Q (fun _=>fK) fun u3 _=>fun hq3=>un 7 [28] [] [(4,0)] Q Q Q Q Q Q fun hl2=>match u3,hq3 with | _,rfl=>wi hF<|cA (p:=((⟨(⟨x9,x3.Heap.Class⟩:Heap),x3.aA⟩:Mem))) [7,1,2,3,4,6] Q Q) (have hq4:=rb hA1;wi hq4<|c0 Q (fun h=>uW (h.a h1) (h.a h2)) fun u4=>fun hq4=>match u4,hq4 with | _,rfl=>dD Q Q (have hq5:=rb hA2;wi hq5<|c0 Q (fun _=>dF) fun u5=>fun hq5=>match u5,hq5 with | _,rfl=>have hq6:=rb hA3;wi hq6<|J1 [0] Q Q Q Q (fun _=>fK) fun u6 _=>fun hq6=>un 7 [28] [] [(4,0)] Q Q Q Q Q Q fun hl3=>match u6,hq6 with | _,rfl=>wi hF<|cA (p:=((⟨(⟨x9,x3.Heap.Class⟩:Heap),x3.aA⟩:Mem))) [7,1,2,3,4,6] Q Q) (have hq7:=rb hA2;wi hq7<|c0 Q (fun _=>dF) fun u7=>fun hq7=>match u7,hq7 with | _,rfl=>have hq8:=rb hA3;wi hq8<|J1 [0] Q Q Q Q (fun _=>fK) fun u8 _=>fun hq8=>un 7 [28] [] [(4,0)] Q Q Q Q Q Q fun hl4=>match u8,hq8 with | _,rfl=>wi hF<|cA (p:=((⟨(⟨x9,x3.Heap.Class⟩:Heap),x3.aA⟩:Mem))) [7,1,2,3,4,6] Q Q))) fun x6 _=>cA (p:=(x6)) [0,1,2,3,4,5] Q Q)<|cA [0,1,2,3,4,6] Q Q) fun x5 _=>lS s5 [0,1,2,3] Q Q
theorem aGQ{n:bP}:V0 prog κ 217 (K3 n) [.g [I n.Key,I n.dO,I n.Next]] .b:=
 cT tok call217 func217 results217 Q Q<|eD 0 1 uE [] 2 [] Q (c0 Q (fun _=>bV) fun x2=>eS [5,6] Q Q (c0 Q (fun _=>bV) fun x3=>eS [9,10,11] Q Q (c0 Q (fun _=>UI) fun x4=>cA [] Q Q)<|cA [] Q Q)<|cA [] Q Q) fun x1=>cO Q Q
theorem aD9{m:Mem}{h:Int}{n:bP}{s1 s2 s3 s4:AC}(h1:bY κ s1 m.Heap.Bytes)(h2:bY κ s2 m.Heap.Class)(h3:bY κ s3 m.aA.Global)(h4:bY κ s4 m.aA.Own):VS prog κ 168 (HY m h n) [.g (gM m s1 s2 s3 s4),I h,.g [I n.Key,I n.dO,I n.Next]] [] [] (fun r (y:A4C)=>.t [.g (yM r.1 y),I r.2]) (fun r y=>(zM r.1 y [])):=
 cT tok call168 func168 results168 Q Q<|c1 Q (fun h=>C2 (h.a h1) (h.a h2) (h.a h3) (h.a h4)) fun x1 s5=>eI 0 4 (fun(p:Bool×Mem)=>y6 m h n p.1 p.2) [1,3,5,6,8] (fun(p:Bool×Mem) (_:Unit)=>[(19,.b p.1)]) [0,1,2] (fun p _=>(zM p.2 s5 [.box 3 (yM p.2 s5)])) Q (c0 Q (fun h=>O1 (h.a h1) (h.a h2) (h.a h3) (h.a h4)) fun x12=>eS [14,15] Q Q (cA (p:=(true,x1)) [3,4,5,6,7,0,1,2] Q Q)<|c0 Q (fun _=>aGQ) fun x13=>cA (p:=(!x13,x1)) [3,4,5,6,7,0,1,2] Q Q) fun⟨x2,x3⟩ _=>bM [19] Q Q (lS s5 [0,1,2,3] Q Q)<|c0 Q (fun h=>QF (h.a h1) (h.a h2) (h.a h3) (h.a h4)) fun x4=>eI 0 4 (GB x4) [6,8,9] (fun(x5:Mem) (_:Unit)=>[]) [7] (fun x5 _=>(zM x5 s5 [.box 3 (yM x5 s5)])) Q (bM [25] Q Q (eI 0 4 (P0 x4) [6,8,9] (fun(x6:Mem) (_:Unit)=>[]) [7] (fun x6 _=>(zM x6 s5 [.box 3 (yM x6 s5)])) Q (iO aC [5,6,7] Q<|fun hF=>bd hF fun x7 hA1 hF=>bd hF fun x8 hA2 hF=>bd hF fun x9 hA3 hF=>nd hF fun hA4 hF=>bd hF fun x10 hA5 hF=>nd hF fun hA6 hF=>bd hF fun x11 hA7 hF=>dD Q Q (have hq1:=rb hA1;wi hq1<|c0 Q (fun h=>uW (h.a h1) (h.a h2)) fun u1=>fun hq1=>match u1,hq1 with | _,rfl=>have hq2:=rb hA2;wi hq2<|c0 Q (fun _=>dF) fun u2=>fun hq2=>match u2,hq2 with | _,rfl=>have hq3:=rb hA3;wi hq3<|c0 Q (fun _=>dF) fun u3=>fun hq3=>match u3,hq3 with | _,rfl=>have hq4:=rn hA4;cat Q Q Q Q hq4 fun hq4=>have hq5:=rb hA5;wi hq5<|c0 Q (fun _=>dF) fun u4=>fun hq5=>match u4,hq5 with | _,rfl=>have hq6:=rn hA6;cat Q Q Q Q hq6 fun hq6=>have hq7:=rb hA7;wi hq7<|J1 [0] Q Q Q Q (fun _=>fK) fun u5 _=>fun hq7=>un 8 [28] [] [(4,0)] Q Q Q Q Q Q fun hl2=>match u5,hq7 with | _,rfl=>wi hF<|cA (p:=((⟨(⟨x11,x3.Heap.Class⟩:Heap),x3.aA⟩:Mem))) [8,1,2,3,4,7] Q Q) (have hq8:=rb hA1;wi hq8<|c0 Q (fun h=>uW (h.a h1) (h.a h2)) fun u6=>fun hq8=>match u6,hq8 with | _,rfl=>dD Q Q (have hq9:=rb hA2;wi hq9<|c0 Q (fun _=>dF) fun u7=>fun hq9=>match u7,hq9 with | _,rfl=>have hq10:=rb hA3;wi hq10<|c0 Q (fun _=>dF) fun u8=>fun hq10=>match u8,hq10 with | _,rfl=>have hq11:=rn hA4;cat Q Q Q Q hq11 fun hq11=>have hq12:=rb hA5;wi hq12<|c0 Q (fun _=>dF) fun u9=>fun hq12=>match u9,hq12 with | _,rfl=>have hq13:=rn hA6;cat Q Q Q Q hq13 fun hq13=>have hq14:=rb hA7;wi hq14<|J1 [0] Q Q Q Q (fun _=>fK) fun u10 _=>fun hq14=>un 8 [28] [] [(4,0)] Q Q Q Q Q Q fun hl3=>match u10,hq14 with | _,rfl=>wi hF<|cA (p:=((⟨(⟨x11,x3.Heap.Class⟩:Heap),x3.aA⟩:Mem))) [8,1,2,3,4,7] Q Q) (have hq15:=rb hA2;wi hq15<|c0 Q (fun _=>dF) fun u11=>fun hq15=>match u11,hq15 with | _,rfl=>dD Q Q (have hq16:=rb hA3;wi hq16<|c0 Q (fun _=>dF) fun u12=>fun hq16=>match u12,hq16 with | _,rfl=>have hq17:=rn hA4;cat Q Q Q Q hq17 fun hq17=>have hq18:=rb hA5;wi hq18<|c0 Q (fun _=>dF) fun u13=>fun hq18=>match u13,hq18 with | _,rfl=>have hq19:=rn hA6;cat Q Q Q Q hq19 fun hq19=>have hq20:=rb hA7;wi hq20<|J1 [0] Q Q Q Q (fun _=>fK) fun u14 _=>fun hq20=>un 8 [28] [] [(4,0)] Q Q Q Q Q Q fun hl4=>match u14,hq20 with | _,rfl=>wi hF<|cA (p:=((⟨(⟨x11,x3.Heap.Class⟩:Heap),x3.aA⟩:Mem))) [8,1,2,3,4,7] Q Q) (have hq21:=rb hA3;wi hq21<|c0 Q (fun _=>dF) fun u15=>fun hq21=>match u15,hq21 with | _,rfl=>have hq22:=rn hA4;cat Q Q Q Q hq22 fun hq22=>dD Q Q (have hq23:=rb hA5;wi hq23<|c0 Q (fun _=>dF) fun u16=>fun hq23=>match u16,hq23 with | _,rfl=>have hq24:=rn hA6;cat Q Q Q Q hq24 fun hq24=>have hq25:=rb hA7;wi hq25<|J1 [0] Q Q Q Q (fun _=>fK) fun u17 _=>fun hq25=>un 8 [28] [] [(4,0)] Q Q Q Q Q Q fun hl5=>match u17,hq25 with | _,rfl=>wi hF<|cA (p:=((⟨(⟨x11,x3.Heap.Class⟩:Heap),x3.aA⟩:Mem))) [8,1,2,3,4,7] Q Q) (have hq26:=rb hA5;wi hq26<|c0 Q (fun _=>dF) fun u18=>fun hq26=>match u18,hq26 with | _,rfl=>have hq27:=rn hA6;cat Q Q Q Q hq27 fun hq27=>have hq28:=rb hA7;wi hq28<|J1 [0] Q Q Q Q (fun _=>fK) fun u19 _=>fun hq28=>un 8 [28] [] [(4,0)] Q Q Q Q Q Q fun hl6=>match u19,hq28 with | _,rfl=>wi hF<|cA (p:=((⟨(⟨x11,x3.Heap.Class⟩:Heap),x3.aA⟩:Mem))) [8,1,2,3,4,7] Q Q))))) fun x6 _=>cA (p:=(x6)) [0,1,2,3,4,5] Q Q)<|cA [0,1,2,3,4,7] Q Q) fun x5 _=>lS s5 [0,1,2,3] Q Q
theorem W7{t:Table}{j:aE}{x:aU}{b:bT}{s1 s2 s3 s4 s5 s6 s7 s8 s9 s10 s11:AC}{s12 s13 s14 s15 s16 s17 s18:AC}{b0 b1 b2:Nat×Nat}:VS prog κ 116 (GC t j x b) [.p 0 0,.p 1 0,.g [I x.Key,.b x.GX,I x.dO],.p 2 0] [b0,b1,b2] ([.box 0 (QA t s1 s2 s3 s4 s5 s6 s7 s8 s9 s10 s11),.box 1 [.b j.iY,.b j.Batch.Collect,.h s12 j.Batch.bK.length,I j.aS,I j.Pc,I j.At,I j.K,I j.bT,I j.fM,I j.H,I j.fF,I j.Node.Key,I j.Node.dO,I j.Node.Next,.b j.Found,I j.Code,I j.Sub.Kind,I j.Sub.A,I j.Sub.Pc,I j.Sub.E,I j.Sub.Row,I j.Sub.B,I j.Sub.H,I j.Sub.Out,I j.Sub.Code,.b j.Sub.dJ,.h s13 j.Reads.length,.h s14 j.aJ.length,.h s15 j.eA.length,.h s16 j.fL.length,.h s17 j.aW.length,.h s18 j.cG.length],.box 2 [I b.Head,I b.fM,I b.fO]]++(oBs t.aB s1 s2 s3 s4 s5 s6 s7 [ow s10 (t.gZ:List aI),ow s11 (t.Log:List LM),ow s12 (j.Batch.bK:List iG),ow s13 (j.Reads:List Seen),ow s14 (j.aJ:List aU),ow s15 (j.eA:List eA),ow s16 (j.fL:List Int),ow s17 (j.aW:List Int),ow s18 (j.cG:List Int)])) (fun(r:Table×aE×bT) (y:A4C)=>.t []) (fun(r:Table×aE×bT) (y:A4C)=>([.box 0 [.h y.1 r.1.aB.Mem.Heap.Bytes.length,.h y.2.1 r.1.aB.Mem.Heap.Class.length,.h y.2.2.1 r.1.aB.Mem.aA.Global.length,.h y.2.2.2 r.1.aB.Mem.aA.Own.length,I r.1.aB.aH.aM,.h s5 r.1.aB.aH.cV.length,.h s6 r.1.aB.bJ.length,.h s7 r.1.aB.A4.length,.h s8 t.cS.length,.h s9 t.aN.length,.h s10 r.1.gZ.length,.h s11 r.1.Log.length,I r.1.aS],.box 1 [.b r.2.1.iY,.b r.2.1.Batch.Collect,.h s12 r.2.1.Batch.bK.length,I r.2.1.aS,I r.2.1.Pc,I r.2.1.At,I r.2.1.K,I r.2.1.bT,I r.2.1.fM,I r.2.1.H,I r.2.1.fF,I r.2.1.Node.Key,I r.2.1.Node.dO,I r.2.1.Node.Next,.b r.2.1.Found,I r.2.1.Code,I r.2.1.Sub.Kind,I r.2.1.Sub.A,I r.2.1.Sub.Pc,I r.2.1.Sub.E,I r.2.1.Sub.Row,I r.2.1.Sub.B,I r.2.1.Sub.H,I r.2.1.Sub.Out,I r.2.1.Sub.Code,.b r.2.1.Sub.dJ,.h s13 r.2.1.Reads.length,.h s14 r.2.1.aJ.length,.h s15 r.2.1.eA.length,.h s16 r.2.1.fL.length,.h s17 r.2.1.aW.length,.h s18 r.2.1.cG.length],.box 2 [I r.2.2.Head,I r.2.2.fM,I r.2.2.fO]]++(oBs r.1.aB y.1 y.2.1 y.2.2.1 y.2.2.2 s5 s6 s7 [ow s10 r.1.gZ,ow s11 r.1.Log,ow s12 r.2.1.Batch.bK,ow s13 r.2.1.Reads,ow s14 r.2.1.aJ,ow s15 r.2.1.eA,ow s16 r.2.1.fL,ow s17 r.2.1.aW,ow s18 r.2.1.cG]))):=
 cT tok call116 func116 results116 Q Q<|iO aC [0,1,2,19] Q<|c0 Q (fun h=>A1 (h.o 14 Q)) fun x1=>bM [39,46] Q Q (eB 1 1 0 32 [12,13,14,15,16,17,18] Q Q Q Q Q (fun _=>dI) fun x2 _=>DF (s1,s2,s3,s4) [0,1,2,3,4,5,6,7,8,9,10,11,20,21,22,23,24,25,26] Q Q)<|bM [49,54] Q Q (eI 0 4 (AE t j b) [0,1,3] (fun(x3:Table) (u:A4C)=>[]) [12,13,14,15,16,17,18,1,2] (fun x3 u=>(oBs x3.aB u.1 u.2.1 u.2.2.1 u.2.2.2 s5 s6 s7 [ow s10 (x3.gZ:List aI),ow s11 (x3.Log:List LM),.box 0 [.h u.1 x3.aB.Mem.Heap.Bytes.length,.h u.2.1 x3.aB.Mem.Heap.Class.length,.h u.2.2.1 x3.aB.Mem.aA.Global.length,.h u.2.2.2 x3.aB.Mem.aA.Own.length,I x3.aB.aH.aM,.h s5 x3.aB.aH.cV.length,.h s6 x3.aB.bJ.length,.h s7 x3.aB.A4.length,.h s8 t.cS.length,.h s9 t.aN.length,.h s10 x3.gZ.length,.h s11 x3.Log.length,I x3.aS]])) Q (iO aC [1,2,19] Q<|qA oI 16 Q Q Q fun x4 h1 _ h2=>fun hF=>l5 4 h2 h1 Q Q Q Q Q<|bd hF fun x5 hA1 hF=>(by refine dD Q Q ?_ ?_ <;> exact have hq1:=rb hA1;wi hq1<|c1 Q (fun h=>aD9 (h.o 3 Q) (h.o 4 Q) (h.o 5 Q) (h.o 6 Q)) fun u1 s24=>fun hq1=>match u1,hq1 with | _,rfl=>sF Q<|iW oI 20 [] h1 () Q Q Q Q Q Q Q<|fR Q Q<|lE (p:=(({t with aB:=(⟨x5.1,t.aB.aH,t.aB.bJ,t.aB.A4⟩:aB)}:Table))) s24 [23,24,25,26,7,8,9,10,11,0,12,13,14,15,27,17,18,1,2] hF Q)) fun x3 ⟨s19,s20,s21,s22⟩=>DF (s19,s20,s21,s22) [9,17,18,0,1,2,3,4,5,6,7,8,10,11,12,13,14,15,16] Q Q)<|qA oI 16 Q Q Q fun x6 h3 _ h4=>fun hF=>l5 4 h4 h3 Q Q Q Q Q<|sF Q<|iW oI 20 [] h3 () Q Q Q Q Q Q Q<|p5 (hT:=tok) (s1,s2,s3,s4) [0,1,2,3,4,5,6,7,8,9,10,11,12,13,14,15,23,17,18] hF Q results116 Q Q Q Q
theorem VD{t:Table}{w_:Int}{s1 s2 s3 s4 s5 s6 s7 s8 s9 s10 s11:AC}{b0:Nat×Nat}:VS prog κ 54 (vU t w_) [.p 0 0,I w_] [b0] ([.box 0 (QA t s1 s2 s3 s4 s5 s6 s7 s8 s9 s10 s11)]++(QX t s1 s2 s3 s4 s5 s6 s7 s8 s9 s10 s11 [])) (fun(r:Table) (y:A4C)=>.t []) (fun(r:Table) (y:A4C)=>([.box 0 (QA r y.1 y.2.1 y.2.2.1 y.2.2.2 s5 s6 s7 s8 s9 s10 s11)]++(QX r y.1 y.2.1 y.2.2.1 y.2.2.2 s5 s6 s7 s8 s9 s10 s11 []))):=
 cT tok call54 func54 results54 Q Q<|qA aT 9 Q Q Q fun x1 h1 s12 h2=>fun hF=>l5 1 h2 h1 Q Q Q Q Q<|wi hF<|eI 0 2 (fun(_:Unit)=>xD t w_ x1) [0,4] (fun(_:Unit) (_:Unit)=>[(22,.b (decide ((x1.aJ.length:Int)<=x1.K)))]) [1,2,3,4,5,6,7,8,10,11,0,14] (fun _ _=>[ow s9 (t.aN:List aE)]) Q (iO aC [0,14] Q<|fun hF=>(by refine dD Q Q ?_ ?_ <;> exact sF Q<|iW aT 12 [15,16,17,18,19,20,21] h1 s12 Q Q Q Q Q Q Q<|fR Q Q<|lE (p:=()) () [22,1,2,3,4,5,6,7,8,10,11,0,14] hF Q)) fun _ _=>bM [22] Q Q (fun hF=>ro aT 0 12 1 Q Q Q Q hF fun x2 h3 hF s13=>sR Q<|l6 aT 13 [16,17,18,19,20,21,22] [] ({x2 with Pc:=14}:aE) s13 Q Q Q Q Q Q Q Q<|fR Q Q<|oZ s9 cL.symm [] [(11,9)] Q Q Q<|fR Q Q<|p5 (hT:=tok) (s1,s2,s3,s4) [11,1,2,3,4,5,6,7,8,23,9,10] hF Q results54 Q Q Q Q)<|eI 0 4 (fun(p:Int×Bool×Int)=>xC t w_ p.1 p.2.1 p.2.2) [0,4] (fun(p:Int×Bool×Int) (_:Unit)=>[(5,.p 3 0)]) [1,2,3,4,5,6,7,8,0,9,10,11,12] (fun p _=>[.box 3 [I p.1,.b p.2.1,I p.2.2]]) Q (iO aC [11,12] Q<|fun hF=>bd hF fun x30 hA6 hF=>bd hF fun x31 hA7 hF=>aFW Q Q (have hq32:=rb hA6;ro aT 0 12 1 Q Q Q Q hq32 fun u29 h23 hq32 s51=>match u29,hq32 with | _,rfl=>dD Q Q (have hq33:=rb hA7;wi hq33<|qA xE 18 Q Q Q fun u30 h25 _ h26=>fun hq33=>l5 2 h26 h25 Q Q Q Q Q<|match u30,hq33 with | _,rfl=>(by refine dD Q Q ?_ ?_ <;> exact sF Q<|iW xE 23 [] h25 () Q Q Q Q Q Q Q<|fR Q Q<|iW aT 13 [16,17,27,19,20,21,22] h23 s51 Q Q Q Q Q Q Q<|fR Q Q<|lE (p:=(x31.Key,x31.GX,x31.dO)) () [26,1,2,3,4,5,6,7,8,28,9,10,11,12] hF Q)) (have hq34:=rb hA7;wi hq34<|qA xE 18 Q Q Q fun u31 h27 _ h28=>fun hq34=>l5 3 h28 h27 Q Q Q Q Q<|match u31,hq34 with | _,rfl=>sF Q<|swR 3 2 Q<|fD Q Q<|iW xE 24 [] h27 () Q Q Q Q Q Q Q<|fR Q Q<|iW aT 13 [16,17,27,19,20,21,22] h23 s51 Q Q Q Q Q Q Q<|fR Q Q<|lE (p:=(x31.Key,x31.GX,x31.dO)) () [23,1,2,3,4,5,6,7,8,28,9,10,11,12] hF Q)) (have hq35:=rb hA6;ro aT 0 12 1 Q Q Q Q hq35 fun u32 h29 hq35 s52=>match u32,hq35 with | _,rfl=>dD Q Q (have hq36:=rb hA7;wi hq36<|qA xE 18 Q Q Q fun u33 h31 _ h32=>fun hq36=>l5 2 h32 h31 Q Q Q Q Q<|match u33,hq36 with | _,rfl=>(by refine dD Q Q ?_ ?_ <;> exact sF Q<|iW xE 23 [] h31 () Q Q Q Q Q Q Q<|fR Q Q<|iW aT 13 [16,17,27,19,20,21,22] h29 s52 Q Q Q Q Q Q Q<|fR Q Q<|lE (p:=(x31.Key,x31.GX,x31.dO)) () [26,1,2,3,4,5,6,7,8,28,9,10,11,12] hF Q)) (have hq37:=rb hA7;wi hq37<|qA xE 18 Q Q Q fun u34 h33 _ h34=>fun hq37=>l5 3 h34 h33 Q Q Q Q Q<|match u34,hq37 with | _,rfl=>sF Q<|swR 3 2 Q<|fD Q Q<|iW xE 24 [] h33 () Q Q Q Q Q Q Q<|fR Q Q<|iW aT 13 [16,17,27,19,20,21,22] h29 s52 Q Q Q Q Q Q Q<|fR Q Q<|lE (p:=(x31.Key,x31.GX,x31.dO)) () [23,1,2,3,4,5,6,7,8,28,9,10,11,12] hF Q)) ((by refine dD Q Q ?_ ?_ <;> exact have hq38:=rb hA6;ro aT 0 12 1 Q Q Q Q hq38 fun u35 h35 hq38 s53=>match u35,hq38 with | _,rfl=>have hq39:=rb hA7;wi hq39<|qA xE 19 Q Q Q fun u36 h37 _ h38=>fun hq39=>l5 3 h38 h37 Q Q Q Q Q<|match u36,hq39 with | _,rfl=>sF Q<|swR 3 2 Q<|fD Q Q<|iW xE 24 [] h37 () Q Q Q Q Q Q Q<|fR Q Q<|iW aT 14 [17,18,27,20,21,22,23] h35 s53 Q Q Q Q Q Q Q<|fR Q Q<|lE (p:=(x31.Key,x31.GX,x31.dO)) () [13,1,2,3,4,5,6,7,8,28,9,10,11,12] hF Q))) fun⟨x3,x4,x5⟩ _=>iO aC [0,12,13] Q<|c0 Q (fun _=>O0) fun x6=>qA uS 8 Q Q Q fun x7 h5 _ h6=>fun hF=>l5 4 h6 h5 Q Q Q Q Q<|ro aT 9 13 1 Q Q Q Q hF fun x8 h7 hF s14=>wi hF<|bM [53,54] Q Q (bM [72] Q Q (eB 18 1 0 32 [20,21,22,23,24,25,26] Q Q Q Q Q (fun _=>C1 (j:=({x8 with Pc:=10,H:=x7.Head,fF:=0}:aE))) fun x9 _=>fun hF=>sF Q<|l6 aT 17 [27,28,29,30,31,32,33] [] x9 s14 Q Q Q Q Q Q Q Q<|fR Q Q<|oZ s9 cL.symm [] [(12,9)] Q Q Q<|fR Q Q<|iW uS 14 [] h5 () Q Q Q Q Q Q Q<|fR Q Q<|p5 (hT:=tok) (s1,s2,s3,s4) [12,1,2,3,4,5,6,7,35,34,10,11] hF Q results54 Q Q Q Q)<|fun hF=>sF Q<|l6 aT 17 [20,21,22,23,24,25,26] [] ({x8 with Pc:=10,H:=x7.Head,fF:=0}:aE) s14 Q Q Q Q Q Q Q Q<|fR Q Q<|oZ s9 cL.symm [] [(12,9)] Q Q Q<|fR Q Q<|iW uS 14 [] h5 () Q Q Q Q Q Q Q<|fR Q Q<|p5 (hT:=tok) (s1,s2,s3,s4) [12,1,2,3,4,5,6,7,28,27,10,11] hF Q results54 Q Q Q Q)<|bM [76,77] Q Q (iO aC [0,12,13,16,19] Q<|c0 Q (fun h=>UH (h.o 1 Q) (h.o 2 Q) (h.o 3 Q) (h.o 4 Q)) fun x10=>iO aC [0,12,13,16,19] Q<|bM [109,117] Q Q (fun hF=>sF Q<|l6 aT 17 [20,21,22,23,24,25,26] [] ({x8 with Pc:=11,Node:=x10.1}:aE) s14 Q Q Q Q Q Q Q Q<|fR Q Q<|oZ s9 cL.symm [] [(12,9)] Q Q Q<|fR Q Q<|iW uS 14 [] h5 () Q Q Q Q Q Q Q<|fR Q Q<|p5 (hT:=tok) (s1,s2,s3,s4) [12,1,2,3,4,5,6,7,28,27,10,11] hF Q results54 Q Q Q Q)<|c0 Q (fun _=>cK) fun x11=>bM [121,127] Q Q (eB 18 1 0 32 [20,21,22,23,24,25,26] Q Q Q Q Q (fun _=>C1 (j:=({x8 with Node:=x10.1}:aE))) fun x12 _=>fun hF=>sF Q<|l6 aT 17 [27,28,29,30,31,32,33] [] x12 s14 Q Q Q Q Q Q Q Q<|fR Q Q<|oZ s9 cL.symm [] [(12,9)] Q Q Q<|fR Q Q<|iW uS 14 [] h5 () Q Q Q Q Q Q Q<|fR Q Q<|p5 (hT:=tok) (s1,s2,s3,s4) [12,1,2,3,4,5,6,7,35,34,10,11] hF Q results54 Q Q Q Q)<|eI 0 5 (wZ t) [0] (fun(x13:(List aE)) (_:Unit)=>[]) [1,2,3,4,5,6,7,10,11] (fun x13 _=>[ow s8 (t.cS:List bT),ow s9 (x13:List aE),.box 0 [.h s1 t.aB.Mem.Heap.Bytes.length,.h s2 t.aB.Mem.Heap.Class.length,.h s3 t.aB.Mem.aA.Global.length,.h s4 t.aB.Mem.aA.Own.length,I t.aB.aH.aM,.h s5 t.aB.aH.cV.length,.h s6 t.aB.bJ.length,.h s7 t.aB.A4.length,.h s8 t.cS.length,.h s9 x13.length,.h s10 t.gZ.length,.h s11 t.Log.length,I t.aS]]) Q (iO aC [0,12,13,16,19] Q<|fun hF=>bd hF fun x14 hA1 hF=>dD Q Q (have hq1:=rb hA1;wi hq1<|c0 Q (fun _=>cK) fun u1=>fun hq1=>match u1,hq1 with | _,rfl=>sF Q<|l6 aT 17 [20,21,22,23,24,25,26] [] ({x8 with H:=x14,fF:=x8.H,Node:=x10.1}:aE) s14 Q Q Q Q Q Q Q Q<|fR Q Q<|oZ s9 cL.symm [] [(12,9)] Q Q Q<|fR Q Q<|iW uS 14 [] h5 () Q Q Q Q Q Q Q<|fR Q Q<|lE (p:=(t.aN.set w_.toNat ({x8 with H:=x14,fF:=x8.H,Node:=x10.1}:aE))) () [28,27,12,1,2,3,4,5,6,7,10,11] hF Q) ((by refine dD Q Q ?_ ?_ <;> exact have hq2:=rb hA1;wi hq2<|c0 Q (fun _=>cK) fun u2=>fun hq2=>match u2,hq2 with | _,rfl=>sF Q<|l6 aT 17 [20,21,22,23,24,25,26] [] ({x8 with H:=x14,fF:=x8.H,Node:=x10.1}:aE) s14 Q Q Q Q Q Q Q Q<|fR Q Q<|oZ s9 cL.symm [] [(12,9)] Q Q Q<|fR Q Q<|iW uS 14 [] h5 () Q Q Q Q Q Q Q<|fR Q Q<|lE (p:=(t.aN.set w_.toNat ({x8 with H:=x14,fF:=x8.H,Node:=x10.1}:aE))) () [28,27,12,1,2,3,4,5,6,7,10,11] hF Q))) fun x13 _=>DF (s1,s2,s3,s4) [2,3,4,5,6,7,8,9,0,1,10,11] Q Q)<|bM [131,132] Q Q (eI 0 5 (lD w_ x3 x4 x5) [0,4,5] (fun(x15:Table) (u:A4C)=>[]) [13,0] (fun x15 u=>(QX x15 u.1 u.2.1 u.2.2.1 u.2.2.2 s5 s6 s7 s8 s9 s10 s11 [.box 0 (QA x15 u.1 u.2.1 u.2.2.1 u.2.2.2 s5 s6 s7 s8 s9 s10 s11)])) Q (bM [137] Q Q (c0 Q (fun _=>cK) fun x25=>fun hF=>sF Q<|iW aT 17 [20,21,22,23,24,25,26] h7 s14 Q Q Q Q Q Q Q<|fR Q Q<|l6 uS 14 [] [39] ({x7 with Head:=x25}:bT) () Q Q Q Q Q Q Q Q<|fR Q Q<|oZ s8 cL.symm [] [(12,8)] Q Q Q<|fR Q Q<|lE (s1,s2,s3,s4) [1,2,3,4,5,6,7,28,27,10,11,12,13,0] hF Q)<|eI 0 5 (xB w_ x3 x4 x5) [0,4,5] (fun(x26:Table) (u:A4C)=>[]) [13,0] (fun x26 u=>(QX x26 u.1 u.2.1 u.2.2.1 u.2.2.2 s5 s6 s7 s8 s9 s10 s11 [.box 0 (QA x26 u.1 u.2.1 u.2.2.1 u.2.2.2 s5 s6 s7 s8 s9 s10 s11)])) Q (iO aC [0,13,16,19] Q<|fun hF=>bd hF fun x27 hA4 hF=>bd hF fun x28 hA5 hF=>aFW Q Q (dD Q Q (have hq9:=rb hA4;wi hq9<|c0 Q (fun _=>cK) fun u6=>fun hq9=>match u6,hq9 with | _,rfl=>have hq10:=rb hA5;wi hq10<|c1 Q (fun h=>oE (h.o 1 Q) (h.o 2 Q) (h.o 3 Q) (h.o 4 Q)) fun u7 s37=>fun hq10=>match u7,hq10 with | _,rfl=>sF Q<|iW aT 17 [20,21,22,23,24,25,26] h7 s14 Q Q Q Q Q Q Q<|fR Q Q<|iW uS 14 [] h5 () Q Q Q Q Q Q Q<|fR Q Q<|lE (p:=(({t with aB:=(⟨x28.1,t.aB.aH,t.aB.bJ,t.aB.A4⟩:aB)}:Table))) s37 [27,28,29,30,5,6,7,32,31,10,11,12,13,0] hF Q) ((by refine dD Q Q ?_ ?_ <;> exact have hq11:=rb hA4;wi hq11<|c0 Q (fun _=>cK) fun u8=>fun hq11=>match u8,hq11 with | _,rfl=>have hq12:=rb hA5;wi hq12<|c1 Q (fun h=>oE (h.o 1 Q) (h.o 2 Q) (h.o 3 Q) (h.o 4 Q)) fun u9 s38=>fun hq12=>match u9,hq12 with | _,rfl=>sF Q<|iW aT 17 [20,21,22,23,24,25,26] h7 s14 Q Q Q Q Q Q Q<|fR Q Q<|iW uS 14 [] h5 () Q Q Q Q Q Q Q<|fR Q Q<|lE (p:=(({t with aB:=(⟨x28.1,t.aB.aH,t.aB.bJ,t.aB.A4⟩:aB)}:Table))) s38 [27,28,29,30,5,6,7,32,31,10,11,12,13,0] hF Q))) (dD Q Q (have hq15:=rb hA4;wi hq15<|c0 Q (fun _=>cK) fun u12=>fun hq15=>match u12,hq15 with | _,rfl=>have hq16:=rb hA5;wi hq16<|c1 Q (fun h=>oE (h.o 1 Q) (h.o 2 Q) (h.o 3 Q) (h.o 4 Q)) fun u13 s40=>fun hq16=>match u13,hq16 with | _,rfl=>sF Q<|iW aT 17 [20,21,22,23,24,25,26] h7 s14 Q Q Q Q Q Q Q<|fR Q Q<|iW uS 14 [] h5 () Q Q Q Q Q Q Q<|fR Q Q<|lE (p:=(({t with aB:=(⟨x28.1,t.aB.aH,t.aB.bJ,t.aB.A4⟩:aB)}:Table))) s40 [27,28,29,30,5,6,7,32,31,10,11,12,13,0] hF Q) ((by refine dD Q Q ?_ ?_ <;> exact have hq17:=rb hA4;wi hq17<|c0 Q (fun _=>cK) fun u14=>fun hq17=>match u14,hq17 with | _,rfl=>have hq18:=rb hA5;wi hq18<|c1 Q (fun h=>oE (h.o 1 Q) (h.o 2 Q) (h.o 3 Q) (h.o 4 Q)) fun u15 s41=>fun hq18=>match u15,hq18 with | _,rfl=>sF Q<|iW aT 17 [20,21,22,23,24,25,26] h7 s14 Q Q Q Q Q Q Q<|fR Q Q<|iW uS 14 [] h5 () Q Q Q Q Q Q Q<|fR Q Q<|lE (p:=(({t with aB:=(⟨x28.1,t.aB.aH,t.aB.bJ,t.aB.A4⟩:aB)}:Table))) s41 [27,28,29,30,5,6,7,32,31,10,11,12,13,0] hF Q))) (aFW Q Q ((by refine dD Q Q ?_ ?_ <;> exact have hq21:=rb hA4;wi hq21<|c0 Q (fun _=>cK) fun u18=>fun hq21=>match u18,hq21 with | _,rfl=>have hq22:=rb hA5;wi hq22<|c1 Q (fun h=>oE (h.o 1 Q) (h.o 2 Q) (h.o 3 Q) (h.o 4 Q)) fun u19 s43=>fun hq22=>match u19,hq22 with | _,rfl=>sF Q<|iW aT 17 [20,21,22,23,24,25,26] h7 s14 Q Q Q Q Q Q Q<|fR Q Q<|iW uS 14 [] h5 () Q Q Q Q Q Q Q<|fR Q Q<|lE (p:=(({t with aB:=(⟨x28.1,t.aB.aH,t.aB.bJ,t.aB.A4⟩:aB)}:Table))) s43 [27,28,29,30,5,6,7,32,31,10,11,12,13,0] hF Q)) ((by refine dD Q Q ?_ ?_ <;> exact have hq25:=rb hA4;wi hq25<|c0 Q (fun _=>cK) fun u22=>fun hq25=>match u22,hq25 with | _,rfl=>have hq26:=rb hA5;wi hq26<|c1 Q (fun h=>oE (h.o 1 Q) (h.o 2 Q) (h.o 3 Q) (h.o 4 Q)) fun u23 s45=>fun hq26=>match u23,hq26 with | _,rfl=>sF Q<|iW aT 17 [20,21,22,23,24,25,26] h7 s14 Q Q Q Q Q Q Q<|fR Q Q<|iW uS 14 [] h5 () Q Q Q Q Q Q Q<|fR Q Q<|lE (p:=(({t with aB:=(⟨x28.1,t.aB.aH,t.aB.bJ,t.aB.A4⟩:aB)}:Table))) s45 [27,28,29,30,5,6,7,32,31,10,11,12,13,0] hF Q)) (have hq29:=rb hA4;wi hq29<|c0 Q (fun _=>cK) fun u26=>fun hq29=>match u26,hq29 with | _,rfl=>(by refine dD Q Q ?_ ?_ <;> exact have hq30:=rb hA5;wi hq30<|c1 Q (fun h=>oE (h.o 1 Q) (h.o 2 Q) (h.o 3 Q) (h.o 4 Q)) fun u27 s47=>fun hq30=>match u27,hq30 with | _,rfl=>sF Q<|iW aT 17 [20,21,22,23,24,25,26] h7 s14 Q Q Q Q Q Q Q<|fR Q Q<|iW uS 14 [] h5 () Q Q Q Q Q Q Q<|fR Q Q<|lE (p:=(({t with aB:=(⟨x28.1,t.aB.aH,t.aB.bJ,t.aB.A4⟩:aB)}:Table))) s47 [27,28,29,30,5,6,7,32,31,10,11,12,13,0] hF Q)))) fun x26 ⟨s32,s33,s34,s35⟩=>vB (p:=(x26)) (s32,s33,s34,s35) [0,1,2,3,4,5,6,7,8,9,10,11,12,13] Q Q) fun x15 ⟨s15,s16,s17,s18⟩=>eI 1 5 (lC w_ x3 x4 x5) [0,4,5] (fun(x16:Table) (_:Unit)=>[]) [12,13] (fun x16 _=>(QX x16 s15 s16 s17 s18 s5 s6 s7 s8 s9 s10 s11 [.box 0 (QA x16 s15 s16 s17 s18 s5 s6 s7 s8 s9 s10 s11)])) Q (eI 0 5 (fun(p:Bool×Table)=>oT w_ x3 x4 x5 p.1 p.2) [0,4,5] (fun(p:Bool×Table) (_:Unit)=>[(180,.b p.1)]) [12,13] (fun p _=>(QX p.2 s15 s16 s17 s18 s5 s6 s7 s8 s9 s10 s11 [.box 0 (QA p.2 s15 s16 s17 s18 s5 s6 s7 s8 s9 s10 s11)])) Q (fun hF=>ro aT 8 12 1 Q Q Q Q hF fun x23 h17 hF s31=>wi hF<|c0 Q (fun _=>kS) fun x24=>eS [172,173] Q Q (fun hF=>sF Q<|iW aT 14 [17,18,19,20,21,22,23] h17 s31 Q Q Q Q Q Q Q<|fR Q Q<|lE (p:=(decide ((x23.cG.length:Int) < 6),x15)) () [0,1,2,3,4,5,6,7,24,9,10,11,12,13] hF Q)<|fun hF=>sF Q<|iW aT 14 [17,18,19,20,21,22,23] h17 s31 Q Q Q Q Q Q Q<|fR Q Q<|lE (p:=(false,x15)) () [0,1,2,3,4,5,6,7,24,9,10,11,12,13] hF Q) fun⟨x19,x20⟩ _=>bM [180] Q Q (eI 0 5 (xA w_ x3 x4 x5) [0,4,5] (fun(x21:Table) (_:Unit)=>[]) [12,13] (fun x21 _=>(QX x21 s15 s16 s17 s18 s5 s6 s7 s8 s9 s10 s11 [.box 0 (QA x21 s15 s16 s17 s18 s5 s6 s7 s8 s9 s10 s11)])) Q (iO aC [11,12,13] Q<|fun hF=>bd hF fun x22 hA2 hF=>nd hF fun hA3 hF=>dD Q Q (have hq4:=rb hA2;ro aT 8 12 1 Q Q Q Q hq4 fun u4 h13 hq4 s23=>match u4,hq4 with | _,rfl=>lt1 Q bH Q Q Q Q fun s24=>have hq5:=rn hA3;ap 23 bH Q Q Q Q Q Q Q (fun h=>(h.o 24 Q)) Q Q hq5 fun hq5 s25=>sF Q<|l6 aT 14 [17,18,19,20,21,22,23] [] ({x22 with cG:=x22.cG++([x22.H])}:aE) (s23.1,s23.2.1,s23.2.2.1,s23.2.2.2.1,s23.2.2.2.2.1,s23.2.2.2.2.2.1,s25) Q Q Q Q Q Q Q Q<|fR Q Q<|oZ s9 cL.symm [] [(11,9)] Q Q Q<|fR Q Q<|lE (p:=(({x20 with aN:=x20.aN.set w_.toNat ({x22 with cG:=x22.cG++([x22.H])}:aE)}:Table))) () [0,1,2,3,4,5,6,7,25,9,10,11,12,13] hF Q) (have hq6:=rb hA2;ro aT 8 12 1 Q Q Q Q hq6 fun u5 h15 hq6 s26=>match u5,hq6 with | _,rfl=>(by refine dD Q Q ?_ ?_ <;> exact lt1 Q bH Q Q Q Q fun s27=>have hq7:=rn hA3;ap 23 bH Q Q Q Q Q Q Q (fun h=>(h.o 24 Q)) Q Q hq7 fun hq7 s28=>sF Q<|l6 aT 14 [17,18,19,20,21,22,23] [] ({x22 with cG:=x22.cG++([x22.H])}:aE) (s26.1,s26.2.1,s26.2.2.1,s26.2.2.2.1,s26.2.2.2.2.1,s26.2.2.2.2.2.1,s28) Q Q Q Q Q Q Q Q<|fR Q Q<|oZ s9 cL.symm [] [(11,9)] Q Q Q<|fR Q Q<|lE (p:=(({x20 with aN:=x20.aN.set w_.toNat ({x22 with cG:=x22.cG++([x22.H])}:aE)}:Table))) () [0,1,2,3,4,5,6,7,25,9,10,11,12,13] hF Q))) fun x21 _=>cA (p:=(x21)) [0,1,2,3,4,5,6,7,8,9,10,11,12,13] Q Q)<|cA [0,1,2,3,4,5,6,7,8,9,10,11,12,13] Q Q) fun x16 _=>fun hF=>ro aT 8 12 1 Q Q Q Q hF fun x17 h9 hF s19=>wi hF<|eB 15 1 0 32 [17,18,19,20,21,22,23] Q Q Q Q Q (fun _=>C1) fun x18 _=>fun hF=>sF Q<|l6 aT 14 [24,25,26,27,28,29,30] [] x18 s19 Q Q Q Q Q Q Q Q<|fR Q Q<|oZ s9 cL.symm [] [(11,9)] Q Q Q<|fR Q Q<|p5 (hT:=tok) (s15,s16,s17,s18) [11,0,1,2,3,4,5,6,7,31,9,10] hF Q results54 Q Q Q Q)<|a4A 12 0 0 13 18 1 0 32 15 4 0 3 [1,2,3,4,5,6,7,10,11,20,21,22,23,24,25,26] Q Q Q Q Q (fun _=>W7) fun x29 s49=>fun hF=>fG Q Q<|sF Q<|l6 aT 17 [36,37,38,39,40,41,42] [] x29.2.1 s14 Q Q Q Q Q Q Q Q<|fR Q Q<|oZ s9 cL.symm [] [(12,9)] Q Q Q<|fR Q Q<|l6 uS 14 [] [39] x29.2.2 () Q Q Q Q Q Q Q Q<|fR Q Q<|oZ s8 cL.symm [] [(12,8)] Q Q Q<|fR Q Q<|p5 (hT:=tok) s49 [12,27,28,29,30,31,32,33,44,43,34,35] hF Q results54 Q Q Q Q
theorem G8{s:List Int}{i j:Int}{s1:AC}:VS prog κ 117 (nS s i j) [.h s1 s.length,I i,I j] [] [ow s1 (s:List Int)] (fun(r:(List Int)) (y:AC)=>.h y r.length) (fun(r:(List Int)) (y:AC)=>[ow y r]):=
 cT tok call117 func117 results117 Q Q<|fun hF=>cpc 0 Q Q fun hc1=>aN1 hc1 Q Q Q Q Q Q Q Q hF fun hF h1=>wi hF<|bM [16] Q Q (lS s1 [0] Q Q)<|iO aC [] Q<|fun hF=>aNZ hc1 Q Q Q Q Q Q hF fun hF h2=>aI8 hc1 Q Q Q Q Q Q hF fun hF h3=>nd hF fun hab hF=>ap2 0 i.toNat j.toNat ⟨hab,h3.1⟩ Q Q Q Q Q Q Q Q Q fun h4=>aVH 0 (i.toNat+(s.length - j.toNat)) h4.2 (vF h4.1 h4.2) Q Q Q Q Q Q Q Q Q hF fun hF h5=>clr 0 (((((cM s i.toNat (s.drop j.toNat)).take (i.toNat+(s.length - j.toNat))).drop 0).length:Int).toNat) ((s.length:Int).toNat) (0:Int) h5 bH Q (fun _=>Q) Q Q Q Q Q Q Q Q<|sR Q<|poR 0 0 (i.toNat+(s.length - j.toNat)) Q Q (aN0 h4 (sS h5.1 h5.2)) (aI9 (PG (by rw [JZ,vF h4.1 h4.2];rfl)) (sS h5.1 h5.2))<|p5 (hT:=tok) (AC.sub s1 1 0) [0] hF Q results117 Q Q Q Q
theorem C3{j:aE}{s1 s2 s3 s4 s5 s6 s7:AC}{b0:Nat×Nat}:VS prog κ 118 (j7 j) [.p 0 0] [b0] [.box 0 [.b j.iY,.b j.Batch.Collect,.h s1 j.Batch.bK.length,I j.aS,I j.Pc,I j.At,I j.K,I j.bT,I j.fM,I j.H,I j.fF,I j.Node.Key,I j.Node.dO,I j.Node.Next,.b j.Found,I j.Code,I j.Sub.Kind,I j.Sub.A,I j.Sub.Pc,I j.Sub.E,I j.Sub.Row,I j.Sub.B,I j.Sub.H,I j.Sub.Out,I j.Sub.Code,.b j.Sub.dJ,.h s2 j.Reads.length,.h s3 j.aJ.length,.h s4 j.eA.length,.h s5 j.fL.length,.h s6 j.aW.length,.h s7 j.cG.length],ow s1 (j.Batch.bK:List iG),ow s2 (j.Reads:List Seen),ow s3 (j.aJ:List aU),ow s4 (j.eA:List eA),ow s5 (j.fL:List Int),ow s6 (j.aW:List Int),ow s7 (j.cG:List Int)] (fun(r:aE) (y:Unit)=>.t []) (fun(r:aE) (y:Unit)=>[.box 0 [.b r.iY,.b r.Batch.Collect,.h s1 r.Batch.bK.length,I r.aS,I r.Pc,I r.At,I r.K,I r.bT,I r.fM,I r.H,I r.fF,I r.Node.Key,I r.Node.dO,I r.Node.Next,.b r.Found,I r.Code,I r.Sub.Kind,I r.Sub.A,I r.Sub.Pc,I r.Sub.E,I r.Sub.Row,I r.Sub.B,I r.Sub.H,I r.Sub.Out,I r.Sub.Code,.b r.Sub.dJ,.h s2 r.Reads.length,.h s3 r.aJ.length,.h s4 r.eA.length,.h s5 r.fL.length,.h s6 r.aW.length,.h s7 r.cG.length],ow s1 r.Batch.bK,ow s2 r.Reads,ow s3 r.aJ,ow s4 r.eA,ow s5 r.fL,ow s6 r.aW,ow s7 r.cG]):=
 cT tok call118 func118 results118 Q Q<|iO aC [0] Q<|bM [11] Q Q (eI 0 1 pJ [0] (fun(x1:aE) (_:Unit)=>[]) [] (fun x1 _=>[ow s1 (x1.Batch.bK:List iG),ow s2 (x1.Reads:List Seen),ow s3 (x1.aJ:List aU),ow s4 (x1.eA:List eA),ow s5 (x1.fL:List Int),ow s6 (x1.aW:List Int),ow s7 (x1.cG:List Int),.box 0 [.b x1.iY,.b x1.Batch.Collect,.h s1 x1.Batch.bK.length,I x1.aS,I x1.Pc,I x1.At,I x1.K,I x1.bT,I x1.fM,I x1.H,I x1.fF,I x1.Node.Key,I x1.Node.dO,I x1.Node.Next,.b x1.Found,I x1.Code,I x1.Sub.Kind,I x1.Sub.A,I x1.Sub.Pc,I x1.Sub.E,I x1.Sub.Row,I x1.Sub.B,I x1.Sub.H,I x1.Sub.Out,I x1.Sub.Code,.b x1.Sub.dJ,.h s2 x1.Reads.length,.h s3 x1.aJ.length,.h s4 x1.eA.length,.h s5 x1.fL.length,.h s6 x1.aW.length,.h s7 x1.cG.length]]) Q (iO aC [] Q<|fun hF=>bd hF fun x2 hA1 hF=>bd hF fun x3 hA2 hF=>(by refine dD Q Q ?_ ?_ <;> exact have hq1:=rb hA1;wi hq1<|qA oI 7 Q Q Q fun u1 h3 _ h4=>fun hq1=>l5 1 h4 h3 Q Q Q Q Q<|match u1,hq1 with | _,rfl=>have hq2:=rb hA2;wi hq2<|c0 Q (fun _=>oC) fun u2=>fun hq2=>match u2,hq2 with | _,rfl=>sF Q<|iW oI 8 [] h3 () Q Q Q Q Q Q Q<|lE (p:=(({j with Sub:=x3}:aE))) () [1,2,3,4,5,6,11,0] hF Q)) fun x1 _=>DF () [7,0,1,2,3,4,5,6] Q Q)<|DF () [0,1,2,3,4,5,6,7] Q Q
theorem TN{t:Table}{w_:Int}{s1 s2 s3 s4 s5 s6 s7 s8 s9 s10 s11:AC}{b0:Nat×Nat}:VS prog κ 55 (tF t w_) [.p 0 0,I w_] [b0] ([.box 0 (QA t s1 s2 s3 s4 s5 s6 s7 s8 s9 s10 s11)]++(QX t s1 s2 s3 s4 s5 s6 s7 s8 s9 s10 s11 [])) (fun(r:Table) (y:Unit)=>.t []) (fun(r:Table) (y:Unit)=>([.box 0 (QA r s1 s2 s3 s4 s5 s6 s7 s8 s9 s10 s11)]++(QX r s1 s2 s3 s4 s5 s6 s7 s8 s9 s10 s11 []))):=
 cT tok call55 func55 results55 Q Q<|qA aT 9 Q Q Q fun x1 h1 s12 h2=>fun hF=>l5 1 h2 h1 Q Q Q Q Q<|wi hF<|bM [20,26] Q Q (iO aC [0,14] Q<|qA oI 20 Q Q Q fun x2 h3 _ h4=>fun hF=>l5 2 h4 h3 Q Q Q Q Q<|wi hF<|qA uS 8 Q Q Q fun x3 h5 _ h6=>fun hF=>l5 3 h6 h5 Q Q Q Q Q<|wi hF<|eI 0 4 (j8 t w_) [0,4] (fun(x4:(List bT)) (_:Unit)=>[]) [1,2,3,4,5,6,7,10,11,14] (fun x4 _=>[ow s8 (x4:List bT),ow s9 (t.aN:List aE),.box 0 [.h s1 t.aB.Mem.Heap.Bytes.length,.h s2 t.aB.Mem.Heap.Class.length,.h s3 t.aB.Mem.aA.Global.length,.h s4 t.aB.Mem.aA.Own.length,I t.aB.aH.aM,.h s5 t.aB.aH.cV.length,.h s6 t.aB.bJ.length,.h s7 t.aB.A4.length,.h s8 x4.length,.h s9 t.aN.length,.h s10 t.gZ.length,.h s11 t.Log.length,I t.aS]]) Q (bM [45] Q Q (fun hF=>a1U Q Q Q Q<|sF Q<|l6 uS 25 [] [30] (⟨x3.Head,if 1000000 < (aX (x3.fM+1)) then 1000000 else (aX (x3.fM+1)),0⟩:bT) () Q Q Q Q Q Q Q Q<|oZ s8 cL.symm [] [(0,8)] Q Q Q<|fR Q Q<|iW oI 22 [] h3 () Q Q Q Q Q Q Q<|fR Q Q<|iW aT 12 [15,16,17,18,19,29,21] h1 s12 Q Q Q Q Q Q Q<|fR Q Q<|lE () [28,30,0,1,2,3,4,5,6,7,10,11,14] hF Q)<|fun hF=>sF Q<|l6 uS 25 [] [30] ({x3 with fO:=0}:bT) () Q Q Q Q Q Q Q Q<|fR Q Q<|oZ s8 cL.symm [] [(0,8)] Q Q Q<|fR Q Q<|iW oI 22 [] h3 () Q Q Q Q Q Q Q<|fR Q Q<|iW aT 12 [15,16,17,18,19,29,21] h1 s12 Q Q Q Q Q Q Q<|fR Q Q<|lE () [28,30,0,1,2,3,4,5,6,7,10,11,14] hF Q) fun x4 _=>fun hF=>ro aT 1 12 1 Q Q Q Q hF fun x5 h7 hF s13=>wi hF<|J1 [21] Q Q Q Q (fun _=>G8) fun x6 s14=>fun hF=>sF Q<|l6 aT 13 [16,17,18,19,20,23,22] [] ({x5 with aW:=x6}:aE) (s13.1,s13.2.1,s13.2.2.1,s13.2.2.2.1,s13.2.2.2.2.1,s14,s13.2.2.2.2.2.2) Q Q Q Q Q Q Q Q<|fR Q Q<|oZ s9 cL.symm [] [(2,9)] Q Q Q<|fR Q Q<|p5 (hT:=tok) () [2,3,4,5,6,7,8,9,0,24,10,11] hF Q results55 Q Q Q Q)<|bM [63,68] Q Q (fun hF=>sF Q<|l6 aT 12 [15,16,17,18,19,20,21] [9] ({x1 with Pc:=17}:aE) s12 Q Q Q Q Q Q Q Q<|fR Q Q<|oZ s9 cL.symm [] [(0,9)] Q Q Q<|fR Q Q<|p5 (hT:=tok) () [0,1,2,3,4,5,6,7,8,22,10,11] hF Q results55 Q Q Q Q)<|eB 13 1 0 32 [15,16,17,18,19,20,21] Q Q Q Q Q (fun _=>C3 (j:=({x1 with Pc:=15,K:=0}:aE))) fun x7 _=>fun hF=>sF Q<|l6 aT 12 [22,23,24,25,26,27,28] [9] x7 s12 Q Q Q Q Q Q Q Q<|fR Q Q<|oZ s9 cL.symm [] [(0,9)] Q Q Q<|fR Q Q<|p5 (hT:=tok) () [0,1,2,3,4,5,6,7,8,29,10,11] hF Q results55 Q Q Q Q
theorem TO{t:Table}{w_:Int}{s1 s2 s3 s4 s5 s6 s7 s8 s9 s10 s11:AC}{b0:Nat×Nat}:VS prog κ 56 (tG t w_) [.p 0 0,I w_] [b0] ([.box 0 (QA t s1 s2 s3 s4 s5 s6 s7 s8 s9 s10 s11)]++(QX t s1 s2 s3 s4 s5 s6 s7 s8 s9 s10 s11 [])) (fun(r:Table) (y:A6C)=>.t []) (fun(r:Table) (y:A6C)=>([.box 0 (QA r y.1 y.2.1 y.2.2.1 y.2.2.2.1 y.2.2.2.2.1 y.2.2.2.2.2 s7 s8 s9 s10 s11)]++(QX r y.1 y.2.1 y.2.2.1 y.2.2.2.1 y.2.2.2.2.1 y.2.2.2.2.2 s7 s8 s9 s10 s11 []))):=
 cT tok call56 func56 results56 Q Q<|qA aT 9 Q Q Q fun x1 h1 s12 h2=>fun hF=>l5 1 h2 h1 Q Q Q Q Q<|wi hF<|eI 0 2 (fun(_:Unit)=>uF t w_ x1) [0,1,4] (fun(_:Unit) (_:Unit)=>[(20,.b (decide ((x1.cG.length:Int)<=x1.K)))]) [1,2,3,4,5,6,7,8,10,11,0,14] (fun _ _=>[ow s9 (t.aN:List aE)]) Q (iO aC [0,14] Q<|fun hF=>(by refine dD Q Q ?_ ?_ <;> exact sF Q<|iW aT 12 [15,16,17,18,19,20,21] h1 s12 Q Q Q Q Q Q Q<|fR Q Q<|lE (p:=()) () [22,1,2,3,4,5,6,7,8,10,11,0,14] hF Q)) fun _ _=>bM [20] Q Q (fun hF=>ro aT 0 12 1 Q Q Q Q hF fun x2 h3 hF s13=>sR Q<|l6 aT 13 [16,17,18,19,20,21,22] [] ({x2 with Pc:=18}:aE) s13 Q Q Q Q Q Q Q Q<|fR Q Q<|oZ s9 cL.symm [] [(11,9)] Q Q Q<|fR Q Q<|p5 (hT:=tok) (s1,s2,s3,s4,s5,s6) [11,1,2,3,4,5,6,7,8,23,9,10] hF Q results56 Q Q Q Q)<|iO aC [12] Q<|fun hF=>ro aT 0 12 1 Q Q Q Q hF fun x3 h5 hF s14=>wi hF<|aJB 14 1 16 10 11 0 0 8 [1,2,3,4,5,6,7] Q Q Q Q Q (fun _=>GN) fun x4 s15=>bM [36] Q Q (eB 14 1 0 32 [16,17,18,19,20,21,22] Q Q Q Q Q (fun _=>C3 (j:=({x3 with K:=aX (x3.K+1),Sub:=x4.1}:aE))) fun x5 _=>fun hF=>sF Q<|l6 aT 13 [30,31,32,33,34,35,36] [] x5 s14 Q Q Q Q Q Q Q Q<|fR Q Q<|oZ s9 cL.symm [] [(11,9)] Q Q Q<|fR Q Q<|p5 (hT:=tok) s15 [11,23,24,25,26,27,28,29,8,37,9,10] hF Q results56 Q Q Q Q)<|fun hF=>sF Q<|l6 aT 13 [16,17,18,19,20,21,22] [] ({x3 with Sub:=x4.1}:aE) s14 Q Q Q Q Q Q Q Q<|fR Q Q<|oZ s9 cL.symm [] [(11,9)] Q Q Q<|fR Q Q<|p5 (hT:=tok) s15 [11,23,24,25,26,27,28,29,8,30,9,10] hF Q results56 Q Q Q Q
theorem aEA{m:Mem}{w_ h:Int}{s1 s2 s3 s4:AC}(h1:bY κ s1 m.Heap.Bytes)(h2:bY κ s2 m.Heap.Class)(h3:bY κ s3 m.aA.Global)(h4:bY κ s4 m.aA.Own):VS prog κ 120 (HZ m w_ h) [.g (gM m s1 s2 s3 s4),I w_,I h] [] [] (fun r (y:A4C)=>.t [.g (yM r.1 y),I r.2]) (fun r y=>(zM r.1 y [])):=
 cT tok call120 func120 results120 Q Q<|eD 0 2 (y7 m w_ h) [1,2,3,6] 8 [0,1] Q (c0 Q (fun h=>O1 (h.a h1) (h.a h2) (h.a h3) (h.a h4)) fun x6=>eS [11,12] Q Q (cA [0,1] Q Q)<|c0 Q (fun _=>gN) fun x7=>cA [0,1] Q Q) fun x1=>bM [8] Q Q (c1 Q (fun h=>C2 (h.a h1) (h.a h2) (h.a h3) (h.a h4)) fun x2 s5=>lS s5 [2,3,4,5] Q Q)<|c0 Q (fun h=>ME (h.a h1) (h.a h2) (h.a h3) (h.a h4)) fun x3=>bM [19,23] Q Q (c1 Q (fun h=>C2 (h.a h1) (h.a h2) (h.a h3) (h.a h4)) fun x4 s6=>lS s6 [2,3,4,5] Q Q)<|c1 Q (fun h=>WY (h.a h1) (h.a h2) (h.a h3) (h.a h4)) fun x5 s7=>lS s7 [2,3,4,5] Q Q
theorem W8{t:Table}{w_:Int}{s1 s2 s3 s4 s5 s6 s7 s8 s9 s10 s11:AC}{b0:Nat×Nat}:VS prog κ 57 (y8 t w_) [.p 0 0,I w_] [b0] ([.box 0 (QA t s1 s2 s3 s4 s5 s6 s7 s8 s9 s10 s11)]++(QX t s1 s2 s3 s4 s5 s6 s7 s8 s9 s10 s11 [])) (fun(r:Table) (y:A4C)=>.t []) (fun(r:Table) (y:A4C)=>([.box 0 (QA r y.1 y.2.1 y.2.2.1 y.2.2.2 s5 s6 s7 s8 s9 s10 s11)]++(QX r y.1 y.2.1 y.2.2.1 y.2.2.2 s5 s6 s7 s8 s9 s10 s11 []))):=
 cT tok call57 func57 results57 Q Q<|qA aT 9 Q Q Q fun x1 h1 s12 h2=>fun hF=>l5 1 h2 h1 Q Q Q Q Q<|wi hF<|bM [17] Q Q (fun hF=>sR Q<|l6 aT 12 [15,16,17,18,19,20,21] [9] ({x1 with Pc:=18}:aE) s12 Q Q Q Q Q Q Q Q<|fR Q Q<|oZ s9 cL.symm [] [(0,9)] Q Q Q<|fR Q Q<|p5 (hT:=tok) (s1,s2,s3,s4) [0,1,2,3,4,5,6,7,8,22,10,11] hF Q results57 Q Q Q Q)<|qA oI 19 Q Q Q fun x2 h3 _ h4=>fun hF=>l5 2 h4 h3 Q Q Q Q Q<|cqS oI 22 [] h3 () Q Q Q Q Q Q Q Q Q<|wi hF<|J1 [25] Q Q Q Q (fun _=>G8) fun x3 s13=>c0 Q (fun h=>RW (h.o 6 Q)) fun x4=>bM [43] Q Q (c1 Q (fun h=>aEA (h.o 1 Q) (h.o 2 Q) (h.o 3 Q) (h.o 4 Q)) fun x5 s14=>fun hF=>sF Q<|l6 aT 12 [15,16,17,18,26,20,21] [9] ({x1 with fL:=x3}:aE) (s12.1,s12.2.1,s12.2.2.1,s12.2.2.2.1,s13,s12.2.2.2.2.2.1,s12.2.2.2.2.2.2) Q Q Q Q Q Q Q Q<|fR Q Q<|oZ s9 cL.symm [] [(0,9)] Q Q Q<|fR Q Q<|p5 (hT:=tok) s14 [0,27,28,29,30,5,6,7,8,31,10,11] hF Q results57 Q Q Q Q)<|fun hF=>sF Q<|l6 aT 12 [15,16,17,18,26,20,21] [9] ({x1 with fL:=x3}:aE) (s12.1,s12.2.1,s12.2.2.1,s12.2.2.2.1,s13,s12.2.2.2.2.2.1,s12.2.2.2.2.2.2) Q Q Q Q Q Q Q Q<|fR Q Q<|oZ s9 cL.symm [] [(0,9)] Q Q Q<|fR Q Q<|p5 (hT:=tok) (s1,s2,s3,s4) [0,1,2,3,4,5,6,7,8,27,10,11] hF Q results57 Q Q Q Q
theorem aJK{c:aH}{w_:Int}{s1:AC}(h1:bY κ s1 c.cV):VS prog κ 121 (OK c w_) [.g [I c.aM,.h s1 c.cV.length],I w_] [] [] (fun r (y:AC)=>.t [.g [I r.1.aM,.h y r.1.cV.length],.b r.2]) (fun r y=>[ow y r.1.cV]):=
 cT tok call121 func121 results121 Q Q<|c1 Q (fun h=>wF (h.a h1)) fun x1 s2=>eD 0 3 (xR w_ x1) [1,4,6] 25 [1,2,3] Q (c0 Q (fun h=>C0 (h.a h1)) fun x4=>eS [11,12] Q Q (cA [1,2,3] Q Q)<|c0 Q (fun _=>gN) fun x5=>eS [15,16,17] Q Q (cA [1,2,3] Q Q)<|A6 aRY Q h1 Q fun x6 _ _=>cA [1,2,3] Q Q) fun x2=>bM [25] Q Q (lS s2 [1] Q Q)<|qA TG 1 Q Q Q fun x3 h2 _ h3=>fun hF=>l5 3 h3 h2 Q Q Q Q Q<|sR Q<|l6 TG 3 [] [28] (⟨false,0,false,0⟩:sC) () Q Q Q Q Q Q Q Q<|oZ s2 cL.symm [(32,1)] [(0,1),(2,1)] Q Q Q<|fR Q Q<|p5 (hT:=tok) s2 [6] hF Q results121 Q Q Q Q
theorem W9{b:aB}{w_:Int}{s1 s2 s3 s4 s5 s6 s7:AC}{b0:Nat×Nat}:VS prog κ 58 (y9 b w_) [.p 0 0,I w_] [b0] ([.box 0 (gB b s1 s2 s3 s4 s5 s6 s7)]++(oBs b s1 s2 s3 s4 s5 s6 s7 [])) (fun(r:Bool×aB) (y:AC)=>.b r.1) (fun(r:Bool×aB) (y:AC)=>([.box 0 (gB r.2 s1 s2 s3 s4 y s6 s7)]++(oBs r.2 s1 s2 s3 s4 y s6 s7 []))):=
 cT tok call58 func58 results58 Q Q<|c1 Q (fun h=>aJK (h.o 5 Q)) fun x1 s8=>lS s8 [0,1,2,3,4,8,6,7] Q Q
theorem R5{t:Table}{w_:Int}{s1 s2 s3 s4 s5 s6 s7 s8 s9 s10 s11:AC}{b0:Nat×Nat}:VS prog κ 59 (qT t w_) [.p 0 0,I w_] [b0] ([.box 0 (QA t s1 s2 s3 s4 s5 s6 s7 s8 s9 s10 s11)]++(QX t s1 s2 s3 s4 s5 s6 s7 s8 s9 s10 s11 [])) (fun(r:Table) (y:AC)=>.t []) (fun(r:Table) (y:AC)=>([.box 0 (QA r s1 s2 s3 s4 s5 s6 s7 s8 s9 s10 y)]++(QX r s1 s2 s3 s4 s5 s6 s7 s8 s9 s10 y []))):=
 cT tok call59 func59 results59 Q Q<|qA aT 9 Q Q Q fun x1 h1 s12 h2=>fun hF=>l5 1 h2 h1 Q Q Q Q Q<|wi hF<|bM [21] Q Q (eI 0 4 (fun(_:Unit)=>DN t w_ x1) [0,1] (fun(_:Unit) (s13:AC)=>[]) [1,2,3,4,5,6,7,8,10,15,16,17,19,20,21,12,13,14] (fun _ s13=>[ow s13 (t.Log++([({x1 with Kind:=3,Who:=w_,bK:=[]}:LM)]):List LM),.box 0 [.h s1 t.aB.Mem.Heap.Bytes.length,.h s2 t.aB.Mem.Heap.Class.length,.h s3 t.aB.Mem.aA.Global.length,.h s4 t.aB.Mem.aA.Own.length,I t.aB.aH.aM,.h s5 t.aB.aH.cV.length,.h s6 t.aB.bJ.length,.h s7 t.aB.A4.length,.h s8 t.cS.length,.h s9 t.aN.length,.h s10 t.gZ.length,.h s13 (t.Log++([({x1 with Kind:=3,Who:=w_,bK:=[]}:LM)])).length,I t.aS]]) Q (iO aC [14,22,23] Q<|fun hF=>nd hF fun hA1 hF=>(by refine dD Q Q ?_ ?_ <;> exact nw iG Q<|S1 aRZ [24,18] (({x1 with Kind:=3,Who:=w_,bK:=[]}:LM)) (⟨none,0⟩,s12.2.2.2.1) kR Q Q Q Q Q Q Q Q Q Q Q Q Q fun s16=>have hq1:=rn hA1;ZT 11 25 kR Q Q Q Q Q Q Q Q Q Q Q hq1 fun hq1 s17=>wi hF<|vB (p:=()) s17 [26,0,1,2,3,4,5,6,7,8,10,15,16,17,19,20,21,12,13,14] Q Q)) fun _ s13=>fun hF=>l5 1 h2 h1 Q Q Q Q Q<|sF Q<|DE iG<|DE Seen<|DE aU<|DE eA<|DE Int<|DE Int<|DE Int<|fR Q Q<|l6 aT 17 [20,21,22,23,24,25,26] [38] (⟨false,(⟨false,[]⟩:Batch),0,0,0,0,0,0,0,0,(⟨0,0,0⟩:bP),false,0,(⟨0,0,0,0,0,0,0,0,0,false⟩:Sub),[],[],[],[],[],[]⟩:aE) (⟨none,0⟩,⟨none,0⟩,⟨none,0⟩,⟨none,0⟩,⟨none,0⟩,⟨none,0⟩,⟨none,0⟩) Q Q Q Q Q Q Q Q<|fR Q Q<|oZ s9 cL.symm [] [(1,9)] Q Q Q<|fR Q Q<|p5 (hT:=tok) s13 [1,2,3,4,5,6,7,8,9,27,10,0] hF Q results59 Q Q Q Q)<|eI 0 4 (fun(_:Unit)=>DO t w_ x1) [0,1] (fun(_:Unit) (s20:AC)=>[]) [1,2,3,4,5,6,7,8,10,15,16,17,18,19,20,21,12,13,14] (fun _ s20=>[ow s20 (t.Log++([(⟨3,w_,x1.aS,x1.Code,[],[]⟩:LM)]):List LM),.box 0 [.h s1 t.aB.Mem.Heap.Bytes.length,.h s2 t.aB.Mem.Heap.Class.length,.h s3 t.aB.Mem.aA.Global.length,.h s4 t.aB.Mem.aA.Own.length,I t.aB.aH.aM,.h s5 t.aB.aH.cV.length,.h s6 t.aB.bJ.length,.h s7 t.aB.A4.length,.h s8 t.cS.length,.h s9 t.aN.length,.h s10 t.gZ.length,.h s20 (t.Log++([(⟨3,w_,x1.aS,x1.Code,[],[]⟩:LM)])).length,I t.aS]]) Q (iO aC [14,22,23] Q<|fun hF=>nd hF fun hA2 hF=>(by refine dD Q Q ?_ ?_ <;> exact nw iG Q<|nw eA Q<|S1 aRZ [24,25] ((⟨3,w_,x1.aS,x1.Code,[],[]⟩:LM)) (⟨none,0⟩,⟨none,0⟩) kR Q Q Q Q Q Q Q Q Q Q Q Q Q fun s23=>have hq3:=rn hA2;ZT 11 26 kR Q Q Q Q Q Q Q Q Q Q Q hq3 fun hq3 s24=>wi hF<|vB (p:=()) s24 [27,0,1,2,3,4,5,6,7,8,10,15,16,17,18,19,20,21,12,13,14] Q Q)) fun _ s20=>fun hF=>l5 1 h2 h1 Q Q Q Q Q<|sF Q<|DE iG<|DE Seen<|DE aU<|DE eA<|DE Int<|DE Int<|DE Int<|fR Q Q<|l6 aT 18 [21,22,23,24,25,26,27] [38] (⟨false,(⟨false,[]⟩:Batch),0,0,0,0,0,0,0,0,(⟨0,0,0⟩:bP),false,0,(⟨0,0,0,0,0,0,0,0,0,false⟩:Sub),[],[],[],[],[],[]⟩:aE) (⟨none,0⟩,⟨none,0⟩,⟨none,0⟩,⟨none,0⟩,⟨none,0⟩,⟨none,0⟩,⟨none,0⟩) Q Q Q Q Q Q Q Q<|fR Q Q<|oZ s9 cL.symm [] [(1,9)] Q Q Q<|fR Q Q<|p5 (hT:=tok) s20 [1,2,3,4,5,6,7,8,9,28,10,0] hF Q results59 Q Q Q Q
theorem XA{t:Table}{w_:Int}{s1 s2 s3 s4 s5 s6 s7 s8 s9 s10 s11:AC}{b0:Nat×Nat}:VS prog κ 25 (zA t w_) [.p 0 0,I w_] [b0] ([.box 0 (QA t s1 s2 s3 s4 s5 s6 s7 s8 s9 s10 s11)]++(QX t s1 s2 s3 s4 s5 s6 s7 s8 s9 s10 s11 [])) (fun(r:Table) (y:A7C)=>.t []) (fun(r:Table) (y:A7C)=>([.box 0 (QA r y.1 y.2.1 y.2.2.1 y.2.2.2.1 y.2.2.2.2.1 y.2.2.2.2.2.1 s7 s8 s9 s10 y.2.2.2.2.2.2)]++(QX r y.1 y.2.1 y.2.2.1 y.2.2.2.1 y.2.2.2.2.1 y.2.2.2.2.2.1 s7 s8 s9 s10 y.2.2.2.2.2.2 []))):=
 cT tok call25 func25 results25 Q Q<|qA aT 9 Q Q Q fun x1 h1 s12 h2=>fun hF=>l5 1 h2 h1 Q Q Q Q Q<|wi hF<|bM [18,23] Q Q (fun hF=>cqS aT 12 [15,16,17,18,19,20,21] h1 s12 Q Q Q Q Q Q Q Q Q<|wi hF<|eB 0 0 0 13 [1,2,3,4,5,6,7,8,22,10,11] Q Q Q Q Q (fun _=>U8) fun x2 s13=>DF (s1,s2,s3,s4,s5,s6,s13) [0,23,24,25,26,27,28,29,30,31,32,33] Q Q)<|eI 0 2 (iD t w_ x1) [0,1,4,5] (fun(x3:Bool) (_:Unit)=>[(27,.b x3)]) [1,2,3,4,5,6,7,8,10,11,0,14] (fun x3 _=>[ow s9 (t.aN:List aE)]) Q (eS [29,30] Q Q (fun hF=>sF Q<|iW aT 12 [15,16,17,18,19,20,21] h1 s12 Q Q Q Q Q Q Q<|fR Q Q<|lE () [22,1,2,3,4,5,6,7,8,10,11,0,14] hF Q)<|eS [32,33,34] Q Q (fun hF=>sF Q<|iW aT 12 [15,16,17,18,19,20,21] h1 s12 Q Q Q Q Q Q Q<|fR Q Q<|lE () [22,1,2,3,4,5,6,7,8,10,11,0,14] hF Q)<|fun hF=>sF Q<|iW aT 12 [15,16,17,18,19,20,21] h1 s12 Q Q Q Q Q Q Q<|fR Q Q<|lE () [22,1,2,3,4,5,6,7,8,10,11,0,14] hF Q) fun x3 _=>bM [27] Q Q (eB 11 0 0 13 [1,2,3,4,5,6,7,8,0,9,10] Q Q Q Q Q (fun _=>RY) fun x4 s14=>DF (s14.1,s14.2.1,s14.2.2.1,s14.2.2.2.1,s14.2.2.2.2.1,s14.2.2.2.2.2,s11) [11,13,14,15,16,17,18,19,20,21,22,23] Q Q)<|bM [41,43] Q Q (fun hF=>ro aT 0 12 1 Q Q Q Q hF fun x5 h3 hF s15=>wi hF<|eB 14 1 0 32 [16,17,18,19,20,21,22] Q Q Q Q Q (fun _=>YU) fun x6 s16=>fun hF=>sF Q<|l6 aT 13 [23,24,25,26,27,28,29] [] x6 (s15.1,s15.2.1,s16.1,s16.2,s15.2.2.2.2.1,s15.2.2.2.2.2.1,s15.2.2.2.2.2.2) Q Q Q Q Q Q Q Q<|fR Q Q<|oZ s9 cL.symm [] [(11,9)] Q Q Q<|fR Q Q<|p5 (hT:=tok) (s1,s2,s3,s4,s5,s6,s11) [11,1,2,3,4,5,6,7,8,30,9,10] hF Q results25 Q Q Q Q)<|c0 Q (fun _=>bV) fun x7=>bM [46,48] Q Q (eB 11 0 0 13 [1,2,3,4,5,6,7,8,0,9,10] Q Q Q Q Q (fun _=>W3) fun x8 _=>DF (s1,s2,s3,s4,s5,s6,s11) [11,13,14,15,16,17,18,19,20,21,22,23] Q Q)<|bM [52,54] Q Q (eB 11 0 0 13 [1,2,3,4,5,6,7,8,0,9,10] Q Q Q Q Q (fun _=>VC) fun x9 s17=>DF (s17.1,s17.2.1,s17.2.2.1,s17.2.2.2.1,s17.2.2.2.2.1,s17.2.2.2.2.2,s11) [11,13,14,15,16,17,18,19,20,21,22,23] Q Q)<|bM [58,60] Q Q (eB 11 0 0 13 [1,2,3,4,5,6,7,8,0,9,10] Q Q Q Q Q (fun _=>W6) fun x10 s18=>DF (s1,s2,s3,s4,s5,s6,s18) [11,13,14,15,16,17,18,19,20,21,22,23] Q Q)<|bM [64,66] Q Q (eB 11 0 0 13 [1,2,3,4,5,6,7,8,0,9,10] Q Q Q Q Q (fun _=>QT) fun x11 _=>DF (s1,s2,s3,s4,s5,s6,s11) [11,13,14,15,16,17,18,19,20,21,22,23] Q Q)<|c0 Q (fun _=>bV) fun x12=>bM [70,72] Q Q (eB 11 0 0 13 [1,2,3,4,5,6,7,8,0,9,10] Q Q Q Q Q (fun _=>VD) fun x13 s19=>DF (s19.1,s19.2.1,s19.2.2.1,s19.2.2.2,s5,s6,s11) [11,13,14,15,16,17,18,19,20,21,22,23] Q Q)<|eD 0 2 (jQ t w_ x1) [0,1,4,5] 76 [1,2,3,4,5,6,7,8,0,9,10,11,12] Q (eS [78,79] Q Q (cA [1,2,3,4,5,6,7,8,0,9,10,11,12] Q Q)<|cA [1,2,3,4,5,6,7,8,0,9,10,11,12] Q Q) fun x14=>bM [76] Q Q (eB 11 0 0 13 [0,1,2,3,4,5,6,7,8,9,10] Q Q Q Q Q (fun _=>TN) fun x15 _=>DF (s1,s2,s3,s4,s5,s6,s11) [11,13,14,15,16,17,18,19,20,21,22,23] Q Q)<|bM [86,88] Q Q (eB 11 0 0 13 [0,1,2,3,4,5,6,7,8,9,10] Q Q Q Q Q (fun _=>TO) fun x16 s20=>DF (s20.1,s20.2.1,s20.2.2.1,s20.2.2.2.1,s20.2.2.2.2.1,s20.2.2.2.2.2,s11) [11,13,14,15,16,17,18,19,20,21,22,23] Q Q)<|bM [92,94] Q Q (eB 11 0 0 13 [0,1,2,3,4,5,6,7,8,9,10] Q Q Q Q Q (fun _=>W8) fun x17 s21=>DF (s21.1,s21.2.1,s21.2.2.1,s21.2.2.2,s5,s6,s11) [11,13,14,15,16,17,18,19,20,21,22,23] Q Q)<|bM [98,100] Q Q (eB 11 0 0 8 [0,1,2,3,4,5,6] Q Q Q Q Q (fun _=>W9) fun x18 s22=>fun hF=>ro aT 8 12 1 Q Q Q Q hF fun x19 h5 hF s23=>sF Q<|l6 aT 20 [23,24,25,26,27,28,29] [] ({x19 with Pc:=19}:aE) s23 Q Q Q Q Q Q Q Q<|fR Q Q<|oZ s9 cL.symm [] [(11,9)] Q Q Q<|fR Q Q<|p5 (hT:=tok) (s1,s2,s3,s4,s22,s6,s11) [11,13,14,15,16,17,18,19,7,30,9,10] hF Q results25 Q Q Q Q)<|bM [109,111] Q Q (eB 11 0 0 13 [0,1,2,3,4,5,6,7,8,9,10] Q Q Q Q Q (fun _=>R5) fun x20 s24=>DF (s1,s2,s3,s4,s5,s6,s24) [11,13,14,15,16,17,18,19,20,21,22,23] Q Q)<|fun hF=>ro aT 8 12 1 Q Q Q Q hF fun x21 h7 hF s25=>wi hF<|eB 14 1 0 32 [16,17,18,19,20,21,22] Q Q Q Q Q (fun _=>dI) fun x22 _=>fun hF=>sF Q<|l6 aT 13 [23,24,25,26,27,28,29] [] x22 s25 Q Q Q Q Q Q Q Q<|fR Q Q<|oZ s9 cL.symm [] [(11,9)] Q Q Q<|fR Q Q<|p5 (hT:=tok) (s1,s2,s3,s4,s5,s6,s11) [11,0,1,2,3,4,5,6,7,30,9,10] hF Q results25 Q Q Q Q
theorem YW{x:vJ}{s1 s2:AC}(h1:bY κ s1 x.gZ)(h2:bY κ s2 x.iX):VS prog κ 8 (CN x) [.g [.h s1 x.gZ.length,.h s2 x.iX.length]] [] [] (fun r (y:a2D)=>.g (yTb r y)) (fun r y=>(zTb r y [])):=
 cT tok call8 func8 results8 Q Q<|c1 Q (fun h=>aAY (h.a h1)) fun x1 s3=>bM [12] Q Q (lS s3 [2,3,4,5,6,7,8,9,10,11,12] Q Q)<|fun hF=>a1U Q Q Q Q<|aU4 Q Q Q Q Q h2 Q Q hF fun hF s4 h3=>wi hF<|S2 (s3.1,s3.2.1,s3.2.2.1,s3.2.2.2.1,s3.2.2.2.2.1,s3.2.2.2.2.2.1,s3.2.2.2.2.2.2.2.2.2.2) [2,3,20,21] (fun(p:Int×Table) (u:A7C)=>[(22,I p.1)]) [2,3,4,5,6,7,8,9,10,11,12,13,1] [1] (fun p u=>(QX p.2 u.1 u.2.1 u.2.2.1 u.2.2.2.1 u.2.2.2.2.1 u.2.2.2.2.2.1 s3.2.2.2.2.2.2.1 s3.2.2.2.2.2.2.2.1 s3.2.2.2.2.2.2.2.2.1 s3.2.2.2.2.2.2.2.2.2.1 u.2.2.2.2.2.2 [.box 2 (QA p.2 u.1 u.2.1 u.2.2.1 u.2.2.2.1 u.2.2.2.2.1 u.2.2.2.2.2.1 s3.2.2.2.2.2.2.1 s3.2.2.2.2.2.2.2.1 s3.2.2.2.2.2.2.2.2.1 s3.2.2.2.2.2.2.2.2.2.1 u.2.2.2.2.2.2)])) id [2,3] (fun(x6:Table) (u:A7C)=>[]) [1] (fun x6 u=>(QX x6 u.1 u.2.1 u.2.2.1 u.2.2.2.1 u.2.2.2.2.1 u.2.2.2.2.2.1 s3.2.2.2.2.2.2.1 s3.2.2.2.2.2.2.2.1 s3.2.2.2.2.2.2.2.2.1 s3.2.2.2.2.2.2.2.2.2.1 u.2.2.2.2.2.2 [.box 2 (QA x6 u.1 u.2.1 u.2.2.1 u.2.2.2.1 u.2.2.2.2.1 u.2.2.2.2.2.1 s3.2.2.2.2.2.2.1 s3.2.2.2.2.2.2.2.1 s3.2.2.2.2.2.2.2.2.1 s3.2.2.2.2.2.2.2.2.2.1 u.2.2.2.2.2.2)])) Q Q (fun hF1 ⟨x4,x5⟩ ⟨s12,s13,s14,s15,s16,s17,s18⟩ hr1=>bM [23] Q Q (eI 2 3 (tH x4) [2,3,20,21,22] (fun(x7:Table) (u:A7C)=>[]) [12] (fun x7 u=>(QX x7 u.1 u.2.1 u.2.2.1 u.2.2.2.1 u.2.2.2.2.1 u.2.2.2.2.2.1 s3.2.2.2.2.2.2.1 s3.2.2.2.2.2.2.2.1 s3.2.2.2.2.2.2.2.2.1 s3.2.2.2.2.2.2.2.2.2.1 u.2.2.2.2.2.2 [.box 2 (QA x7 u.1 u.2.1 u.2.2.1 u.2.2.2.1 u.2.2.2.2.1 u.2.2.2.2.2.1 s3.2.2.2.2.2.2.1 s3.2.2.2.2.2.2.2.1 s3.2.2.2.2.2.2.2.2.1 s3.2.2.2.2.2.2.2.2.2.1 u.2.2.2.2.2.2)])) Q (Q8 Q h3 Q fun x8=>c0 Q (fun _=>gN) fun x9=>bM [27] Q Q (eB 11 2 0 13 [0,1,2,3,4,5,6,7,8,9,10] Q Q Q Q Q (fun _=>XA) fun x10 s33=>vB s33 [14,15,16,17,18,19,20,21,22,23,24,11,12] Q Q)<|vB (s12,s13,s14,s15,s16,s17,s18) [0,1,2,3,4,5,6,7,8,9,10,11,12] Q Q) fun x7 ⟨s26,s27,s28,s29,s30,s31,s32⟩=>nxW (s26,s27,s28,s29,s30,s31,s32) [0,1,2,3,4,5,6,7,8,9,10,11,12] Q)<|bkW (s12,s13,s14,s15,s16,s17,s18) [0,1,2,3,4,5,6,7,8,9,10,11,12] Q) fun x6 ⟨s19,s20,s21,s22,s23,s24,s25⟩=>lS (s19,s20,s21,s22,s23,s24,s3.2.2.2.2.2.2.1,s3.2.2.2.2.2.2.2.1,s3.2.2.2.2.2.2.2.2.1,s3.2.2.2.2.2.2.2.2.2.1,s25) [0,1,2,3,4,5,6,7,8,9,10] Q Q
theorem aEB{l:List Int}{x:Int}{s1:AC}(h1:bY κ s1 l):V0 prog κ 15 (WQ l x) [.h s1 l.length,I x] .b:=
 cT tok call15 func15 results15 Q Q<|IG 5 [0,1] [] Out.brk [] [] Q Q (fun hF1 x2 hr1=>bM [9] Q Q (Q8 Q h1 Q fun x3=>bM [17] Q Q (FQ hr1 hF1<|cO Q Q)<|DG [] Q)<|A3 [] Q)<|cO Q Q
theorem aEC{b:List Int}{s1:AC}(h1:bY κ s1 b):V0 prog κ 227 (H0 b) [.h s1 b.length] .b:=
 cT tok call227 func227 results227 Q Q<|IG 3 [0] [] Out.brk [0] [] Q Q (fun hF1 x2 hr1=>bM [7] Q Q (Q8 Q h1 Q fun x3=>c0 Q (fun _=>bX) fun x4=>bM [15] Q Q (FQ hr1 hF1<|cO Q Q)<|DG [] Q)<|A3 [] Q)<|cO Q Q
theorem aED{h:Heap}{s1 s2:AC}(h1:bY κ s1 h.Bytes)(h2:bY κ s2 h.Class):V0 prog κ 177 (H3 h) [.g [.h s1 h.Bytes.length,.h s2 h.Class.length]] .b:=
 cT tok call177 func177 results177 Q Q<|eD 0 1 (rL h) [1] 19 [0] Q (eS [7,8] Q Q (cA [0] Q Q)<|eS [12,13,14] Q Q (cA [0] Q Q)<|c0 Q (fun h=>aEC (h.a h1)) fun x6=>cA [0] Q Q) fun x1=>bM [19] Q Q (cO Q Q)<|IG 3 [1] [0] Out.brk [] [] Q Q (fun hF2 x3 hr2=>bM [21] Q Q (Q8 Q h2 Q fun x4=>c0 Q (fun _=>bX) fun x5=>bM [30] Q Q (FQ hr2 hF2<|cO Q Q)<|DG [0] Q)<|A3 [] Q)<|cO Q Q
theorem UJ{b:List Int}{at_ width:Int}{s1:AC}(h1:bY κ s1 b):V0 prog κ 182 (FE b at_ width) [.h s1 b.length,I at_,I width] I:=
 cT tok call182 func182 results182 Q Q<|S2 () [0,1,2] (fun(p:Int×Int) (_:Unit)=>[(7,I p.1),(8,I p.2)]) [] [] (fun p _=>[]) id [] (fun(x5:Int) (_:Unit)=>[(7,I x5)]) [] (fun x5 _=>[]) Q Q (fun hF1 ⟨x3,x4⟩ _ hr1=>bM [11] Q Q (Q8 Q h1 Q fun x6=>DG [] Q)<|A3 [] Q) fun x5 _=>cO Q Q
theorem aGR{c:Int}:V0 prog κ 264 (FF c) [I c] I:=
 cT tok call264 func264 results264 Q Q<|bM [4,5] Q Q (cO Q Q)<|bM [6,7] Q Q (cO Q Q)<|bM [8,9] Q Q (cO Q Q)<|cO Q Q
theorem QG{c:Int}:V0 prog κ 232 (xS c) [I c] I:=
 cT tok call232 func232 results232 Q Q<|c0 Q (fun _=>bX) fun x1=>bM [5] Q Q (cO Q Q)<|c0 Q (fun _=>aGR) fun x2=>cO Q Q
theorem C4{c:Int}:V0 prog κ 228 (lL c) [I c] I:=
 cT tok call228 func228 results228 Q Q<|c0 Q (fun _=>bX) fun x1=>bM [5] Q Q (cO Q Q)<|c0 Q (fun _=>QG) fun x2=>fun hF=>a3Q Q Q Q Q hF fun hF=>wi hF<|cO Q Q
theorem MF{slot:Int}:V0 prog κ 230 (AY slot) [I slot] I:=
 cT tok call230 func230 results230 Q Q<|c0 Q (fun _=>bX) fun x1=>bM [5] Q Q (cO Q Q)<|cO Q Q
theorem JN{slot:Int}:V0 prog κ 231 (vV slot) [I slot] I:=
 cT tok call231 func231 results231 Q Q<|c0 Q (fun _=>bX) fun x1=>bM [5] Q Q (cO Q Q)<|cO Q Q
theorem XB{slot c:Int}:V0 prog κ 183 (uH slot c) [I slot,I c] I:=
 cT tok call183 func183 results183 Q Q<|eD 0 0 (EO slot c) [0,1] 16 [] Q (c0 Q (fun _=>MF) fun x5=>eS [7,8] Q Q (cA [] Q Q)<|c0 Q (fun _=>JN) fun x6=>c0 Q (fun _=>C4) fun x7=>c0 Q (fun _=>bX) fun x8=>cA [] Q Q) fun x1=>bM [16] Q Q (cO Q Q)<|c0 Q (fun _=>MF) fun x2=>c0 Q (fun _=>JN) fun x3=>c0 Q (fun _=>QG) fun x4=>cO Q Q
theorem aGS{page index:Int}:V0 prog κ 229 (qD page index) [I page,I index] I:=
 cT tok call229 func229 results229 Q Q<|eD 0 0 (uI page index) [0,1] 12 [] Q (c0 Q (fun _=>bX) fun x2=>eS [7,8] Q Q (cA [] Q Q)<|c0 Q (fun _=>bX) fun x3=>cA [] Q Q) fun x1=>bM [12] Q Q (cO Q Q)<|cO Q Q
theorem aGT{h:Heap}{p:Int}{s1 s2:AC}(h1:bY κ s1 h.Bytes)(h2:bY κ s2 h.Class):V0 prog κ 178 (K4 h p) [.g [.h s1 h.Bytes.length,.h s2 h.Class.length],I p] .b:=
 cT tok call178 func178 results178 Q Q<|Q8 Q h2 Q fun x1=>bM [18] Q Q (IG 7 [2,5] [0] Out.brk [] [] Q Q (fun hF1 x3 hr1=>bM [23] Q Q (Q8 Q h1 Q fun x4=>bM [31] Q Q (FQ hr1 hF1<|cO Q Q)<|DG [0] Q)<|A3 [] Q)<|cO Q Q)<|eD 0 2 (j9 h p x1) [1,2,5,6] 58 [0] Q (iO aC [0,1] Q<|Q8 Q h1 Q fun x16=>eS [37,38] Q Q (cA [0] Q Q)<|Q8 Q h1 Q fun x17=>eS [46,47,48] Q Q (cA [0] Q Q)<|Q8 Q h1 Q fun x18=>c0 Q (fun _=>C4) fun x19=>cA [0] Q Q) fun x5=>bM [58] Q Q (cO Q Q)<|IG 8 [1,2,5,6] [0] Out.brk [1,2,6] [0] Q Q (fun hF3 x7 hr3=>bM [64] Q Q (Q8 Q h1 Q fun x15=>bM [72] Q Q (FQ hr3 hF3<|cO Q Q)<|DG [0] Q)<|A3 [0] Q)<|IG 9 [1,2,6] [0] Out.brk [] [] Q Q (fun hF4 x9 hr4=>c0 Q (fun _=>C4) fun x10=>bM [76] Q Q (iO aC [0] Q<|c0 Q (fun _=>aGS) fun x11=>c0 Q (fun _=>XB) fun x12=>c0 Q (fun h=>UJ (h.a h1)) fun x13=>c0 Q (fun _=>bX) fun x14=>bM [88] Q Q (FQ hr4 hF4<|cO Q Q)<|DG [0] Q)<|A3 [] Q)<|cO Q Q
theorem aGU{h:Heap}{s1 s2:AC}(h1:bY κ s1 h.Bytes)(h2:bY κ s2 h.Class):V0 prog κ 122 (K5 h) [.g [.h s1 h.Bytes.length,.h s2 h.Class.length]] .b:=
 cT tok call122 func122 results122 Q Q<|c0 Q (fun h=>aED (h.a h1) (h.a h2)) fun x1=>bM [6] Q Q (cO Q Q)<|IG 3 [1] [0] Out.brk [] [] Q Q (fun hF1 x3 hr1=>bM [8] Q Q (c0 Q (fun h=>aGT (h.a h1) (h.a h2)) fun x4=>bM [14] Q Q (FQ hr1 hF1<|cO Q Q)<|DG [0] Q)<|A3 [] Q)<|cO Q Q
theorem ID{l:List Int}{x:Int}{s1:AC}(h1:bY κ s1 l):V0 prog κ 31 (AF l x) [.h s1 l.length,I x] .b:=
 cT tok call31 func31 results31 Q Q<|IG 5 [0,1] [] Out.brk [] [] Q Q (fun hF1 x2 hr1=>bM [9] Q Q (Q8 Q h1 Q fun x3=>bM [17] Q Q (FQ hr1 hF1<|cO Q Q)<|DG [] Q)<|A3 [] Q)<|cO Q Q
theorem XC{l:aA}{s1 s2:AC}(h1:bY κ s1 l.Global)(h2:bY κ s2 l.Own):VS prog κ 179 (I5 l) [.g [.h s1 l.Global.length,.h s2 l.Own.length]] [] [] (fun r (y:AC)=>.h y r.length) (fun r y=>[ow y r]):=
 cT tok call179 func179 results179 Q Q<|fun hF=>lt0 (α:=Int) bH Q Q Q Q fun s3=>wi hF<|S2 s3 [1] (fun(p:(List Int)×Int) (s5:AC)=>[(3,.h s5 p.1.length),(4,I p.2)]) [1,0] [0] (fun p s5=>[ow s5 (p.1:List Int)]) id [1] (fun(x5:(List Int)) (s6:AC)=>[(3,.h s6 x5.length)]) [0] (fun x5 s6=>[ow s6 (x5:List Int)]) Q Q (fun hF1 ⟨x3,x4⟩ s5 hr1=>bM [11] Q Q (A6 D3 Q h1 Q fun x12 s12 h4=>fun hG1=>ap 0 bH Q Q Q Q Q Q Q (fun h=>(h.a h4)) Q Q hG1 fun hG1 s13=>wi hG1<|nxW s13 [0,1] Q)<|bkW s5 [0,1] Q) fun x5 s6=>S2 s6 [1] (fun(p:(List Int)×Int) (s8:AC)=>[(3,.h s8 p.1.length),(5,I p.2)]) [0,1] [1] (fun p s8=>[ow s8 (p.1:List Int)]) id [] (fun(x10:(List Int)) (s9:AC)=>[(3,.h s9 x10.length)]) [] (fun x10 s9=>[ow s9 (x10:List Int)]) Q Q (fun hF2 ⟨x8,x9⟩ s8 hr2=>bM [26] Q Q (A6 D3 Q h2 Q fun x11 s10 h3=>fun hG2=>ap 0 bH Q Q Q Q Q Q Q (fun h=>(h.a h3)) Q Q hG2 fun hG2 s11=>wi hG2<|nxW s11 [0,1] Q)<|bkW s8 [0] Q) fun x10 s9=>lS s9 [0] Q Q
theorem aEE{l:aA}{s1 s2:AC}(h1:bY κ s1 l.Global)(h2:bY κ s2 l.Own):V0 prog κ 123 (H4 l) [.g [.h s1 l.Global.length,.h s2 l.Own.length]] .b:=
 cT tok call123 func123 results123 Q Q<|eD 0 1 (zD l) [1] 15 [0] Q (eS [9,10] Q Q (cA [0] Q Q)<|cA [0] Q Q) fun x1=>bM [15] Q Q (cO Q Q)<|IG 3 [1] [0] Out.brk [1] [0] Q Q (fun hF2 x3 hr2=>bM [20] Q Q (A6 D3 Q h2 Q fun x11 s4 h8=>bM [30] Q Q (FQ hr2 hF2<|cO Q Q)<|DG [0] Q)<|A3 [0] Q)<|c1 Q (fun h=>XC (h.a h1) (h.a h2)) fun x4 s3=>IG 5 [4] [1] Out.brk [] [] Q Q (fun hF3 x6 hr3=>bM [36] Q Q (eD 0 1 (zC x6) [4,5] 54 [0] Q (iO aC [] Q<|qA oI 0 Q Q Q fun x8 h3 _ h4=>fun hG3=>l5 1 h4 h3 Q Q Q Q Q<|wi hG3<|c0 Q (fun _=>bX) fun x9=>eS [44,45] Q Q (fun hG3=>sF Q<|iW oI 1 [] h3 () Q Q Q Q Q Q Q<|lE () [4] hG3 Q)<|fun hG3=>cqS oI 1 [] h3 () Q Q Q Q Q Q Q Q Q<|cpc 4 Q Q fun hc1=>aNZ hc1 Q Q Q Q Q Q hG3 fun hG3 h5=>have hq1:=rb h3;wi hq1<|qA oI 4 Q Q Q fun u1 h6 _ h7=>fun hq1=>l5 2 h7 h6 Q Q Q Q Q<|match u1,hq1 with | _,rfl=>cqS oI 5 [] h6 () Q Q Q Q Q Q Q Q Q<|wi hG3<|c0 Q (fun h=>ID ((h.o 8 Q).sub (PI h5.1 h5.2) h5)) fun x10=>cA [8] Q Q) fun x7=>bM [54] Q Q (FQ hr3 hF3<|cO Q Q)<|DG [0] Q)<|A3 [] Q)<|cO Q Q
theorem JO{h:Heap}{slot:Int}{s1 s2:AC}(h1:bY κ s1 h.Bytes)(h2:bY κ s2 h.Class):V0 prog κ 180 (qU h slot) [.g [.h s1 h.Bytes.length,.h s2 h.Class.length],I slot] I:=
 cT tok call180 func180 results180 Q Q<|c0 Q (fun _=>MF) fun x1=>eD 0 1 (rM h x1) [2,5] 28 [0] Q (iO aC [0] Q<|eS [9,10] Q Q (cA [0] Q Q)<|Q8 Q h2 Q fun x4=>eS [16,17,18] Q Q (cA [0] Q Q)<|Q8 Q h2 Q fun x5=>c0 Q (fun _=>JN) fun x6=>c0 Q (fun _=>C4) fun x7=>cA [0] Q Q) fun x2=>bM [28] Q Q (cO Q Q)<|Q8 Q h2 Q fun x3=>cO Q Q
theorem O2{h:Heap}{slot:Int}{s1 s2:AC}(h1:bY κ s1 h.Bytes)(h2:bY κ s2 h.Class):V0 prog κ 129 (uK h slot) [.g [.h s1 h.Bytes.length,.h s2 h.Class.length],I slot] I:=
 cT tok call129 func129 results129 Q Q<|iO aC [0] Q<|c0 Q (fun h=>JO (h.a h1) (h.a h2)) fun x1=>c0 Q (fun _=>XB) fun x2=>c0 Q (fun h=>UJ (h.a h1)) fun x3=>cO Q Q
theorem QH{h:Heap}{l:List Int}{c:Int}{s1 s2:AC}{s3:AC}(h1:bY κ s1 h.Bytes)(h2:bY κ s2 h.Class)(h3:bY κ s3 l):V0 prog κ 124 (xV h l c) [.g [.h s1 h.Bytes.length,.h s2 h.Class.length],.h s3 l.length,I c] .b:=
 cT tok call124 func124 results124 Q Q<|IG 7 [1,2,3] [0] Out.brk [] [] Q Q (fun hF1 x2 hr1=>bM [11] Q Q (eD 0 1 (vW x2) [1,2,3,7] 30 [0] Q (iO aC [0] Q<|Q8 Q h3 Q fun x4=>c0 Q (fun h=>JO (h.a h1) (h.a h2)) fun x5=>eS [21,22] Q Q (cA [0] Q Q)<|Q8 Q h3 Q fun x6=>c0 Q (fun h=>O2 (h.a h1) (h.a h2)) fun x7=>cA [0] Q Q) fun x3=>bM [30] Q Q (FQ hr1 hF1<|cO Q Q)<|DG [0] Q)<|A3 [] Q)<|cO Q Q
theorem aJL{w_ c:Int}:V0 prog κ 125 (uL w_ c) [I w_,I c] I:=
 cT tok call125 func125 results125 Q Q<|eD 0 0 (xW w_ c) [0,1] 12 [] Q (c0 Q (fun _=>bX) fun x2=>eS [7,8] Q Q (cA [] Q Q)<|c0 Q (fun _=>bX) fun x3=>cA [] Q Q) fun x1=>bM [12] Q Q (cO Q Q)<|cO Q Q
theorem aJM{m:Mem}{s1 s2 s3 s4:AC}(h1:bY κ s1 m.Heap.Bytes)(h2:bY κ s2 m.Heap.Class)(h3:bY κ s3 m.aA.Global)(h4:bY κ s4 m.aA.Own):V0 prog κ 65 (OL m) [.g (gM m s1 s2 s3 s4)] .b:=
 cT tok call65 func65 results65 Q Q<|eD 0 1 (EP m) [1] 14 [0] Q (c0 Q (fun h=>aGU (h.a h1) (h.a h2)) fun x11=>a5P [8,9] Q Q (fun hb6=>cA [0] Q Q) fun hb6=>c0 Q (fun h=>aEE (h.a h3) (h.a h4)) fun x12=>cA [0] Q Q) fun x1=>aVT [14] Q Q (fun hb1=>cO Q Q) fun hb1=>IG 3 [1] [0] Out.brk [] [] Q Q (fun hF2 x3 hr2=>aVT [16] Q Q (fun hb2=>iO aC [0] Q<|A6 D3 Q h3 Q fun x4 s5 h5=>c0 Q (fun h=>QH (h.a h1) (h.a h2) (h.a h5)) fun x5=>aVT [30] Q Q (fun hb3=>FQ hr2 hF2<|cO Q Q) fun hb3=>IG 4 [1,3] [0] Out.brk [1,3] [0] Q Q (fun hF3 x7 hr3=>aVT [32] Q Q (fun hb4=>iO aC [0] Q<|c0 Q (fun _=>aJL) fun x8=>A6 D3 Q h4 Q fun x9 s6 h6=>c0 Q (fun h=>QH (h.a h1) (h.a h2) (h.a h6)) fun x10=>aVT [48] Q Q (fun hb5=>FQ hr3 hF3<|FQ hr2 hF2<|cO Q Q) fun hb5=>DG [0] Q) fun hb4=>A3 [0] Q)<|DG [0] Q) fun hb2=>A3 [] Q)<|cO Q Q
theorem aEF{c:aH}{s1:AC}(h1:bY κ s1 c.cV):V0 prog κ 66 (nU c) [.g [I c.aM,.h s1 c.cV.length]] .b:=
 cT tok call66 func66 results66 Q Q<|eD 0 1 (nB c) [1] 14 [0] Q (c0 Q (fun _=>bX) fun x10=>eS [8,9] Q Q (cA [0] Q Q)<|cA [0] Q Q) fun x1=>bM [14] Q Q (cO Q Q)<|IG 3 [1] [0] Out.brk [] [] Q Q (fun hF2 x3 hr2=>bM [16] Q Q (A6 aRY Q h1 Q fun x4 _ _=>eD 0 3 (kP x3) [1,3] 45 [0] Q (eS [26,27] Q Q (fun hG2=>neS eqGuardType150 stoodInHeld150 underlying150 (ZH 9997 x4 (⟨false,0,false,0⟩:sC)) Q Q Q Q Q Q<|wi hG2<|eS [30,31,32] Q Q (cA [0] Q Q)<|c0 Q (fun _=>bX) fun x6=>eS [38,39,40] Q Q (cA [0] Q Q)<|c0 Q (fun _=>bX) fun x7=>cA [0] Q Q)<|c0 Q (fun _=>bX) fun x8=>eS [38,39,40] Q Q (cA [0] Q Q)<|c0 Q (fun _=>bX) fun x9=>cA [0] Q Q) fun x5=>bM [45] Q Q (FQ hr2 hF2<|cO Q Q)<|DG [0] Q)<|A3 [] Q)<|cO Q Q
theorem UK{l:List bB}{s1:AC}(h1:bY κ s1 l):VS prog κ 69 (AZ l) [.h s1 l.length] [] [] (fun r (y:AC)=>.h y r.length) (fun r y=>[ow y r]):=
 cT tok call69 func69 results69 Q Q<|fun hF=>lt0 (α:=dE) uQ Q Q Q Q fun s2=>wi hF<|S2 s2 [0] (fun(p:(List dE)×Int) (s4:AC)=>[(3,.h s4 p.1.length),(4,I p.2)]) [0] [] (fun p s4=>[ow s4 (p.1:List dE)]) id [] (fun(x5:(List dE)) (s5:AC)=>[(3,.h s5 x5.length)]) [] (fun x5 s5=>[ow s5 (x5:List dE)]) Q Q (fun hF1 ⟨x3,x4⟩ s4 hr1=>bM [9] Q Q (A6 U6 Q h1 Q fun x6 s6 h2=>fun hG1=>ap 0 uQ Q Q Q Q Q Q Q (fun h=>(h.a h2)) Q Q hG1 fun hG1 s7=>wi hG1<|nxW s7 [0] Q)<|bkW s4 [0] Q) fun x5 s5=>lS s5 [0] Q Q
theorem nE{h:Int}:V0 prog κ 127 (iQ h) [I h] .b:=
 cT tok call127 func127 results127 Q Q<|eD 0 0 vX [] 2 [] Q (c0 Q (fun _=>bX) fun x2=>eS [4,5] Q Q (cA [] Q Q)<|cA [] Q Q) fun x1=>cO Q Q
theorem C5{h:Int}:V0 prog κ 126 (hJ h) [I h] I:=
 cT tok call126 func126 results126 Q Q<|c0 Q (fun _=>nE) fun x1=>bM [5] Q Q (cO Q Q)<|cO Q Q
theorem aEG{l:List bB}{s1:AC}(h1:bY κ s1 l):V0 prog κ 67 (H5 l) [.h s1 l.length] .b:=
 cT tok call67 func67 results67 Q Q<|c1 Q (fun h=>UK (h.a h1)) fun x1 s2=>eD 0 0 (zE x1) [3] 16 [0] Q (eS [11,12] Q Q (cA [0] Q Q)<|cA [0] Q Q) fun x2=>bM [16] Q Q (cO Q Q)<|fun hF=>lt0 (α:=Int) bH Q Q Q Q fun s3=>wi hF<|S2 s3 [3] (fun(p:(List Int)×Int) (s5:AC)=>[(4,.h s5 p.1.length),(5,I p.2)]) [1,0] [0] (fun p s5=>[ow s5 (p.1:List Int)]) Out.brk [] (fun(_:Unit) (_:Unit)=>[]) [] (fun _ _=>[]) Q Q (fun hF2 ⟨x5,x6⟩ s5 hr2=>bM [21] Q Q (qA JE 1 Q Q Q fun x7 h2 _ h3=>fun hG2=>l5 0 h3 h2 Q Q Q Q Q<|wi hG2<|c0 Q (fun _=>C5) fun x8=>eI 0 1 (rO x5 x6 x8) [3,4,5,6] (fun(x9:Bool) (_:Unit)=>[(45,.b x9)]) [0] (fun x9 _=>[ow s2 (x1:List dE)]) Q (eS [31,32] Q Q (fun hG2=>sF Q<|iW JE 2 [] h2 () Q Q Q Q Q Q Q<|lE () [5,0] hG2 Q)<|fun hG2=>l5 0 h3 h2 Q Q Q Q Q<|wi hG2<|c0 Q (fun _=>bX) fun x10=>eS [39,40,41] Q Q (fun hG2=>sF Q<|iW JE 2 [] h2 () Q Q Q Q Q Q Q<|lE () [5,0] hG2 Q)<|c0 Q (fun h=>ID (h.o 0 Q)) fun x11=>fun hG2=>sF Q<|iW JE 2 [] h2 () Q Q Q Q Q Q Q<|lE () [5,0] hG2 Q) fun x9 _=>bM [45] Q Q (FQ hr2 hF2<|cO Q Q)<|fun hG2=>lt1 Q bH Q Q Q Q fun s6=>ap 1 bH Q Q Q Q Q Q Q (fun h=>(h.o 2 Q)) Q Q hG2 fun hG2 s7=>wi hG2<|nxW s7 [1,0] Q)<|A3 [] Q) fun() _=>cO Q Q
theorem aJN{z:List Int}{s1:AC}(h1:bY κ s1 z):V0 prog κ 68 (OM z) [.h s1 z.length] .b:=
 cT tok call68 func68 results68 Q Q<|IG 3 [0] [] Out.brk [0] [] Q Q (fun hF1 x2 hr1=>bM [7] Q Q (eD 0 0 (ER x2) [0,3] 22 [] Q (Q8 Q h1 Q fun x4=>eS [14,15] Q Q (Q8 Q h1 Q fun x5=>c0 Q (fun _=>nE) fun x6=>cA [] Q Q)<|cA [] Q Q) fun x3=>bM [22] Q Q (FQ hr1 hF1<|cO Q Q)<|DG [] Q)<|A3 [] Q)<|cO Q Q
theorem aGV{l:aA}{slot:Int}{s1 s2:AC}(h1:bY κ s1 l.Global)(h2:bY κ s2 l.Own):V0 prog κ 181 (K6 l slot) [.g [.h s1 l.Global.length,.h s2 l.Own.length],I slot] .b:=
 cT tok call181 func181 results181 Q Q<|c1 Q (fun h=>XC (h.a h1) (h.a h2)) fun x1 s3=>c0 Q (fun h=>ID (h.o 1 Q)) fun x2=>cO Q Q
theorem aEH{m:Mem}{slot:Int}{s1 s2 s3 s4:AC}(h1:bY κ s1 m.Heap.Bytes)(h2:bY κ s2 m.Heap.Class)(h3:bY κ s3 m.aA.Global)(h4:bY κ s4 m.aA.Own):V0 prog κ 128 (H6 m slot) [.g (gM m s1 s2 s3 s4),I slot] I:=
 cT tok call128 func128 results128 Q Q<|c0 Q (fun h=>JO (h.a h1) (h.a h2)) fun x1=>bM [5,10] Q Q (cO Q Q)<|c0 Q (fun h=>aGV (h.a h3) (h.a h4)) fun x2=>bM [11,15] Q Q (cO Q Q)<|c0 Q (fun h=>O2 (h.a h1) (h.a h2)) fun x3=>bM [16,21] Q Q (cO Q Q)<|cO Q Q
theorem YX{h:Int}:V0 prog κ 130 (CP h) [I h] I:=
 cT tok call130 func130 results130 Q Q<|c0 Q (fun _=>nE) fun x1=>bM [5] Q Q (cO Q Q)<|cO Q Q
theorem aEI{m:Mem}{h:Int}{s1 s2 s3 s4:AC}(h1:bY κ s1 m.Heap.Bytes)(h2:bY κ s2 m.Heap.Class)(h3:bY κ s3 m.aA.Global)(h4:bY κ s4 m.aA.Own):V0 prog κ 70 (CQ m h) [.g (gM m s1 s2 s3 s4),I h] .b:=
 cT tok call70 func70 results70 Q Q<|eD 0 1 rQ [] 4 [] Q (iO aC [0] Q<|c0 Q (fun _=>nE) fun x2=>eS [6,7] Q Q (c0 Q (fun _=>C5) fun x3=>c0 Q (fun h=>aEH (h.a h1) (h.a h2) (h.a h3) (h.a h4)) fun x4=>eS [12,13,14] Q Q (c0 Q (fun _=>C5) fun x5=>c0 Q (fun h=>O2 (h.a h1) (h.a h2)) fun x6=>c0 Q (fun _=>YX) fun x7=>cA [] Q Q)<|cA [] Q Q)<|cA [] Q Q) fun x1=>cO Q Q
theorem aGW{b:aB}{s1 s2 s3 s4 s5 s6 s7:AC}(h1:bY κ s1 b.Mem.Heap.Bytes)(h2:bY κ s2 b.Mem.Heap.Class)(h3:bY κ s3 b.Mem.aA.Global)(h4:bY κ s4 b.Mem.aA.Own)(h5:bY κ s5 b.aH.cV)(h6:bY κ s6 b.bJ)(h7:bY κ s7 b.A4):V0 prog κ 32 (K7 b) [.g (gB b s1 s2 s3 s4 s5 s6 s7)] .b:=
 cT tok call32 func32 results32 Q Q<|eD 0 1 (pN b) [1] 26 [0] Q (c0 Q (fun h=>aJM (h.a h1) (h.a h2) (h.a h3) (h.a h4)) fun x8=>eS [8,9] Q Q (cA [0] Q Q)<|c0 Q (fun h=>aEF (h.a h5)) fun x9=>eS [13,14,15] Q Q (cA [0] Q Q)<|c0 Q (fun h=>aEG (h.a h6)) fun x10=>eS [19,20,21] Q Q (cA [0] Q Q)<|c0 Q (fun h=>aJN (h.a h7)) fun x11=>cA [0] Q Q) fun x1=>bM [26] Q Q (cO Q Q)<|c1 Q (fun h=>UK (h.a h6)) fun x2 s8=>IG 4 [1,3] [1,0] Out.brk [] [] Q Q (fun hF2 x4 hr2=>bM [33] Q Q (eD 0 1 (CR x4) [1,3,4] 55 [0,1] Q (iO aC [1] Q<|qA JE 0 Q Q Q fun x6 h8 _ h9=>fun hG2=>l5 1 h9 h8 Q Q Q Q Q<|wi hG2<|c0 Q (fun h=>aEI (h.a h1) (h.a h2) (h.a h3) (h.a h4)) fun x7=>eS [44,45] Q Q (fun hG2=>sF Q<|iW JE 2 [] h8 () Q Q Q Q Q Q Q<|lE () [5,1] hG2 Q)<|fun hG2=>l5 1 h9 h8 Q Q Q Q Q<|sF Q<|iW JE 2 [] h8 () Q Q Q Q Q Q Q<|lE () [5,1] hG2 Q) fun x5=>bM [55] Q Q (FQ hr2 hF2<|cO Q Q)<|DG [0,1] Q)<|A3 [] Q)<|cO Q Q
theorem JQ{h:Int}:V0 prog κ 72 (vY h) [I h] .b:=
 cT tok call72 func72 results72 Q Q<|eD 0 0 zF [] 2 [] Q (eS [4,5] Q Q (cA [] Q Q)<|c0 Q (fun _=>nE) fun x2=>cA [] Q Q) fun x1=>cO Q Q
theorem aJO{b:bT}:V0 prog κ 35 (ON b) [.g [I b.Head,I b.fM,I b.fO]] .b:=
 cT tok call35 func35 results35 Q Q<|eD 0 1 yA [] 2 [] Q (c0 Q (fun _=>JQ) fun x2=>eS [5,6] Q Q (c0 Q (fun _=>bX) fun x3=>eS [9,10,11] Q Q (c0 Q (fun _=>bX) fun x4=>cA [] Q Q)<|cA [] Q Q)<|cA [] Q Q) fun x1=>cO Q Q
theorem LC{l:List Int}{s1:AC}(h1:bY κ s1 l):V0 prog κ 73 (rR l) [.h s1 l.length] .b:=
 cT tok call73 func73 results73 Q Q<|IG 3 [0] [] Out.brk [0] [] Q Q (fun hF1 x2 hr1=>bM [7] Q Q (Q8 Q h1 Q fun x3=>c0 Q (fun _=>nE) fun x4=>bM [15] Q Q (FQ hr1 hF1<|cO Q Q)<|DG [] Q)<|A3 [] Q)<|cO Q Q
theorem aA6{j:aE}{s1 s2 s3 s4 s5 s6 s7:AC}(h1:bY κ s1 j.Batch.bK)(h2:bY κ s2 j.Reads)(h3:bY κ s3 j.aJ)(h4:bY κ s4 j.eA)(h5:bY κ s5 j.fL)(h6:bY κ s6 j.aW)(h7:bY κ s7 j.cG):V0 prog κ 36 (ES j) [.g [.b j.iY,.b j.Batch.Collect,.h s1 j.Batch.bK.length,I j.aS,I j.Pc,I j.At,I j.K,I j.bT,I j.fM,I j.H,I j.fF,I j.Node.Key,I j.Node.dO,I j.Node.Next,.b j.Found,I j.Code,I j.Sub.Kind,I j.Sub.A,I j.Sub.Pc,I j.Sub.E,I j.Sub.Row,I j.Sub.B,I j.Sub.H,I j.Sub.Out,I j.Sub.Code,.b j.Sub.dJ,.h s2 j.Reads.length,.h s3 j.aJ.length,.h s4 j.eA.length,.h s5 j.fL.length,.h s6 j.aW.length,.h s7 j.cG.length]] .b:=
 cT tok call36 func36 results36 Q Q<|eD 0 1 (eE j) [1] 61 [0] Q (c0 Q (fun h=>RT (h.a h1)) fun x22=>eS [9,10] Q Q (cA [0] Q Q)<|c0 Q (fun _=>JQ) fun x23=>eS [14,15,16] Q Q (cA [0] Q Q)<|c0 Q (fun _=>JQ) fun x24=>eS [20,21,22] Q Q (cA [0] Q Q)<|c0 Q (fun _=>bX) fun x25=>eS [26,27,28] Q Q (cA [0] Q Q)<|c0 Q (fun _=>bX) fun x26=>eS [36,37,38] Q Q (cA [0] Q Q)<|c0 Q (fun _=>bX) fun x27=>eS [42,43,44] Q Q (cA [0] Q Q)<|c0 Q (fun h=>LC (h.a h5)) fun x28=>eS [48,49,50] Q Q (cA [0] Q Q)<|c0 Q (fun h=>LC (h.a h7)) fun x29=>eS [54,55,56] Q Q (cA [0] Q Q)<|cA [0] Q Q) fun x1=>bM [61] Q Q (cO Q Q)<|IG 3 [1] [0] Out.brk [1] [0] Q Q (fun hF2 x3 hr2=>bM [66] Q Q (eD 0 1 (vZ x3) [1,3] 87 [0] Q (iO aC [0] Q<|Q8 Q h6 Q fun x18=>c0 Q (fun _=>bX) fun x19=>eS [75,76] Q Q (cA [0] Q Q)<|fun hG2=>aU4 Q Q Q Q Q h6 Q Q hG2 fun hG2 s8 h8=>wi hG2<|Q8 Q h6 Q fun x20=>c0 Q (fun h=>ID (h.a h8)) fun x21=>cA [0] Q Q) fun x17=>bM [87] Q Q (FQ hr2 hF2<|cO Q Q)<|DG [0] Q)<|A3 [0] Q)<|IG 4 [1] [0] Out.brk [1] [0] Q Q (fun hF3 x5 hr3=>bM [92] Q Q (A6 ZI Q h2 Q fun x15 _ _=>c0 Q (fun _=>bX) fun x16=>bM [102] Q Q (FQ hr3 hF3<|cO Q Q)<|DG [0] Q)<|A3 [0] Q)<|IG 5 [1] [0] Out.brk [] [] Q Q (fun hF4 x7 hr4=>bM [107] Q Q (eD 0 1 (lX x7) [1,5] 147 [0] Q (iO aC [0] Q<|A6 D4 Q h3 Q fun x9 _ _=>c0 Q (fun _=>bX) fun x10=>eS [117,118] Q Q (cA [0] Q Q)<|A6 D4 Q h3 Q fun x11 _ _=>c0 Q (fun _=>bX) fun x12=>eS [126,127,128] Q Q (cA [0] Q Q)<|eS [130,131] Q Q (A6 D4 Q h3 Q fun x13 _ _=>A6 D4 Q h3 Q fun x14 _ _=>cA [0] Q Q)<|cA [0] Q Q) fun x8=>bM [147] Q Q (FQ hr4 hF4<|cO Q Q)<|DG [0] Q)<|A3 [] Q)<|cO Q Q
theorem VE{a_ b:List iG}{s1:AC}{s2:AC}(h1:bY κ s1 a_)(h2:bY κ s2 b):V0 prog κ 132 (pR a_ b) [.h s1 a_.length,.h s2 b.length] .b:=
 cT tok call132 func132 results132 Q Q<|bM [10] Q Q (cO Q Q)<|IG 5 [0,1] [] Out.brk [] [] Q Q (fun hF1 x2 hr1=>bM [14] Q Q (iO aC [] Q<|A6 aOA Q h1 Q fun x3 _ _=>A6 aOA Q h2 Q fun x4 _ _=>fun hG1=>neS eqGuardType96 stoodInHeld96 underlying96 (aN5 9997 x3 x4) Q Q Q Q Q Q<|wi hG1<|bM [25] Q Q (FQ hr1 hF1<|cO Q Q)<|DG [] Q)<|A3 [] Q)<|cO Q Q
theorem TP{a_ b:Batch}{s1:AC}{s2:AC}(h1:bY κ s1 a_.bK)(h2:bY κ s2 b.bK):V0 prog κ 74 (tI a_ b) [.g [.b a_.Collect,.h s1 a_.bK.length],.g [.b b.Collect,.h s2 b.bK.length]] .b:=
 cT tok call74 func74 results74 Q Q<|eD 0 2 uO [] 4 [] Q (eS [9,10] Q Q (c0 Q (fun h=>VE (h.a h1) (h.a h2)) fun x2=>cA [] Q Q)<|cA [] Q Q) fun x1=>cO Q Q
theorem VF{a_ b:aE}{s1 s2 s3 s4 s5 s6 s7:AC}{s8 s9 s10 s11 s12 s13 s14:AC}(h1:bY κ s1 a_.Batch.bK)(h2:bY κ s2 a_.Reads)(h3:bY κ s3 a_.aJ)(h4:bY κ s4 a_.eA)(h5:bY κ s5 a_.fL)(h6:bY κ s6 a_.aW)(h7:bY κ s7 a_.cG)(h8:bY κ s8 b.Batch.bK)(h9:bY κ s9 b.Reads)(h10:bY κ s10 b.aJ)(h11:bY κ s11 b.eA)(h12:bY κ s12 b.fL)(h13:bY κ s13 b.aW)(h14:bY κ s14 b.cG):V0 prog κ 75 (v7 a_ b) [.g [.b a_.iY,.b a_.Batch.Collect,.h s1 a_.Batch.bK.length,I a_.aS,I a_.Pc,I a_.At,I a_.K,I a_.bT,I a_.fM,I a_.H,I a_.fF,I a_.Node.Key,I a_.Node.dO,I a_.Node.Next,.b a_.Found,I a_.Code,I a_.Sub.Kind,I a_.Sub.A,I a_.Sub.Pc,I a_.Sub.E,I a_.Sub.Row,I a_.Sub.B,I a_.Sub.H,I a_.Sub.Out,I a_.Sub.Code,.b a_.Sub.dJ,.h s2 a_.Reads.length,.h s3 a_.aJ.length,.h s4 a_.eA.length,.h s5 a_.fL.length,.h s6 a_.aW.length,.h s7 a_.cG.length],.g [.b b.iY,.b b.Batch.Collect,.h s8 b.Batch.bK.length,I b.aS,I b.Pc,I b.At,I b.K,I b.bT,I b.fM,I b.H,I b.fF,I b.Node.Key,I b.Node.dO,I b.Node.Next,.b b.Found,I b.Code,I b.Sub.Kind,I b.Sub.A,I b.Sub.Pc,I b.Sub.E,I b.Sub.Row,I b.Sub.B,I b.Sub.H,I b.Sub.Out,I b.Sub.Code,.b b.Sub.dJ,.h s9 b.Reads.length,.h s10 b.aJ.length,.h s11 b.eA.length,.h s12 b.fL.length,.h s13 b.aW.length,.h s14 b.cG.length]] .b:=
 cT tok call75 func75 results75 Q Q<|eD 0 2 (oV a_ b) [2,3] 22 [0,1] Q (eS [13,14] Q Q (cA [0,1] Q Q)<|cA [0,1] Q Q) fun x1=>bM [22] Q Q (cO Q Q)<|IG 5 [2,3] [0,1] Out.brk [2,3] [0,1] Q Q (fun hF2 x3 hr2=>bM [27] Q Q (iO aC [0,1] Q<|A6 ZI Q h2 Q fun x8 _ _=>A6 ZI Q h9 Q fun x9 _ _=>fun hG2=>neS eqGuardType117 stoodInHeld117 underlying117 (aLU 9997 x8 x9) Q Q Q Q Q Q<|wi hG2<|bM [40] Q Q (FQ hr2 hF2<|cO Q Q)<|DG [0,1] Q)<|A3 [0,1] Q)<|IG 6 [2,3] [0,1] Out.brk [] [] Q Q (fun hF3 x5 hr3=>bM [45] Q Q (iO aC [0,1] Q<|A6 D4 Q h3 Q fun x6 _ _=>A6 D4 Q h10 Q fun x7 _ _=>fun hG3=>neS eqGuardType119 stoodInHeld119 underlying119 (aLV 9997 x6 x7) Q Q Q Q Q Q<|wi hG3<|bM [58] Q Q (FQ hr3 hF3<|cO Q Q)<|DG [0,1] Q)<|A3 [] Q)<|cO Q Q
theorem XD{a_ b:List eA}{s1:AC}{s2:AC}(h1:bY κ s1 a_)(h2:bY κ s2 b):V0 prog κ 76 (zG a_ b) [.h s1 a_.length,.h s2 b.length] .b:=
 cT tok call76 func76 results76 Q Q<|bM [10] Q Q (cO Q Q)<|IG 5 [0,1] [] Out.brk [] [] Q Q (fun hF1 x2 hr1=>bM [14] Q Q (iO aC [] Q<|A6 a2E Q h1 Q fun x3 _ _=>A6 a2E Q h2 Q fun x4 _ _=>fun hG1=>neS eqGuardType142 stoodInHeld142 underlying142 (aLW 9997 x3 x4) Q Q Q Q Q Q<|wi hG1<|bM [25] Q Q (FQ hr1 hF1<|cO Q Q)<|DG [] Q)<|A3 [] Q)<|cO Q Q
theorem D6{a_ b:List Int}{s1:AC}{s2:AC}(h1:bY κ s1 a_)(h2:bY κ s2 b):V0 prog κ 77 (pS a_ b) [.h s1 a_.length,.h s2 b.length] .b:=
 cT tok call77 func77 results77 Q Q<|bM [10] Q Q (cO Q Q)<|IG 5 [0,1] [] Out.brk [] [] Q Q (fun hF1 x2 hr1=>bM [14] Q Q (iO aC [] Q<|Q8 Q h1 Q fun x3=>Q8 Q h2 Q fun x4=>bM [25] Q Q (FQ hr1 hF1<|cO Q Q)<|DG [] Q)<|A3 [] Q)<|cO Q Q
theorem LD{a_ b:aE}{s1 s2 s3 s4 s5 s6 s7:AC}{s8 s9 s10 s11 s12 s13 s14:AC}(h1:bY κ s1 a_.Batch.bK)(h2:bY κ s2 a_.Reads)(h3:bY κ s3 a_.aJ)(h4:bY κ s4 a_.eA)(h5:bY κ s5 a_.fL)(h6:bY κ s6 a_.aW)(h7:bY κ s7 a_.cG)(h8:bY κ s8 b.Batch.bK)(h9:bY κ s9 b.Reads)(h10:bY κ s10 b.aJ)(h11:bY κ s11 b.eA)(h12:bY κ s12 b.fL)(h13:bY κ s13 b.aW)(h14:bY κ s14 b.cG):V0 prog κ 37 (nC a_ b) [.g [.b a_.iY,.b a_.Batch.Collect,.h s1 a_.Batch.bK.length,I a_.aS,I a_.Pc,I a_.At,I a_.K,I a_.bT,I a_.fM,I a_.H,I a_.fF,I a_.Node.Key,I a_.Node.dO,I a_.Node.Next,.b a_.Found,I a_.Code,I a_.Sub.Kind,I a_.Sub.A,I a_.Sub.Pc,I a_.Sub.E,I a_.Sub.Row,I a_.Sub.B,I a_.Sub.H,I a_.Sub.Out,I a_.Sub.Code,.b a_.Sub.dJ,.h s2 a_.Reads.length,.h s3 a_.aJ.length,.h s4 a_.eA.length,.h s5 a_.fL.length,.h s6 a_.aW.length,.h s7 a_.cG.length],.g [.b b.iY,.b b.Batch.Collect,.h s8 b.Batch.bK.length,I b.aS,I b.Pc,I b.At,I b.K,I b.bT,I b.fM,I b.H,I b.fF,I b.Node.Key,I b.Node.dO,I b.Node.Next,.b b.Found,I b.Code,I b.Sub.Kind,I b.Sub.A,I b.Sub.Pc,I b.Sub.E,I b.Sub.Row,I b.Sub.B,I b.Sub.H,I b.Sub.Out,I b.Sub.Code,.b b.Sub.dJ,.h s9 b.Reads.length,.h s10 b.aJ.length,.h s11 b.eA.length,.h s12 b.fL.length,.h s13 b.aW.length,.h s14 b.cG.length]] .b:=
 cT tok call37 func37 results37 Q Q<|eD 0 2 bL [] 4 [] Q (eS [9,10] Q Q (c0 Q (fun h=>TP (h.a h1) (h.a h8)) fun x2=>eS [15,16,17] Q Q (eS [22,23,24] Q Q (eS [29,30,31] Q Q (eS [36,37,38] Q Q (eS [43,44,45] Q Q (eS [50,51,52] Q Q (eS [57,58,59] Q Q (eS [64,65,66] Q Q (eS [71,72,73] Q Q (fun hF=>eqS eqGuardType58 stoodInHeld58 underlying58 (aN6 9997 a_.Node b.Node) Q Q Q Q Q Q<|wi hF<|eS [78,79,80] Q Q (eS [85,86,87] Q Q (eS [92,93,94] Q Q (fun hF=>eqS eqGuardType60 stoodInHeld60 underlying60 (aN7 9997 a_.Sub b.Sub) Q Q Q Q Q Q<|wi hF<|eS [99,100,101] Q Q (c0 Q (fun h=>VF (h.a h1) (h.a h2) (h.a h3) (h.a h4) (h.a h5) (h.a h6) (h.a h7) (h.a h8) (h.a h9) (h.a h10) (h.a h11) (h.a h12) (h.a h13) (h.a h14)) fun x3=>eS [104,105,106] Q Q (c0 Q (fun h=>XD (h.a h4) (h.a h11)) fun x4=>eS [111,112,113] Q Q (c0 Q (fun h=>D6 (h.a h5) (h.a h12)) fun x5=>eS [118,119,120] Q Q (c0 Q (fun h=>D6 (h.a h6) (h.a h13)) fun x6=>eS [125,126,127] Q Q (c0 Q (fun h=>D6 (h.a h7) (h.a h14)) fun x7=>cA [] Q Q)<|cA [] Q Q)<|cA [] Q Q)<|cA [] Q Q)<|cA [] Q Q)<|cA [] Q Q)<|cA [] Q Q)<|cA [] Q Q)<|cA [] Q Q)<|cA [] Q Q)<|cA [] Q Q)<|cA [] Q Q)<|cA [] Q Q)<|cA [] Q Q)<|cA [] Q Q)<|cA [] Q Q)<|cA [] Q Q)<|cA [] Q Q)<|cA [] Q Q) fun x1=>cO Q Q
theorem aEJ{t:Table}{s1 s2 s3 s4 s5 s6 s7 s8 s9 s10 s11:AC}(h1:bY κ s1 t.aB.Mem.Heap.Bytes)(h2:bY κ s2 t.aB.Mem.Heap.Class)(h3:bY κ s3 t.aB.Mem.aA.Global)(h4:bY κ s4 t.aB.Mem.aA.Own)(h5:bY κ s5 t.aB.aH.cV)(h6:bY κ s6 t.aB.bJ)(h7:bY κ s7 t.aB.A4)(h8:bY κ s8 t.cS)(h9:bY κ s9 t.aN)(h10:bY κ s10 t.gZ)(h11:bY κ s11 t.Log):V0 prog κ 16 (H7 t) [.g (QA t s1 s2 s3 s4 s5 s6 s7 s8 s9 s10 s11)] .b:=
 cT tok call16 func16 results16 Q Q<|eD 0 1 (jD t) [1] 32 [0] Q (c0 Q (fun h=>aGW (h.a h1) (h.a h2) (h.a h3) (h.a h4) (h.a h5) (h.a h6) (h.a h7)) fun x18=>eS [8,9] Q Q (cA [0] Q Q)<|eS [13,14,15] Q Q (cA [0] Q Q)<|eS [19,20,21] Q Q (cA [0] Q Q)<|c0 Q (fun h=>RU (h.a h10)) fun x19=>eS [25,26,27] Q Q (cA [0] Q Q)<|c0 Q (fun _=>bX) fun x20=>cA [0] Q Q) fun x1=>bM [32] Q Q (cO Q Q)<|IG 3 [1] [0] Out.brk [1] [0] Q Q (fun hF2 x3 hr2=>bM [34] Q Q (A6 a4C Q h8 Q fun x16 _ _=>c0 Q (fun _=>aJO) fun x17=>bM [43] Q Q (FQ hr2 hF2<|cO Q Q)<|DG [0] Q)<|A3 [0] Q)<|IG 4 [1] [0] Out.brk [] [] Q Q (fun hF3 x5 hr3=>bM [45] Q Q (eD 0 1 (kQ x5) [1,4] 81 [0] Q (A6 aDT Q h9 Q fun x7 s12 h12=>eS [53,54] Q Q (A6 aDT Q h9 Q fun x8 s13 h13=>c0 Q (fun h=>aA6 (h.a h13.1) (h.a h13.2.1) (h.a h13.2.2.1) (h.a h13.2.2.2.1) (h.a h13.2.2.2.2.1) (h.a h13.2.2.2.2.2.1) (h.a h13.2.2.2.2.2.2)) fun x9=>eS [61,62,63] Q Q (cA [0] Q Q)<|A6 aDT Q h9 Q fun x10 s14 h14=>eS [70,71] Q Q (A6 aDT Q h9 Q fun x11 s15 h15=>c0 Q (fun h=>LD (b:=(⟨false,(⟨false,[]⟩:Batch),0,0,0,0,0,0,0,0,(⟨0,0,0⟩:bP),false,0,(⟨0,0,0,0,0,0,0,0,0,false⟩:Sub),[],[],[],[],[],[]⟩:aE)) (h.a h15.1) (h.a h15.2.1) (h.a h15.2.2.1) (h.a h15.2.2.2.1) (h.a h15.2.2.2.2.1) (h.a h15.2.2.2.2.2.1) (h.a h15.2.2.2.2.2.2) sY sY sY sY sY sY sY) fun x12=>cA [0] Q Q)<|cA [0] Q Q)<|A6 aDT Q h9 Q fun x13 s16 h16=>eS [70,71] Q Q (A6 aDT Q h9 Q fun x14 s17 h17=>c0 Q (fun h=>LD (b:=(⟨false,(⟨false,[]⟩:Batch),0,0,0,0,0,0,0,0,(⟨0,0,0⟩:bP),false,0,(⟨0,0,0,0,0,0,0,0,0,false⟩:Sub),[],[],[],[],[],[]⟩:aE)) (h.a h17.1) (h.a h17.2.1) (h.a h17.2.2.1) (h.a h17.2.2.2.1) (h.a h17.2.2.2.2.1) (h.a h17.2.2.2.2.2.1) (h.a h17.2.2.2.2.2.2) sY sY sY sY sY sY sY) fun x15=>cA [0] Q Q)<|cA [0] Q Q) fun x6=>bM [81] Q Q (FQ hr3 hF3<|cO Q Q)<|DG [0] Q)<|A3 [] Q)<|cO Q Q
theorem aEK{code:List UInt8}{s1:AC}(h1:bY κ s1 code):V0 prog κ 4 (OO code) [.h s1 code.length] .b:=
 cT tok call4 func4 results4 Q Q<|c0 Q (fun h=>aOC (h.a h1)) fun x1=>bM [8] Q Q (cO Q Q)<|c1 Q (fun h=>RS (h.a h1)) fun x2 s2=>c0 Q (fun h=>aGH (h.o 0 Q) (h.o 1 Q)) fun x3=>bM [13] Q Q (cO Q Q)<|c1 Q (fun h=>YW (h.o 0 Q) (h.o 1 Q)) fun x4 s3=>eI 0 2 (fun(p:Bool×Table)=>zH p.1 p.2) [4] (fun(p:Bool×Table) (_:Unit)=>[(25,.b p.1)]) [] (fun p _=>(zTb p.2 s3 [.box 1 (yTb p.2 s3)])) Q (eS [19,20] Q Q (cA (p:=(true,x4)) [3,4,5,6,7,8,9,10,11,12,13,14] Q Q)<|cA (p:=((x4.cS.length:Int) != 2,x4)) [3,4,5,6,7,8,9,10,11,12,13,14] Q Q) fun⟨x5,x6⟩ _=>bM [25] Q Q (cO Q Q)<|S2 () [4] (fun(p:Int×Table) (_:Unit)=>[(5,I p.1)]) [0,1,2,3,4,5,6,7,8,9,10,11] [] (fun p _=>(zTb p.2 s3 [.box 1 (yTb p.2 s3)])) Out.brk [4] (fun(x11:Table) (_:Unit)=>[]) [] (fun x11 _=>(zTb x11 s3 [.box 1 (yTb x11 s3)])) Q Q (fun hF2 ⟨x9,x10⟩ _ hr2=>bM [27] Q Q (S2 () [4,5] (fun(p:Int×Table) (_:Unit)=>[(6,I p.1)]) [0,1,2,3,4,5,6,7,8,9,10,11] [] (fun p _=>(zTb p.2 s3 [.box 1 (yTb p.2 s3)])) Out.brk [4,5] (fun(x17:Table) (_:Unit)=>[]) [] (fun x17 _=>(zTb x17 s3 [.box 1 (yTb x17 s3)])) Q Q (fun hF3 ⟨x15,x16⟩ _ hr3=>bM [31] Q Q (eI 0 2 (fun(p:Bool×Table)=>GH x15 p.1 p.2) [4,5,6] (fun(p:Bool×Table) (_:Unit)=>[(51,.b p.1)]) [] (fun p _=>(zTb p.2 s3 [.box 1 (yTb p.2 s3)])) Q (iO aC [11] Q<|qA aT 8 Q Q Q fun x20 h2 s4 h3=>fun hG3=>l5 2 h3 h2 Q Q Q Q Q<|wi hG3<|qA uS 7 Q Q Q fun x21 h4 _ h5=>fun hG3=>l5 3 h5 h4 Q Q Q Q Q<|bd hG3 fun x22 hA1 hG3=>dD Q Q ((by refine dD Q Q ?_ ?_ <;> exact have hq1:=rb hA1;wi hq1<|c0 Q (fun h=>aEB (h.o 20 Q)) fun u1=>fun hq1=>match u1,hq1 with | _,rfl=>sF Q<|iW uS 22 [] h4 () Q Q Q Q Q Q Q<|fR Q Q<|iW aT 12 [15,16,17,18,19,20,21] h2 s4 Q Q Q Q Q Q Q<|fR Q Q<|lE (p:=(!(x22 == (x21.fO == (aX (x15+1)))),x16)) () [0,1,2,3,4,5,6,25,26,9,10,11] hG3 Q)) (have hq3:=rb hA1;wi hq3<|c0 Q (fun h=>aEB (h.o 20 Q)) fun u3=>fun hq3=>match u3,hq3 with | _,rfl=>sF Q<|iW uS 22 [] h4 () Q Q Q Q Q Q Q<|fR Q Q<|iW aT 12 [15,16,17,18,19,20,21] h2 s4 Q Q Q Q Q Q Q<|fR Q Q<|lE (p:=(!(x22 == (x21.fO == (aX (x15+1)))),x16)) () [0,1,2,3,4,5,6,25,26,9,10,11] hG3 Q)) fun⟨x18,x19⟩ _=>bM [51] Q Q (FQ hr3 hF3<|FQ hr2 hF2<|cO Q Q)<|DG [0,1,2,3,4,5,6,7,8,9,10,11] Q)<|A3 [0,1,2,3,4,5,6,7,8,9,10,11] Q) fun x17 _=>DG [0,1,2,3,4,5,6,7,8,9,10,11] Q)<|A3 [0,1,2,3,4,5,6,7,8,9,10,11] Q) fun x11 _=>c0 Q (fun h=>aEJ (h.o 0 Q) (h.o 1 Q) (h.o 2 Q) (h.o 3 Q) (h.o 4 Q) (h.o 5 Q) (h.o 6 Q) (h.o 7 Q) (h.o 8 Q) (h.o 9 Q) (h.o 10 Q)) fun x12=>cO Q Q
end
end Go.Proofs.YtejjbceagmbdhaaGreat
end
noncomputable section
namespace Go.Gv
theorem gR{σ ρ:Type}{f:σ->Option (Step σ ρ)}(n:Nat)(S:Nat->σ)(r:ρ)(hs:∀k,k < n->f (S k)=some (.next (S (k+1))))(he:f (S n)=some (.stop r)):loop f (S 0)=some r:=by
  have key:∀d k,k+d=n->loop f (S k)=some r:=by
    intro d
    induction d with
    | zero => intro k hk; obtain rfl : k = n := by omega
              exact bG he
    | succ d ih=>intro k hk;rw [bQ (hs k (by omega))];exact ih (k+1) (by omega)
  exact key n 0 (by omega)
theorem aR0{σ ρ:Type}{f:σ->Option (Step σ ρ)}(n:Nat)(S:Nat->σ)(g:Nat->ρ)
  (h:∀k,k<=n->f (S k)=some (.stop (g k))\/(k < n/\f (S k)=some (.next (S (k+1)))/\g k=g (k+1))):∀k,k<=n->loop f (S k)=some (g k):=by
 have key:∀d k,k+d=n->loop f (S k)=some (g k):=by
  intro d
  induction d with
  | zero =>
   intro k hk
   rcases h k (by omega) with h1 | ⟨h1,_⟩
   ·exact bG h1
   ·omega
  | succ d ih =>
   intro k hk
   rcases h k (by omega) with h1 | ⟨_,h2,h3⟩
   ·exact bG h1
   ·rw [bQ h2,h3];exact ih (k+1) (by omega)
 intro k hk
 exact key (n - k) k (by omega)
theorem uX{σ ρ:Type}{f:σ->Option (Step σ ρ)}(n:Nat)(S:Nat->σ)(p:Nat->Prop)[DecidablePred p](yes no:ρ)
  (h1:∀k,k < n->p k->f (S k)=some (.next (S (k+1)))) (h2:∀k,k < n->¬p k->f (S k)=some (.stop no)) (h3:f (S n)=some (.stop yes)) :
  loop f (S 0)=some (if ∀k,k < n->p k then yes else no):=by
 classical
 have key:∀d k,k+d=n->loop f (S k)=some (if ∀j,k<=j->j < n->p j then yes else no):=by
  intro d
  induction d with
  | zero =>
   intro k hk;obtain rfl:k=n:=by omega
   rw [bG h3,if_pos (fun j a b=>by omega)]
  | succ d ih =>
   intro k hk
   by_cases hp:p k
   ·rw [bQ (h1 k (by omega) hp),ih (k+1) (by omega)]
    by_cases h:∀j,k+1<=j->j < n->p j
    ·rw [if_pos h,if_pos]
     intro j a b
     by_cases e:j=k
     ·subst e;exact hp
     ·exact h j (by omega) b
    ·rw [if_neg h,if_neg]
     exact fun q=>h fun j a b=>q j (by omega) b
   ·rw [bG (h2 k (by omega) hp),if_neg]
    exact fun q=>hp (q k (jA _) (by omega))
 have:=key n 0 (by omega)
 rw [this]
 by_cases h:∀k,k < n->p k
 ·rw [if_pos h,if_pos (fun j _ b=>h j b)]
 ·rw [if_neg h,if_neg (fun q=>h fun k a=>q k (jK _) a)]
theorem jS{α σ ρ:Type}{f:σ->Option (Step σ ρ)}(l:List α)(S:Nat->σ)(p:α->Prop)[DecidablePred p](yes no:ρ)
  (h1:∀k (h:k < l.length),p l[k]->f (S k)=some (.next (S (k+1)))) (h2:∀k (h:k < l.length),¬p l[k]->f (S k)=some (.stop no)) (h3:f (S l.length)=some (.stop yes)) :
  loop f (S 0)=some (if ∀x∈l,p x then yes else no):=by
 classical
 have:=uX (f:=f) l.length S (fun k=>∀h:k < l.length,p l[k]) yes no (fun k h hp=>h1 k h (hp h)) (fun k h hp=>h2 k h (fun q=>hp fun _=>q)) h3
 rw [this]
 by_cases h:∀x∈l,p x
 ·rw [if_pos h,if_pos (fun k hk _=>h _ (dC hk))]
 ·rw [if_neg h,if_neg]
  intro q
  refine h fun x hx=>?_
  obtain⟨k,hk,rfl⟩:=TX.1 hx
  exact q k hk hk
theorem aL{x:Int}(h1:-9223372036854775808<=x)(h2:x<=9223372036854775807):aX x=x:=IQ ⟨h1,h2⟩
theorem gT{α:Type}{l:List α}{i:Int}(h0:0<=i)(h1:i < l.length):idx l i=some (l[i.toNat]'(by omega)):=idx_eq h0 h1
theorem wrap_i64{x:Int}(h1:-9223372036854775808<=x)(h2:x<=9223372036854775807):IntKind.i64.wrap x=x:=IQ ⟨h1,h2⟩
theorem aL0{x y:Int}(h1:0<=x):x.tdiv y=x / y:=Int.tdiv_eq_ediv_of_nonneg h1
theorem NV{x y:Int}(h1:0<=x):x.tmod y=x % y:=Int.tmod_eq_emod_of_nonneg h1
theorem aQW{x:Int}{k:Nat}(h1:0<=x)(hk:k<=63):nH .i64 x k=x / 2 ^ k:=by
 unfold nH
 have:min ((k:Int).toNat) IntKind.i64.bits=k:=by simp [IntKind.bits];omega
 rw [this,Int.fdiv_eq_ediv_of_nonneg _ (by exact Int.le_of_lt (Int.pow_pos (by omega)))]
end Go.Gv
end
noncomputable section
namespace Go.Gv
noncomputable section
variable {α:Type} {p:α->Bool}
theorem XE{f:Int->Option (Step Int (Out Unit Int))}{s:List α}(hl:s.length<=4611686018427387904)
  (hf:∀k:Nat,f (k:Int)=if h:k < s.length then (if p s[k] then some (.stop (Out.ret (k:Int))) else some (.next ((k+1:Nat):Int))) else some (.stop (Out.brk ()))) :
  ∀d k,k+d=s.length->(∃j,∃h:j < s.length,k<=j/\(∀i (h:i < s.length),k<=i->i < j->p s[i]=false)/\p s[j]=true/\loop f (k:Int)=some (Out.ret (j:Int)))\/((∀i (h:i < s.length),k<=i->p s[i]=false)/\loop f (k:Int)=some (Out.brk ()))
 | 0,k,hk=>.inr ⟨fun i h h2=>by omega,bG (by grind)⟩
 | d + 1, k, hk => by
  have hks:k < s.length:=by omega
  by_cases hp:p s[k]=true
  ·exact .inl ⟨k,hks,jA _,fun i h h1 h2=>by omega,hp,bG (by rw [hf k,dif_pos hks,if_pos hp])⟩
  ·have hp:p s[k]=false:=by simpa using hp
   have hn:f (k:Int)=some (.next ((k+1:Nat):Int)):=by rw [hf k,dif_pos hks,if_neg (by simp [hp])]
   rcases XE hl hf d (k+1) (by omega) with ⟨j,h,h1,h2,h3,h4⟩ | ⟨h1,h2⟩
   ·refine .inl ⟨j,h,by omega,fun i hi a b=>?_,h3,by rw [bQ hn];exact h4⟩
    by_cases e:i=k
    ·subst e;exact hp
    ·exact h2 i hi (by omega) b
   ·refine .inr ⟨fun i hi a=>?_,by rw [bQ hn];exact h2⟩
    by_cases e:i=k
    ·subst e;exact hp
    ·exact h1 i hi (by omega)
theorem aJP{f:List α×Int×Int->Option (Step (List α×Int×Int) (List α×Int))}{n:Nat}(hl:n<=4611686018427387904)
  (hf:∀(L:List α) (i j:Nat) (h:j < L.length),L.length=n->i<=j->f (L,(i:Int),(j:Int))=if p L[j] then some (.next (L,(i:Int),((j+1:Nat):Int))) else some (.next (L.set i L[j],((i+1:Nat):Int),((j+1:Nat):Int))))
  (he:∀(L:List α) (i j:Nat),j=L.length->f (L,(i:Int),(j:Int))=some (.stop (L,(i:Int)))) :
  ∀d (L:List α) (i j:Nat),j+d=L.length->L.length=n->i<=j->∃(M:List α) (k:Nat),loop f (L,(i:Int),(j:Int))=some (M,(k:Int))/\M.length=n/\k<=n/\M.take k=L.take i++(L.drop j).filter (fun x=>!p x)
 | 0,L,i,j,hj,hn,hi=>⟨L,i,bG (he L i j (by omega)),hn,by omega,by grind⟩
 | d + 1, L, i, j, hj, hn, hi => by
  have hjl:j < L.length:=by omega
  have hd:L.drop j=L[j] :: L.drop (j+1):=IJ hjl
  by_cases hp:p L[j]=true
  ·obtain⟨M,k,h1,h2,h3,h4⟩:=aJP hl hf he d L i (j+1) (by omega) hn (by omega)
   refine⟨M,k,by rw [bQ (by rw [hf L i j hjl hn hi,if_pos hp])];exact h1,h2,h3,by grind⟩
  ·have hp:p L[j]=false:=by grind
   obtain⟨M,k,h1,h2,h3,h4⟩:=aJP hl hf he d (L.set i L[j]) (i+1) (j+1) (by simp;omega) (by grind) (by omega)
   refine⟨M,k,by rw [bQ (by rw [hf L i j hjl hn hi,if_neg (by simp [hp])])];exact h1,h2,h3,?_⟩
   rw [h4,hd,List.filter_cons_of_pos (by simp [hp])]
   have e1:(L.set i L[j]).take (i+1)=L.take i ++ [L[j]]:=by
    rw [TZ (by simp;omega),List.take_set_of_le (jA _)]
    simp
   grind [List.drop_set_of_lt]
end
theorem aR1{α:Type}{l xs:List α}{a:Nat}(h:a<=l.length):((cM l a xs).take a).drop 0=l.take a:=by
 grind [cM]
theorem aV6{α:Type}{q:α->Bool}{s:List α}{j:Nat}(h:j < s.length)(h1:∀i (h:i < s.length),i < j->q s[i]=true)(h2:q s[j]=false):s.take j++(s.drop (j+1)).filter q=s.filter q:=by
 have e:s=s.take j++s[j] :: s.drop (j+1):=by simp
 have e3:(s.take j).filter q=s.take j:=by
  grind [List.filter_eq_self,aCE]
 grind
theorem aL1(x y:Int):cmp_Less_int x y=some (decide (x < y)):=by
 simp [cmp_Less_int,cmp_isNaN_int,rJ]
theorem aJQ{A B:List Int}{x:Int}{k:Int}(h:k=(A.length:Int)):idx (A++x :: B) k=some x:=by
 grind [aP]
theorem aL2{data:List Int}(hd:data.length<=4611686018427387904):∀(j:Nat) (A B C:List Int) (x:Int),A.length=j->(A++x :: (B++C)).length=data.length->(A++B).Pairwise (·<=·)->(∀b∈B,x<=b) ->
  ∃M:List Int,loop (dB data 0) (A++x :: (B++C),(j:Int))=some (M++C)/\M.Perm (A++x :: B)/\M.Pairwise (·<=·)
 | 0, A, B, C, x, hj, hn, hs, hx => by
  obtain rfl:A=[]:=lM hj
  refine⟨x :: B,bG ?_,.refl _,List.pairwise_cons.2 ⟨hx,hs⟩⟩
  simp only [dB,dA]
  rw [aK hn,if_neg (by simp),aK hn,if_neg (by simp)]
  rfl
 | j + 1, A, B, C, x, hj, hn, hs, hx => by
  obtain⟨A,y,rfl⟩:∃A' y,A=A' ++ [y]:=by
   rcases List.eq_nil_or_concat A with h | ⟨A',y,h⟩
   ·rw [h] at hj;cases hj
   ·exact⟨A',y,by rw [h,List.concat_eq_append]⟩
  have hjA:A.length=j:=by grind
  have e0:A ++ [y]++x :: (B++C)=A++y :: (x :: (B++C)):=by simp
  have ew:aX (((j+1:Nat):Int) - 1)=(j:Int):=by
   grind [aL]
  have i1:idx (A++y :: (x :: (B++C))) ((j+1:Nat):Int)=some x:=by
   grind [aJQ]
  have i2:idx (A++y :: (x :: (B++C))) (j:Int)=some y:=aJQ (by omega)
  rw [e0] at hn ⊢
  have hyB:∀b∈B,y<=b:=fun b hb=>(List.pairwise_append.1 hs).2.2 y (by simp) b hb
  by_cases hlt:x < y
  ·have st:dB data 0 (A++y :: (x :: (B++C)),((j+1:Nat):Int))=some (.next (A++x :: ((y :: B)++C),(j:Int))):=by
    simp_all [dB,aK,aL1,dA,iB,aJQ]
   obtain⟨M,h1,h2,h3⟩:=aL2 hd j A (y :: B) C x hjA (by grind) (by grind) (fun b hb=>by
    grind)
   refine⟨M,by grind [bQ],h2.trans ?_,h3⟩
   grind
  ·refine⟨A ++ [y]++x :: B,bG ?_,.refl _,?_⟩
   ·simp_all [dB,aK,aL1,dA,if_neg]
   grind
theorem aHX{data:List Int}(hd:data.length<=4611686018427387904):∀d (S R:List Int),R.length=d->S≠[]->(S++R).length=data.length->S.Pairwise (·<=·) ->
  ∃M:List Int,loop (cQ data 0 (data.length:Int)) (S++R,(S.length:Int))=some M/\M.Perm (S++R)/\M.Pairwise (·<=·)
 | 0, S, R, hR, h0, hn, hs => by
  simp_all [bG,cQ,aK]
 | d+1,S,[],hR,h0,hn,hs=>by cases hR
 | d + 1, S, x :: R, hR, h0, hn, hs => by
  obtain⟨M,h1,h2,h3⟩:=aL2 hd S.length S [] R x rfl (by grind) (by grind) (fun b hb=>by cases hb)
  have hl:=h2.length_eq
  simp at hl
  have hn':=hn
  simp at hn'
  have st:cQ data 0 (data.length:Int) (S++x :: R,(S.length:Int))=some (.next (M++R,((S.length+1:Nat):Int))):=by
   simp only [cQ]
   rw [aK hn,if_pos (by simp;omega)]
   grind [mD,mC,aK,aL]
  obtain⟨N,g1,g2,g3⟩:=aHX hd d M R (by grind) (by grind) (by simp;omega) h3
  refine⟨N,by grind [bQ],g2.trans ?_,g3⟩
  grind
theorem aV7{x:List Int}(h:x.length<=12)(hb:∃n,xO (IntKind.u64.wrap (x.length:Int))=some n):∃y:List Int,yY x=some y/\y.Perm x/\y.Pairwise (·<=·):=by
 have key:∃y:List Int,gG x 0 (x.length:Int)=some y/\y.Perm x/\y.Pairwise (·<=·):=by
  unfold gG
  rw [aL (by omega) (by omega)]
  cases x with
  | nil =>
   simp [bG,cQ,aK,iC,iA]
  | cons a r =>
   obtain⟨M,h1,h2,h3⟩:=aHX (data:=a :: r) (by omega) r.length [a] r rfl (by simp) (by simp) (List.pairwise_singleton _ _)
   refine⟨M,?_,by grind,h3⟩
   have h1':loop (cQ (a :: r) 0 ((a :: r).length:Int)) (a :: r,(0:Int)+1)=some M:=h1
   rw [h1',aG]
   simp only [iC,iA]
   have h4:=h2.length_eq
   grind [aK]
 obtain⟨y,h1,h2,h3⟩:=key
 obtain⟨n,hn⟩:=hb
 refine⟨y,?_,h2,h3⟩
 unfold yY mW
 rw [hn,aG,bG (r:=y) (by
  simp only [rK]
  rw [aL (by omega) (by omega),if_pos (by simp;omega),h1];rfl),aG]
 rfl
def a2F(n:Nat):Bool:=(xO (IntKind.u64.wrap (n:Int))).isSome
theorem aV8:(List.range 13).all a2F=true:=by kernel_rfl
theorem aOD(n:Nat)(h:n<=12):∃m,xO (IntKind.u64.wrap (n:Int))=some m:=
 aCH.1 (VN.1 aV8 n (List.mem_range.2 (by omega)))
theorem aL3{l:List Int}(h:l.Pairwise (·<=·)):(vI l).Pairwise (· < ·)/\∀a,a∈vI l↔a∈l:=by
 obtain⟨n,hn⟩:∃n,l.length=n:=⟨_,rfl⟩
 revert l
 induction n with
 | zero=>intro l h hn;obtain rfl:l=[]:=lM hn;exact⟨.nil,fun a=>Iff.rfl⟩
 | succ n ih=>
 intro l h hn
 obtain⟨l,x,rfl⟩:∃L z,l=L ++ [z]:=by
  rcases List.eq_nil_or_concat l with h0 | ⟨L,z,h0⟩
  ·rw [h0] at hn;cases hn
  ·exact⟨L,z,by rw [h0,List.concat_eq_append]⟩
 rw [List.pairwise_append] at h
 obtain⟨i1,i2⟩:=ih h.1 (by grind)
 rw [YA]
 split
 ·grind
 ·rename_i hx
  refine⟨List.pairwise_append.2 ⟨i1,List.pairwise_singleton _ _,fun a ha b hb=>?_⟩,fun a=>by grind⟩
  simp at hb;subst hb
  have hle:a<=b:=h.2.2 a ((i2 a).1 ha) b (by simp)
  by_cases e:a=b
  ·subst e
   exfalso
   obtain⟨L,z,hz⟩:∃L z,vI l=L ++ [z]:=by
    rcases List.eq_nil_or_concat (vI l) with h0 | ⟨L,z,h0⟩
    ·rw [h0] at ha;cases ha
    ·exact⟨L,z,by rw [h0,List.concat_eq_append]⟩
   rw [hz] at ha hx i1
   have hz':z<=a:=h.2.2 z ((i2 z).1 (by grind)) a (by simp)
   rcases gC.1 ha with ha' | ha'
   ·have:=(List.pairwise_append.1 i1).2.2 a ha' z (by simp);omega
   grind
  ·omega
end Go.Gv
end
noncomputable section
namespace Go.Gv
theorem eH(n a b:Int):bW n a b=some (decide (a<=n/\n<=b)):=by
 grind [bW,o5]
theorem cE(n a b:Int):bN n a b=some (decide (a<=n/\n<=b)):=by
 grind [bN,HE]
theorem map_take{α β:Type}(f:α->β){l:List α}{k:Nat}(h:k < l.length):(l.take (k+1)).map f=(l.take k).map f ++ [f l[k]]:=by
 grind [TZ]
end Go.Gv
end
noncomputable section
namespace Go.Gv
def mK(c:Int):Int:=if c=0 then 8 else if c=1 then 16 else if c=2 then 40 else 0
def aY(c:Int):Int:=if c=0 then 12 else if c=1 then 20 else if c=2 then 44 else 0
def cX(c:Int):Int:=if c=0 then 4 else if c=1 then 2 else if c=2 then 1 else 0
theorem wG{c:Int}(h:0<=c/\c<=2):c=0\/c=1\/c=2:=by omega
theorem aV9{c:Int}(h:¬(0<=c/\c<=2)):mK c=0:=by unfold mK;omega
theorem aEL{c:Int}(h:¬(0<=c/\c<=2)):aY c=0:=by unfold aY;omega
theorem aJR{c:Int}(h:¬(0<=c/\c<=2)):cX c=0:=by unfold cX;omega
theorem mO(c:Int):0<=cX c/\cX c<=4:=by grind [cX]
theorem aOE(c:Int):0<=aY c/\aY c<=44:=by grind [aY]
theorem uY{c:Int}:0 < cX c↔0<=c/\c<=2:=by
 grind [cX]
theorem R6(c:Int):FF c=some (mK c):=by
 grind [FF,mK]
theorem jE(c:Int):jT c=some (decide (0<=c/\c<=2)):=by simp [jT,eH]
theorem R7(c:Int):AT c=some (mK c):=by
 unfold AT
 rw [jE]
 by_cases h:0<=c/\c<=2
 ·rcases wG h with rfl | rfl | rfl <;> rfl
 grind [aV9]
theorem YY(c:Int):xS c=some (aY c):=by
 unfold xS
 rw [cE]
 by_cases h:0<=c/\c<=2
 ·rcases wG h with rfl | rfl | rfl <;> rfl
 grind [aEL]
theorem NW(c:Int):sG c=some (aY c):=by
 unfold sG
 rw [jE]
 by_cases h:0<=c/\c<=2
 ·rcases wG h with rfl | rfl | rfl <;> rfl
 grind [aEL]
theorem hO(c:Int):lL c=some (cX c):=by
 unfold lL
 rw [cE]
 by_cases h:0<=c/\c<=2
 ·rcases wG h with rfl | rfl | rfl <;> rfl
 grind [aJR]
theorem zN(c:Int):nK c=some (cX c):=by
 unfold nK
 rw [jE]
 by_cases h:0<=c/\c<=2
 ·rcases wG h with rfl | rfl | rfl <;> rfl
 grind [aJR]
theorem R8(s:Int):AY s=some (if 0<=s/\s<=23 then s / 4 else -1):=by
 grind [AY,cE,aL]
theorem QI(s:Int):vV s=some (if 0<=s/\s<=23 then s % 4 else -1):=by
 grind [vV,cE]
def iP(s c:Int):Int:=if (0<=s/\s<=23)/\s % 4 < cX c then s / 4 * 64+8+s % 4 * aY c else -1
theorem O3{i c:Int}(h0:0<=i)(h1:i < cX c):0<=i * aY c/\i * aY c+aY c<=56:=by
 unfold cX at h1;unfold aY
 grind
theorem sL(s c:Int):uH s c=some (iP s c):=by
 unfold uH EO iP
 rw [R8,QI,hO,YY]
 by_cases h:0<=s/\s<=23
 ·have hp:=mO c
  have h1:¬s / 4 < 0:=by omega
  have h2:aX (cX c - 1)=cX c - 1:=aL (by omega) (by omega)
  by_cases h3:s % 4 < cX c
  ·have hm:=O3 (by omega) h3
   have hs:=aOE c
   have h4:0<=s % 4/\s % 4<=cX c - 1:=by omega
   have h5:¬cX c - 1 < s % 4:=by omega
   have e1:aX (s / 4 * 64)=s / 4 * 64:=aL (by omega) (by omega)
   have e2:aX (s / 4 * 64+8)=s / 4 * 64+8:=aL (by omega) (by omega)
   have e3:aX (s % 4 * aY c)=s % 4 * aY c:=aL (by omega) (by omega)
   have e4:aX (s / 4 * 64+8+s % 4 * aY c)=s / 4 * 64+8+s % 4 * aY c:=aL (by omega) (by omega)
   simp [h,h1,h2,h3,h4,h5,cE,e1,e2,e3,e4]
  grind [cE]
 ·simp [h]
theorem uZ(s:Int):lN s=some (decide (0<=s/\s<=23)):=by simp [lN,eH]
theorem yH(s c:Int):tV s c=some (iP s c):=by
 unfold tV xJ iP
 rw [uZ,jE,zN,NW]
 by_cases h:0<=s/\s<=23
 ·have hp:=mO c
  rw [NV h.1,aL0 h.1]
  grind [cX,aL,aY]
 ·simp [h]
end Go.Gv
end
noncomputable section
namespace Go.Gv
def ldF(l:List Int):Int:=l.foldl (fun n x=>n * 256+x) 0
def pX(l:List Int):Prop:=∀x∈l,0<=x/\x<=255
instance (l:List Int):Decidable (pX l):=by unfold pX;infer_instance
theorem aEM{l:List Int}{k:Nat}(h:k < l.length):ldF (l.take (k+1))=ldF (l.take k) * 256+l[k]:=by
 grind [ldF,TZ]
theorem aHY{l:List Int}(h:pX l):∀k,k<=l.length->0<=ldF (l.take k)/\ldF (l.take k) < 256 ^ k:=by
 intro k
 induction k with
 | zero=>grind [ldF]
 | succ k ih =>
  intro hk
  have h1:=ih (by omega)
  have h2:=h _ (dC (show k < l.length by omega))
  grind [aEM]
theorem a2G{k:Nat}(h:k<=6):(256:Int) ^ k<=281474976710656:=by
 have h1:(256:Nat) ^ k<=256 ^ 6:=Nat.pow_le_pow_right (by omega) h
 grind
def ld(b:List Int)(at_ w:Nat):Int:=ldF ((b.drop at_).take w)
theorem aQX{n x:Int}{k:Nat}(hk:k<=6)(h:0<=n/\n < 256 ^ k)(hx:0<=x/\x<=255):aX (aX (n * 256)+x)=n * 256+x/\aX (aX (256 * n)+x)=n * 256+x:=by
 have:=a2G hk
 grind [aL]
theorem aOF{b:List Int}{a w:Nat}(h:a+w<=b.length):((b.drop a).take w).length=w:=by simp;omega
theorem aEN{b:List Int}{a w k:Nat}(h:k < ((b.drop a).take w).length)(h':a+k < b.length):((b.drop a).take w)[k]=b[a+k]:=by simp
theorem aJS{b:List Int}(hb:pX b)(a w:Nat):pX ((b.drop a).take w):=fun x hx=>hb x (aCF (List.mem_of_mem_take hx))
theorem R9{b:List Int}(hb:pX b){a w:Nat}(hw:w<=7)(h:a+w<=b.length)(hl:b.length<=100000):FE b (a:Int) (w:Int)=some (ld b a w):=by
 unfold FE
 have hlen:=aOF h
 have hbb:=aJS hb a w
 have key:loop (uG b (a:Int) (w:Int)) (0,0)=some (ld b a w):=by
  refine gR (f:=uG b (a:Int) (w:Int)) w (fun k=>(ldF (((b.drop a).take w).take k),(k:Int))) _ (fun k hk=>?_) ?_
  ·have hb1:=aHY hbb k (by omega)
   have hk':k < ((b.drop a).take w).length:=by omega
   have hx:=hbb _ (dC hk')
   have hs:=aQX (by omega) hb1 hx
   rw [aEN hk' (by omega)] at hs
   have e1:aX ((a:Int)+k)=((a+k:Nat):Int):=by grind [aL]
   simp only [uG]
   rw [if_pos (by simp;omega),e1,aP (by omega)]
   simp only [aG,hs.1,aEM hk',aEN hk' (show a+k < b.length by omega)]
   grind [aL]
  grind [uG,ld]
 rw [key];rfl
theorem rY{b:List Int}(hb:pX b){a w:Nat}(hw:w<=7)(h:a+w<=b.length)(hl:b.length<=100000):nL b (a:Int) (w:Int)=some (ld b a w):=by
 unfold nL
 have hlen:=aOF h
 have hbb:=aJS hb a w
 have e0:aX ((a:Int)+w)=((a+w:Nat):Int):=by grind [aL]
 have e2:(b.take (a+w)).drop a=(b.drop a).take w:=by grind
 rw [aK (by omega)]
 have key:loop (rH b (a:Int) (w:Int)) (0,0)=some (ld b a w):=by
  refine gR (f:=rH b (a:Int) (w:Int)) w (fun k=>(ldF (((b.drop a).take w).take k),(k:Int))) _ (fun k hk=>?_) ?_
  ·have hb1:=aHY hbb k (by omega)
   have hk':k < ((b.drop a).take w).length:=by omega
   have hx:=hbb _ (dC hk')
   have hs:=aQX (by omega) hb1 hx
   simp only [rH,e0,JZ,e2]
   rw [if_pos (by simp;omega),aP hk']
   simp only [aG,hs.2,aEM hk']
   rw [aL (x:=(k:Int)+1) (by omega) (by omega)];rfl
  ·have:((b.drop a).take w).take w=(b.drop a).take w:=by grind
   simp only [rH,e0,JZ,e2,this,ld]
   grind
 rw [key];rfl
theorem O4{l:List Int}(hl:l.length<=maxLen)(f:Int->Bool):gD l (fun x=>some (f x))=some (l.any f):=by
 unfold gD tW
 have key:∀k:Nat,k<=l.length->loop (iH l (fun x=>some (f x))) (k:Int)=some (if (l.drop k).any f then Out.ret ((k+(l.drop k).findIdx f:Nat):Int) else Out.brk ()):=by
  refine aIN l.length _ fun k hk=>?_
  by_cases h3:k < l.length
  ·have hd:l.drop k=l[k] :: l.drop (k+1):=IJ h3
   simp only [iH]
   rw [if_pos (by simp;omega),aP h3,lG (IS h3 hl),hd]
   grind
  grind [iH]
 have t0:loop (iH l (fun x=>some (f x))) 0=_:=key 0 (by omega)
 rw [t0]
 simp only [MP]
 by_cases h:l.any f=true
 ·simp [h,o9]
 grind [o9,AU]
def BOk(b:List Int):Prop:=b.length<=1000/\pX b
instance (b:List Int):Decidable (BOk b):=by unfold BOk;infer_instance
theorem aA7{b:List Int}(hl:b.length<=maxLen):H0 b=some (decide (BOk b)):=by
 unfold H0
 have key:loop (m7 b) 0=some (if ∀x∈b,0<=x/\x<=255 then Out.brk () else Out.ret false):=by
  refine jS (f:=m7 b) b (fun k=>(k:Int)) (fun x=>0<=x/\x<=255) _ _ (fun k h hp=>?_) (fun k h hp=>?_) ?_
  ·simp only [m7]
   rw [if_pos (by simp;omega),aP h,lG (IS h hl)]
   simp [cE,hp]
  ·simp only [m7]
   rw [if_pos (by simp;omega),aP h]
   simp only [aG,cE,hp,decide_false,HB,if_true]
  ·simp [m7]
 rw [key]
 by_cases h:∀x∈b,0<=x/\x<=255
 ·rw [if_pos h]
  have:BOk b↔b.length<=1000:=⟨fun q=>q.1,fun q=>⟨q,h⟩⟩
  simp only [aG,GD,P1,this]
  grind
 ·rw [if_neg h]
  have:¬BOk b:=fun q=>h q.2
  grind [GD]
theorem aJT{α:Type}{p:α->Prop}[DecidablePred p](l:List α):(l.any fun x=>!decide (p x))=!decide (∀x∈l,p x):=by
 grind
theorem aA8{b:List Int}(hl:b.length<=maxLen):HO b=some (decide (BOk b)):=by
 unfold HO yR
 have e:(fun y0=>BY y0)=fun y:Int=>some (!decide (0<=y/\y<=255)):=by
  grind [BY,RH,eH]
 rw [e,O4 hl,aJT]
 by_cases h:b.length<=1000
 ·have:BOk b↔∀x∈b,0<=x/\x<=255:=⟨fun q=>q.2,fun q=>⟨h,q⟩⟩
  grind
 grind [BOk]
def eM(h:Heap):Prop:=h.Bytes.length=384/\h.Class.length=6/\pX h.Bytes/\∀c∈h.Class,-1<=c/\c<=2
instance (h:Heap):Decidable (eM h):=by unfold eM;infer_instance
theorem aA9{h:Heap}(hl:h.Bytes.length<=maxLen):H3 h=some (decide (eM h)):=by
 unfold H3 rL
 by_cases h1:h.Bytes.length=384
 ·by_cases h2:h.Class.length=6
  ·rw [aA7 hl]
   have n1:((h.Bytes.length:Int) != 384)=false:=by simp;omega
   have n2:((h.Class.length:Int) != 6)=false:=by simp;omega
   simp only [n1,n2,bC,if_false,aG]
   by_cases h3:pX h.Bytes
   ·have b1:BOk h.Bytes:=⟨by omega,h3⟩
    have key:loop (m8 h) 0=some (if ∀x∈h.Class,-1<=x/\x<=2 then Out.brk () else Out.ret false):=by
     refine jS (f:=m8 h) h.Class (fun k=>(k:Int)) (fun x=>-1<=x/\x<=2) _ _ (fun k h hp=>?_) (fun k h hp=>?_) ?_
     ·simp only [m8]
      rw [if_pos (by simp;omega),aP h,aL (by omega) (by omega)]
      grind [cE]
     ·simp only [m8]
      rw [if_pos (by simp;omega),aP h]
      grind [cE]
     grind [m8]
    rw [key]
    have:eM h↔∀x∈h.Class,-1<=x/\x<=2:=⟨fun q=>q.2.2.2,fun q=>⟨h1,h2,h3,q⟩⟩
    simp only [b1,decide_true,gY,bC,if_false,this]
    by_cases h4:∀x∈h.Class,-1<=x/\x<=2
    ·rw [if_pos h4,b9 h4];rfl
    ·rw [if_neg h4,dP h4];rfl
   grind [BOk,eM]
  grind [eM]
 grind [eM]
theorem JR{h:Heap}(hl:h.Bytes.length<=maxLen):E6 h=some (decide (eM h)):=by
 unfold E6 pA
 by_cases h1:h.Bytes.length=384
 ·have n1:((h.Bytes.length:Int) == 384)=true:=by simp;omega
  rw [aA8 hl]
  by_cases h3:pX h.Bytes
  ·have b1:BOk h.Bytes:=⟨by omega,h3⟩
   by_cases h2:h.Class.length=6
   ·have n2:((h.Class.length:Int) == 6)=true:=by simp;omega
    have e:(fun y0=>EH y0)=fun y:Int=>some (!decide (-1<=y/\y<=2)):=by
     grind [EH,eH]
    rw [e,O4 (by omega),aJT]
    grind [eM]
   grind [eM]
  grind [BOk,eM]
 grind [eM]
end Go.Gv
end
noncomputable section
namespace Go.Gv
def fC(h:Heap)(p:Nat):List Int:=(h.Bytes.drop (p * 64)).take 64
def b8(h:Heap)(p:Nat):Int:=h.Class.getD p 0
def mY(h:Heap)(p:Nat):Prop:=
 if b8 h p < 0 then ∀x∈fC h p,x=0
 else ((fC h p).getD 0 0=171/\(fC h p).getD 1 0=b8 h p/\(fC h p).getD 2 0=cX (b8 h p))/\(∀x∈((fC h p).drop 3).take 5,x=0)/\∀i,i < (cX (b8 h p)).toNat->1<=ld h.Bytes (p * 64+8+i * (aY (b8 h p)).toNat) 4/\ld h.Bytes (p * 64+8+i * (aY (b8 h p)).toNat) 4<=7
instance (h:Heap) (p:Nat):Decidable (mY h p):=by unfold mY;infer_instance
noncomputable section
variable {h:Heap} (hs:eM h) {p:Nat} (hp:p < 6)
include hs hp
theorem NX:(fC h p).length=64:=aOF (by have:=hs.1;omega)
theorem SA{k:Nat}(hk:k < 64):h.Bytes[p * 64+k]'(by have:=hs.1;omega)=(fC h p)[k]'(by grind [NX]):=(aEN (show k < ((h.Bytes.drop (p * 64)).take 64).length by have:=NX hs hp;grind [fC]) _).symm
theorem aHZ{k:Nat}(hk:k < 64):h.Bytes[p * 64+k]'(by have:=hs.1;omega)=(fC h p).getD k 0:=by
 grind [SA]
theorem S4:h.Class[p]'(by have:=hs.2.1;omega)=b8 h p:=by
 grind [b8]
theorem aB3:idx h.Class (p:Int)=some (b8 h p):=by rw [aP (by have:=hs.2.1;omega),S4 hs hp]
theorem aEO{k:Nat}(hk:k < 64):idx h.Bytes (((p * 64+k:Nat)):Int)=some ((fC h p).getD k 0):=by
 rw [aP (by have:=hs.1;omega),aHZ hs hp hk]
theorem aR2:pX (fC h p):=aJS hs.2.2.1 _ _
theorem sM{c:Int}(hc:b8 h p=c){i:Nat}(hi:i < (cX c).toNat):(8+i * (aY c).toNat)+4<=64/\0<=(i:Int) * aY c/\((8+i * (aY c).toNat:Nat):Int)=8+(i:Int) * aY c:=by
 grind [cX,aY]
theorem aWA{i:Nat}(hi:i < (cX (b8 h p)).toNat):iP ((p:Int) * 4+i) (b8 h p)=((p * 64+(8+i * (aY (b8 h p)).toNat):Nat):Int):=by
 have hz:=sM hs hp rfl hi
 have hle:=mO (b8 h p)
 unfold iP
 grind
theorem SB:K4 h (p:Int)=some (decide (mY h p)):=by
 have hb:=hs.1
 have hl:=NX hs hp
 have e0:aX ((p:Int) * 64)=((p * 64+0:Nat):Int):=by grind [aL]
 have e1:aX (((p * 64+0:Nat):Int)+1)=((p * 64+1:Nat):Int):=by grind [aL]
 have e2:aX (((p * 64+0:Nat):Int)+2)=((p * 64+2:Nat):Int):=by grind [aL]
 have e3:aX (((p * 64+0:Nat):Int)+3)=((p * 64+3:Nat):Int):=by grind [aL]
 have e8:aX (((p * 64+0:Nat):Int)+8)=((p * 64+8:Nat):Int):=by grind [aL]
 have e64:aX (((p * 64+0:Nat):Int)+64)=((p * 64+64:Nat):Int):=by grind [aL]
 unfold K4
 rw [aB3 hs hp]
 simp only [aG]
 by_cases hc:b8 h p < 0
 ·simp only [hc,decide_true,if_true,e0]
  have key:loop (pK h (p:Int)) (((p * 64+0:Nat)):Int)=some (if ∀x∈fC h p,x=0 then Out.brk () else Out.ret false):=by
   refine jS (f:=pK h (p:Int)) (fC h p) (fun k=>((p * 64+k:Nat):Int)) (fun x=>x=0) _ _ (fun k hk hx=>?_) (fun k hk hx=>?_) ?_
   ·simp only [pK,e0,e64]
    rw [if_pos (by simp;omega),aP (by omega),SA hs hp (by omega),aL (by omega) (by omega)]
    grind
   ·simp only [pK,e0,e64]
    rw [if_pos (by simp;omega),aP (by omega),SA hs hp (by omega)]
    grind
   simp_all [pK]
  rw [key]
  have hP:mY h p↔∀x∈fC h p,x=0:=by simp_all [mY]
  by_cases h4:∀x∈fC h p,x=0
  ·rw [if_pos h4,b9 (hP.2 h4)];rfl
  ·rw [if_neg h4,dP (fun q=>h4 (hP.1 q))];rfl
 ·have hP:mY h p↔((fC h p).getD 0 0=171/\(fC h p).getD 1 0=b8 h p/\(fC h p).getD 2 0=cX (b8 h p))/\(∀x∈((fC h p).drop 3).take 5,x=0)/\∀i,i < (cX (b8 h p)).toNat->1<=ld h.Bytes (p * 64+8+i * (aY (b8 h p)).toNat) 4/\ld h.Bytes (p * 64+8+i * (aY (b8 h p)).toNat) 4<=7:=by simp_all [mY,if_neg]
  simp only [hc,decide_false,bC,if_false,e0,e1,e2,aEO hs hp (show 0 < 64 by omega),aEO hs hp (show 1 < 64 by omega),aEO hs hp (show 2 < 64 by omega),aG,hO]
  by_cases a0:(fC h p).getD 0 0=171
  ·by_cases a1:(fC h p).getD 1 0=b8 h p
   ·by_cases a2:(fC h p).getD 2 0=cX (b8 h p)
    ·have n0:((fC h p).getD 0 0 != 171)=false:=by grind
     have n1:((fC h p).getD 1 0 != b8 h p)=false:=by grind
     have n2:((fC h p).getD 2 0 != cX (b8 h p))=false:=by grind
     simp only [n0,n1,n2,bC,if_false,j9,e0,e3]
     have hl5:(((fC h p).drop 3).take 5).length=5:=by simp [hl]
     have key:loop (pM h (p:Int)) (((p * 64+3:Nat)):Int)=some (if ∀x∈((fC h p).drop 3).take 5,x=0 then Out.brk () else Out.ret false):=by
      refine jS (f:=pM h (p:Int)) (((fC h p).drop 3).take 5) (fun k=>((p * 64+(3+k):Nat):Int)) (fun x=>x=0) _ _ (fun k hk hx=>?_) (fun k hk hx=>?_) ?_
      ·simp only [pM,e0,e8]
       rw [if_pos (by simp;omega),aP (by omega),SA hs hp (by omega),aL (by omega) (by omega),<-aEN hk (by omega),hx]
       simp;omega
      ·simp only [pM,e0,e8]
       rw [if_pos (by simp;omega),aP (by omega),SA hs hp (by omega),<-aEN hk (by omega)]
       grind
      simp_all [pM]
     rw [key]
     by_cases h4:∀x∈((fC h p).drop 3).take 5,x=0
     ·rw [if_pos h4]
      simp only [aG,RM,RL]
      have key2:loop (pL h (p:Int) (b8 h p)) 0=some (if ∀i,i < (cX (b8 h p)).toNat->1<=ld h.Bytes (p * 64+8+i * (aY (b8 h p)).toNat) 4/\ld h.Bytes (p * 64+8+i * (aY (b8 h p)).toNat) 4<=7 then Out.brk () else Out.ret false):=by
       have hle:=mO (b8 h p)
       have hst:∀k:Nat,k < (cX (b8 h p)).toNat->pL h (p:Int) (b8 h p) (k:Int)=if 1<=ld h.Bytes (p * 64+8+k * (aY (b8 h p)).toNat) 4/\ld h.Bytes (p * 64+8+k * (aY (b8 h p)).toNat) 4<=7 then some (.next ((k+1:Nat):Int)) else some (.stop (Out.ret false)):=by
        intro k hk
        have hz:=sM hs hp rfl hk
        have s1:qD (p:Int) (k:Int)=some ((p:Int) * 4+k):=by
         unfold qD uI
         rw [cE,cE]
         have g1:(0:Int)<=p/\(p:Int)<=5:=by omega
         have g2:(0:Int)<=k/\(k:Int)<=3:=by omega
         simp only [aG,g1,g2,and_self,decide_true,gY,bC,if_false]
         grind [aL]
        have l1:=R9 hs.2.2.1 (a:=p * 64+(8+k * (aY (b8 h p)).toNat)) (w:=4) (by omega) (by omega) (by omega)
        simp only [pL,hO,aG]
        rw [if_pos (by simp;omega),s1]
        simp only [aG,sL,aWA hs hp hk]
        rw [show((4:Nat):Int)=4 from rfl] at l1
        rw [l1,E0,aL (x:=(k:Int)+1) (by omega) (by omega)]
        simp only [aG,cE]
        grind
       refine uX (f:=pL h (p:Int) (b8 h p)) (cX (b8 h p)).toNat (fun k=>(k:Int)) (fun i=>1<=ld h.Bytes (p * 64+8+i * (aY (b8 h p)).toNat) 4/\ld h.Bytes (p * 64+8+i * (aY (b8 h p)).toNat) 4<=7) _ _ (fun k hk hx=>?_) (fun k hk hx=>?_) ?_
       ·grind
       ·rw [hst k hk,if_neg hx]
       ·simp only [pL,hO,aG]
        rw [if_neg (by simp;omega)]
      rw [key2]
      by_cases h5:∀i,i < (cX (b8 h p)).toNat->1<=ld h.Bytes (p * 64+8+i * (aY (b8 h p)).toNat) 4/\ld h.Bytes (p * 64+8+i * (aY (b8 h p)).toNat) 4<=7
      ·rw [if_pos h5,b9 (hP.2 ⟨⟨a0,a1,a2⟩,h4,h5⟩)];rfl
      ·rw [if_neg h5,dP (fun q=>h5 (hP.1 q).2.2)];rfl
     ·rw [if_neg h4,dP (fun q=>h4 (hP.1 q).2.1)];rfl
    simp_all [j9]
   simp_all [j9]
  simp_all [j9]
end
end Go.Gv
end
noncomputable section
namespace Go.Gv
theorem SC{l:List Int}(hl:l.length<=maxLen):E7 l=some (decide (∀x∈l,x=0)):=by
 unfold E7
 have e:(fun y0=>EI y0)=fun y:Int=>some (!decide (y=0)):=by
  grind [EI]
 simp_all [O4,aJT]
noncomputable section
variable {h:Heap} (hs:eM h) {p:Nat} (hp:p < 6)
include hs hp
theorem a0O:(h.Bytes.take ((p+1) * 64)).drop (p * 64)=fC h p:=by
 grind [fC,List.drop_take]
theorem aZG{a:Nat}(ha:a+4<=64):ld (fC h p) a 4=ld h.Bytes (p * 64+a) 4:=by
 grind [ld,fC,List.drop_take,aHB]
theorem aOG{k:Nat}(hk:k < 64):idx (fC h p) (k:Int)=some ((fC h p).getD k 0):=by
 grind [NX,aP]
theorem SD:KY h (p:Int)=some (decide (mY h p)):=by
 have hb:=hs.1
 have hl:=NX hs hp
 have hm:(fC h p).length<=maxLen:=by grind [maxLen]
 have e0:aX ((p:Int) * 64)=((p * 64:Nat):Int):=by grind [aL]
 have e1:aX (aX ((p:Int)+1) * 64)=(((p+1) * 64:Nat):Int):=by grind [aL]
 have i0:=aOG hs hp (show 0 < 64 by omega)
 have i1:=aOG hs hp (show 1 < 64 by omega)
 have i2:=aOG hs hp (show 2 < 64 by omega)
 rw [show((0:Nat):Int)=0 from rfl] at i0
 rw [show((1:Nat):Int)=1 from rfl] at i1
 rw [show((2:Nat):Int)=2 from rfl] at i2
 unfold KY
 rw [aB3 hs hp]
 simp only [aG,e0,e1,JZ,a0O hs hp]
 rw [aK (by omega)]
 by_cases hc:b8 h p < 0
 ·simp_all [mY,SC]
 ·have hP:mY h p↔((fC h p).getD 0 0=171/\(fC h p).getD 1 0=b8 h p/\(fC h p).getD 2 0=cX (b8 h p))/\(∀x∈((fC h p).drop 3).take 5,x=0)/\∀i,i < (cX (b8 h p)).toNat->1<=ld h.Bytes (p * 64+8+i * (aY (b8 h p)).toNat) 4/\ld h.Bytes (p * 64+8+i * (aY (b8 h p)).toNat) 4<=7:=by simp_all [mY,if_neg]
  simp only [hc,decide_false,bC,if_false,i0,i1,i2,aG,zN]
  by_cases a0:(fC h p).getD 0 0=171
  ·by_cases a1:(fC h p).getD 1 0=b8 h p
   ·by_cases a2:(fC h p).getD 2 0=cX (b8 h p)
    ·have n0:((fC h p).getD 0 0 != 171)=false:=by grind
     have n1:((fC h p).getD 1 0 != b8 h p)=false:=by grind
     have n2:((fC h p).getD 2 0 != cX (b8 h p))=false:=by grind
     have t8:((fC h p).take (8:Int).toNat).drop (3:Int).toNat=((fC h p).drop 3).take 5:=by
      grind [List.drop_take]
     simp only [n0,n1,n2,bC,if_false,iZ,t8]
     rw [aK (by omega),SC (by grind)]
     by_cases h4:∀x∈((fC h p).drop 3).take 5,x=0
     ·simp only [b9 h4,aG,gY,bC,if_false,zN]
      have key2:loop (pB h (p:Int) (b8 h p) (cX (b8 h p))) 0=some (if ∀i,i < (cX (b8 h p)).toNat->1<=ld h.Bytes (p * 64+8+i * (aY (b8 h p)).toNat) 4/\ld h.Bytes (p * 64+8+i * (aY (b8 h p)).toNat) 4<=7 then Out.brk () else Out.ret false):=by
       have hle:=mO (b8 h p)
       have hst:∀k:Nat,k < (cX (b8 h p)).toNat->pB h (p:Int) (b8 h p) (cX (b8 h p)) (k:Int)=if 1<=ld h.Bytes (p * 64+8+k * (aY (b8 h p)).toNat) 4/\ld h.Bytes (p * 64+8+k * (aY (b8 h p)).toNat) 4<=7 then some (.next ((k+1:Nat):Int)) else some (.stop (Out.ret false)):=by
        intro k hk
        have hz:=sM hs hp rfl hk
        have e5:aX (8+aX ((k:Int) * aY (b8 h p)))=((8+k * (aY (b8 h p)).toNat:Nat):Int):=by
         grind [aL]
        have l1:=rY (aR2 hs hp) (a:=8+k * (aY (b8 h p)).toNat) (w:=4) (by omega) (by omega) (by omega)
        rw [show((4:Nat):Int)=4 from rfl,aZG hs hp (by omega)] at l1
        simp only [pB,NW,aG,e0,e1,JZ,a0O hs hp,e5]
        rw [if_pos (by simp;omega),l1,E0,aL (x:=(k:Int)+1) (by omega) (by omega)]
        simp only [aG,eH]
        grind
       refine uX (f:=pB h (p:Int) (b8 h p) (cX (b8 h p))) (cX (b8 h p)).toNat (fun k=>(k:Int)) (fun i=>1<=ld h.Bytes (p * 64+8+i * (aY (b8 h p)).toNat) 4/\ld h.Bytes (p * 64+8+i * (aY (b8 h p)).toNat) 4<=7) _ _ (fun k hk hx=>?_) (fun k hk hx=>?_) ?_
       ·grind
       ·simp_all
       ·simp only [pB]
        rw [if_neg (by simp;omega)]
      rw [key2]
      by_cases h5:∀i,i < (cX (b8 h p)).toNat->1<=ld h.Bytes (p * 64+8+i * (aY (b8 h p)).toNat) 4/\ld h.Bytes (p * 64+8+i * (aY (b8 h p)).toNat) 4<=7
      ·rw [if_pos h5,b9 (hP.2 ⟨⟨a0,a1,a2⟩,h4,h5⟩)];rfl
      ·rw [if_neg h5,dP (fun q=>h5 (hP.1 q).2.2)];rfl
     grind
    ·have n0:((fC h p).getD 0 0 != 171)=false:=by grind
     have n1:((fC h p).getD 1 0 != b8 h p)=false:=by grind
     have n2:((fC h p).getD 2 0 != cX (b8 h p))=true:=by grind
     simp_all [iZ]
   simp_all [iZ]
  simp_all [iZ]
end
instance (h:Heap):Decidable (∀p,p < 6->mY h p):=Nat.decidableBallLT 6 fun p _=>mY h p
def UL(h:Heap):Prop:=eM h/\∀p,p < 6->mY h p
instance (h:Heap):Decidable (UL h):=by unfold UL;infer_instance
theorem aEP{h:Heap}(hl:h.Bytes.length<=maxLen):K5 h=some (decide (UL h)):=by
 unfold K5
 rw [aA9 hl]
 by_cases hs:eM h
 ·have key:loop (uJ h) 0=some (if ∀p,p < 6->mY h p then Out.brk () else Out.ret false):=by
   refine uX (f:=uJ h) 6 (fun k=>(k:Int)) (fun p=>mY h p) _ _ (fun k hk hx=>?_) (fun k hk hx=>?_) ?_
   ·simp only [uJ]
    rw [if_pos (by simp;omega),SB hs hk,aL (by omega) (by omega),b9 hx];rfl
   ·simp only [uJ]
    rw [if_pos (by simp;omega),SB hs hk,dP hx];rfl
   ·rfl
  simp only [aG,b9 hs,gY,bC,if_false]
  rw [key]
  by_cases h4:∀p,p < 6->mY h p
  ·rw [if_pos h4,b9 (show UL h from ⟨hs,h4⟩)];rfl
  ·rw [if_neg h4,dP (fun q:UL h=>h4 q.2)];rfl
 grind [UL]
theorem JS{h:Heap}(hl:h.Bytes.length<=maxLen):E8 h=some (decide (UL h)):=by
 unfold E8
 rw [JR hl]
 by_cases hs:eM h
 ·have key:loop (tX h) 0=some (if ∀p,p < 6->mY h p then Out.brk () else Out.ret false):=by
   refine uX (f:=tX h) 6 (fun k=>(k:Int)) (fun p=>mY h p) _ _ (fun k hk hx=>?_) (fun k hk hx=>?_) ?_
   ·simp only [tX]
    rw [if_pos (by simp;omega),SD hs hk,aL (by omega) (by omega),b9 hx];rfl
   ·simp only [tX]
    rw [if_pos (by simp;omega),SD hs hk,dP hx];rfl
   ·rfl
  simp only [aG,b9 hs,gY,bC,if_false]
  rw [key]
  by_cases h4:∀p,p < 6->mY h p
  ·rw [if_pos h4,b9 (show UL h from ⟨hs,h4⟩)];rfl
  ·rw [if_neg h4,dP (fun q:UL h=>h4 q.2)];rfl
 grind [UL]
def bR(h:Heap)(s:Int):Int:=if (0<=s/\s<=23)/\s % 4 < cX (b8 h (s / 4).toNat) then b8 h (s / 4).toNat else -1
theorem LF{h:Heap}{s:Int}(hc:0<=bR h s):(0<=s/\s<=23)/\s % 4 < cX (b8 h (s / 4).toNat)/\bR h s=b8 h (s / 4).toNat:=by
 unfold bR at hc ⊢
 omega
theorem rZ{h:Heap}(hs:eM h)(s:Int):qU h s=some (bR h s):=by
 unfold qU rM bR
 rw [R8,QI]
 by_cases h1:0<=s/\s<=23
 ·obtain⟨k,rfl⟩:=aXP h1.1
  have hk:k / 4 < 6:=by omega
  have e1:((k:Int) / 4)=((k / 4:Nat):Int):=by omega
  have hi:=aB3 hs hk
  have n1:¬((k / 4:Nat):Int) < 0:=by omega
  simp only [h1,and_self,if_true,aG,e1,n1,decide_false,bC,if_false,hi,JZ,true_and]
  grind [aJR,hO]
 ·simp [h1]
theorem jF{h:Heap}(hs:eM h)(s:Int):jV h s=some (bR h s):=by
 unfold jV yS bR
 rw [uZ]
 by_cases h1:0<=s/\s<=23
 ·obtain⟨k,rfl⟩:=aXP h1.1
  have hk:k / 4 < 6:=by omega
  have e1:((k:Int) / 4)=((k / 4:Nat):Int):=by omega
  have hi:=aB3 hs hk
  have e2:aX (Int.tdiv (k:Int) 4)=((k / 4:Nat):Int):=by grind [aL]
  simp only [h1,and_self,decide_true,gY,bC,if_true,aG,e1,e2,if_false,hi,JZ,true_and,yH]
  by_cases h3:(k:Int) % 4 < cX (b8 h (k / 4))
  ·have hm:=O3 (c:=b8 h (k / 4)) (by omega) h3
   have hg:¬iP (k:Int) (b8 h (k / 4)) < 0:=by
    unfold iP;omega
   grind
  simp_all [iP,if_neg]
 ·simp [h1]
def lY(h:Heap)(s:Int):Int:=ld h.Bytes (iP s (bR h s)).toNat 4
theorem S5{h:Heap}{s:Int}(hc:0<=bR h s):0<=iP s (bR h s)/\iP s (bR h s)+4<=384:=by
 obtain⟨h1,h2,h3⟩:=LF hc
 rw [h3]
 have hm:=O3 (c:=b8 h (s / 4).toNat) (by omega) h2
 have hst:0 < aY (b8 h (s / 4).toNat):=by
  have:0<=b8 h (s / 4).toNat/\b8 h (s / 4).toNat<=2:=uY.1 (by omega)
  rcases wG this with e | e | e <;> rw [e] <;> decide
 have:4<=aY (b8 h (s / 4).toNat):=by
  have:0<=b8 h (s / 4).toNat/\b8 h (s / 4).toNat<=2:=uY.1 (by omega)
  rcases wG this with e | e | e <;> rw [e] <;> decide
 unfold iP;omega
theorem oF{h:Heap}(hs:eM h){s:Int}(hc:0<=bR h s):uK h s=some (lY h s):=by
 have hg:=S5 hc
 unfold uK
 rw [rZ hs]
 simp only [aG,sL]
 have l1:=R9 hs.2.2.1 (a:=(iP s (bR h s)).toNat) (w:=4) (by omega) (by have:=hs.1;omega) (by have:=hs.1;omega)
 rw [show((4:Nat):Int)=4 from rfl,Int.toNat_of_nonneg hg.1] at l1
 rw [l1];rfl
theorem EV{h:Heap}(hs:eM h){s:Int}(hc:0<=bR h s):zW h s=some (lY h s):=by
 have hg:=S5 hc
 have hm:h.Bytes.length<=maxLen:=by rw [hs.1];simp [maxLen]
 unfold zW B3
 rw [JR hm,jF hs]
 have l1:=rY hs.2.2.1 (a:=(iP s (bR h s)).toNat) (w:=4) (by omega) (by have:=hs.1;omega) (by have:=hs.1;omega)
 grind [yH,lY]
end Go.Gv
end
noncomputable section
namespace Go.Gv
def eN(l:List aO):List Int:=l.flatMap aO.aQ
def fE(l:aA):List Int:=eN l.Global++eN l.Own
def LOk(l:aA):Prop:=l.Global.length=3/\l.Own.length=9/\(∀s∈l.Own,s.aQ.length<=2)/\(∀x∈fE l,0<=x/\x<=23)/\(fE l).Nodup
instance (l:aA):Decidable (LOk l):=by unfold LOk;infer_instance
theorem NY{l:List aO}{k:Nat}(h:k < l.length):eN (l.take (k+1))=eN (l.take k)++l[k].aQ:=by
 grind [eN,TZ]
theorem aJU(l:List aO)(k:Nat):(eN (l.take k)).length<=(eN l).length:=by
 grind [eN,TY]
theorem aEQ(l:List aO){k:Nat}(h:k < l.length):l[k].aQ.length<=(eN l).length:=by
 have h1:=aJU l (k+1)
 grind [NY]
theorem UM{l:aA}(h:(fE l).length<=1073741824)(hg:l.Global.length<=maxLen)(ho:l.Own.length<=maxLen):I5 l=some (fE l):=by
 have hsum:(eN l.Global).length+(eN l.Own).length<=1073741824:=by grind [fE]
 unfold I5
 have k1:loop (xU l) ([],0)=some (eN l.Global):=by
  refine gR (f:=xU l) l.Global.length (fun k=>(eN (l.Global.take k),(k:Int))) _ (fun k hk=>?_) ?_
  ·have h1:=aJU l.Global (k+1)
   rw [NY hk] at h1
   simp only [xU]
   rw [if_pos (by simp;omega),aP hk]
   grind [aK,NY,lG]
  grind [xU]
 rw [k1]
 simp only [aG,T6,T5]
 have k2:loop (xT l) (eN l.Global,0)=some (fE l):=by
  have:=gR (f:=xT l) l.Own.length (fun k=>(eN l.Global++eN (l.Own.take k),(k:Int))) (fE l) (fun k hk=>?_) ?_
  ·grind [eN]
  ·have h1:=aJU l.Own (k+1)
   rw [NY hk] at h1
   simp only [xT]
   rw [if_pos (by simp;omega),aP hk]
   grind [aK,NY,lG]
  grind [xT,fE]
 rw [k2];rfl
theorem EW{l:List Int}(hl:l.length<=maxLen)(x:Int):AF l x=some (decide (x∈l)):=by
 unfold AF
 have key:loop (sK l x) 0=some (if ∀y∈l,y≠x then Out.brk () else Out.ret true):=by
  refine jS (f:=sK l x) l (fun k=>(k:Int)) (fun y=>y≠x) _ _ (fun k h hp=>?_) (fun k h hp=>?_) ?_
  ·simp only [sK]
   rw [if_pos (by simp;omega),aP h,lG (IS h hl)]
   have:(l[k] == x)=false:=by simpa using hp
   simp only [aG,this,bC,if_false]
  ·simp only [sK]
   rw [if_pos (by simp;omega),aP h]
   have:(l[k] == x)=true:=by simpa using hp
   simp only [aG,this,if_true]
  ·simp [sK]
 rw [key]
 by_cases h:x∈l
 ·rw [if_neg (fun q=>q x h rfl),b9 h];rfl
 ·rw [if_pos (fun y hy (e:y=x)=>h (e ▸ hy)),dP h];rfl
theorem JT(l:List Int):l.Nodup↔∀k (h:k < l.length),l[k]∉l.take k:=by
 grind [List.pairwise_iff_getElem,List.mem_take_iff_getElem]
theorem aBA{l:aA}(h:(fE l).length<=1073741824):H4 l=some (decide (LOk l)):=by
 unfold H4 zD
 by_cases hg:l.Global.length=3
 ·by_cases ho:l.Own.length=9
  ·have n1:((l.Global.length:Int) != 3)=false:=by simp;omega
   have n2:((l.Own.length:Int) != 9)=false:=by simp;omega
   simp only [n1,n2,bC,if_false]
   have k1:loop (nA l) 0=some (if ∀s∈l.Own,s.aQ.length<=2 then Out.brk () else Out.ret false):=by
    refine jS (f:=nA l) l.Own (fun k=>(k:Int)) (fun s=>s.aQ.length<=2) _ _ (fun k hk hp=>?_) (fun k hk hp=>?_) ?_
    ·simp only [nA]
     rw [if_pos (by simp;omega),aP hk,aL (by omega) (by omega)]
     simp only [aG]
     rw [if_neg (by simp;omega)];rfl
    ·simp only [nA]
     rw [if_pos (by simp;omega),aP hk]
     simp only [aG]
     rw [if_pos (by simp;omega)]
    ·simp [nA]
   rw [k1]
   by_cases h2:∀s∈l.Own,s.aQ.length<=2
   ·rw [if_pos h2]
    simp only [aG,P3,P2]
    rw [UM h (by rw [hg];simp [maxLen]) (by rw [ho];simp [maxLen])]
    simp only [aG]
    have k2:loop (m9 (fE l)) 0=some (if ∀k,k < (fE l).length->(0<=(fE l).getD k 0/\(fE l).getD k 0<=23)/\(fE l).getD k 0∉(fE l).take k then Out.brk () else Out.ret false):=by
     have hst:∀k,k < (fE l).length->m9 (fE l) (k:Int)=if (0<=(fE l).getD k 0/\(fE l).getD k 0<=23)/\(fE l).getD k 0∉(fE l).take k then some (.next ((k+1:Nat):Int)) else some (.stop (Out.ret false)):=by
      intro k hk
      have e:(fE l).getD k 0=(fE l)[k]:=by rw [VQ,fT hk];rfl
      rw [e]
      simp only [m9]
      rw [if_pos (by simp;omega),aP hk]
      simp only [aG,cE,zC]
      by_cases q:0<=(fE l)[k]/\(fE l)[k]<=23
      ·rw [b9 q]
       simp only [gY,bC,if_false,JZ,MP]
       rw [aK (by omega),EW (by simp [maxLen];omega),aL (by omega) (by omega)]
       by_cases q2:(fE l)[k]∈(fE l).take k
       ·rw [if_neg (fun x=>x.2 q2),b9 q2];rfl
       ·rw [if_pos ⟨q,q2⟩,dP q2];rfl
      ·rw [dP q];simp only [HB,if_true];rw [if_neg (fun x=>q x.1)]
     refine uX (f:=m9 (fE l)) (fE l).length (fun k=>(k:Int)) (fun k=>(0<=(fE l).getD k 0/\(fE l).getD k 0<=23)/\(fE l).getD k 0∉(fE l).take k) _ _ (fun k hk hx=>?_) (fun k hk hx=>?_) ?_
     ·rw [hst k hk,if_pos hx]
     ·rw [hst k hk,if_neg hx]
     ·simp [m9]
    rw [k2]
    have hiff:LOk l↔∀k,k < (fE l).length->(0<=(fE l).getD k 0/\(fE l).getD k 0<=23)/\(fE l).getD k 0∉(fE l).take k:=by
     have e:∀k (hk:k < (fE l).length),(fE l).getD k 0=(fE l)[k]:=fun k hk=>by grind
     constructor
     ·rintro⟨_,_,_,q1,q2⟩ k hk
      rw [e k hk]
      exact⟨q1 _ (dC hk),(JT _).1 q2 k hk⟩
     ·intro q
      refine⟨hg,ho,h2,fun x hx=>?_,(JT _).2 fun k hk=>?_⟩
      ·obtain⟨k,hk,rfl⟩:=TX.1 hx
       have:=(q k hk).1;rw [e k hk] at this;exact this
      ·have:=(q k hk).2;rw [e k hk] at this;exact this
    by_cases q:LOk l
    ·rw [if_pos (hiff.1 q),b9 q];rfl
    ·rw [if_neg (fun x=>q (hiff.2 x)),dP q];rfl
   ·rw [if_neg h2,dP (fun q:LOk l=>h2 q.2.2.1)];rfl
  ·have n1:((l.Global.length:Int) != 3)=false:=by simp;omega
   have n2:((l.Own.length:Int) != 9)=true:=by simp;omega
   simp_all [LOk]
 ·have n1:((l.Global.length:Int) != 3)=true:=by simp;omega
  simp_all [LOk]
def yI:List Bool->List Int->Option (List Bool)
 | met,[]=>some met
 | met,x :: r=>if (0<=x/\x<=23)/\met.getD x.toNat true=false then yI (met.set x.toNat true) r else none
theorem aH0:∀{xs:List Int} {met m:List Bool},yI met xs=some m->m.length=met.length
 | [],met,m,h=>by grind [yI]
 | x :: r, met, m, h => by
  simp only [yI] at h
  split at h
  ·have:=aH0 h;grind
  ·cases h
theorem XF:∀(a b:List Int) (met:List Bool),yI met (a++b)=(yI met a).bind fun m=>yI m b
 | [],b,met=>rfl
 | x :: r, b, met => by
  simp only [TW,yI]
  split
  ·exact XF r b _
  ·rfl
theorem VG:∀(xs:List Int) (met:List Bool),met.length=24->((yI met xs).isSome=true↔(∀x∈xs,0<=x/\x<=23)/\xs.Nodup/\∀x∈xs,met.getD x.toNat true=false)
 | [],met,hm=>by simp [yI]
 | x :: r, met, hm => by
  simp only [yI]
  by_cases h:(0<=x/\x<=23)/\met.getD x.toNat true=false
  ·rw [if_pos h,VG r _ (by grind)]
   grind
  grind
def aJV:Option (List Bool)->Out (List Bool) Bool
 | some m=>.brk m
 | none=>.ret false
theorem a4F{s:aO}(hl:s.aQ.length<=maxLen):∀d k (met:List Bool),k+d=s.aQ.length->met.length=24->loop (kJ s) ((k:Int),met)=some (aJV (yI met (s.aQ.drop k))):=by
 intro d
 induction d with
 | zero =>
  intro k met hk hm
  rw [bG (r:=Out.brk met) (by grind [kJ]),List.drop_eq_nil_of_le (by omega)];rfl
 | succ d ih =>
  intro k met hk hm
  have hk':k < s.aQ.length:=by omega
  have hd:s.aQ.drop k=s.aQ[k] :: s.aQ.drop (k+1):=IJ hk'
  have hst:kJ s ((k:Int),met)=if (0<=s.aQ[k]/\s.aQ[k]<=23)/\met.getD s.aQ[k].toNat true=false then some (.next (((k+1:Nat):Int),met.set s.aQ[k].toNat true)) else some (.stop (Out.ret false)):=by
   simp only [kJ]
   rw [if_pos (by simp;omega),aP hk']
   simp only [aG,uZ]
   generalize s.aQ[k]=x
   by_cases q:0<=x/\x<=23
   ·obtain⟨j,rfl⟩:=aXP q.1
    have hj:j < met.length:=by omega
    have e:met.getD j true=met[j]:=by grind
    simp only [q,and_self,decide_true,gY,bC,if_false,m5,JZ,true_and,e]
    rw [aK (by omega),aP hj]
    simp only [aG]
    cases met[j]
    ·simp only [bC,if_false,if_true]
     grind [aK,lG]
    ·simp
   ·rw [dP q];simp only [HB,if_true,m5];grind
  rw [hd,yI]
  by_cases q:(0<=s.aQ[k]/\s.aQ[k]<=23)/\met.getD s.aQ[k].toNat true=false
  ·rw [if_pos q] at hst ⊢
   grind [bQ]
  ·rw [if_neg q] at hst ⊢
   rw [bG hst];rfl
def ZK(l:List aO):Prop:=∀s∈l,s.aQ.length<=2
instance (l:List aO):Decidable (ZK l):=by unfold ZK;infer_instance
theorem a4G{l:aA}(ho:l.Own.length=9)(hn:(l.Own++l.Global).length<=1000)(hs:∀s∈l.Own++l.Global,s.aQ.length<=maxLen):∀d k (met:List Bool),k+d=(l.Own++l.Global).length->met.length=24 ->
  loop (kL l) ((k:Int),met)=some (if ZK (((l.Own++l.Global).drop k).take (9 - k))/\(yI met (eN ((l.Own++l.Global).drop k))).isSome=true then Out.brk () else Out.ret false):=by
 intro d
 induction d with
 | zero =>
  intro k met hk hm
  rw [List.drop_eq_nil_of_le (by omega),if_pos ⟨by simp [ZK],rfl⟩]
  simp_all [bG,kL]
 | succ d ih =>
  intro k met hk hm
  have hk':k < (l.Own++l.Global).length:=by omega
  have hd:(l.Own++l.Global).drop k=(l.Own++l.Global)[k] :: (l.Own++l.Global).drop (k+1):=IJ hk'
  have hsk:=hs _ (dC hk')
  have hf:eN ((l.Own++l.Global).drop k)=(l.Own++l.Global)[k].aQ++eN ((l.Own++l.Global).drop (k+1)):=by grind [eN]
  have hin:∀b:Bool,kK (k:Int) met (l.Own++l.Global)[k] b=if b then some (.stop (Out.ret false)) else (match yI met (l.Own++l.Global)[k].aQ with | some m=>some (.next (((k+1:Nat):Int),m)) | none=>some (.stop (Out.ret false))):=by
   intro b
   have h4:=a4F hsk _ 0 met (AM _) hm
   rw [show((0:Nat):Int)=0 from rfl,MP] at h4
   unfold kK
   rw [h4]
   cases b
   ·simp only [bC,if_false,aG]
    cases yI met (l.Own++l.Global)[k].aQ with
    | none=>rfl
    | some m=>simp only [aJV,PU,yO];rw [aL (by omega) (by omega)];rfl
   ·rfl
  have hst:kL l ((k:Int),met)=kK (k:Int) met (l.Own++l.Global)[k] (decide (k < 9/\2 < (l.Own++l.Global)[k].aQ.length)):=by
   simp only [kL]
   rw [if_pos (by grind),aP hk']
   simp only [aG]
   by_cases h9:k < 9
   ·rw [if_pos (by simp;omega)]
    congr 1
    (simp_all;omega)
   grind
  rw [hin] at hst
  by_cases h2:k < 9/\2 < (l.Own++l.Global)[k].aQ.length
  ·rw [b9 h2] at hst
   simp only [if_true] at hst
   rw [bG hst,if_neg]
   rintro⟨q,_⟩
   have e:9 - k=(9 - (k+1))+1:=by omega
   rw [hd,e,List.take_succ_cons] at q
   have:=q _ List.mem_cons_self
   omega
  ·rw [dP h2] at hst
   simp only [bC,if_false] at hst
   have hcond:ZK (((l.Own++l.Global).drop k).take (9 - k))↔ZK (((l.Own++l.Global).drop (k+1)).take (9 - (k+1))):=by
    unfold ZK
    by_cases h9:k < 9
    ·have e:9 - k=(9 - (k+1))+1:=by omega
     simp_all
    ·have e:9 - k=0:=by omega
     have e':9 - (k+1)=0:=by omega
     simp_all
   rw [hf,XF]
   cases hg:yI met (l.Own++l.Global)[k].aQ with
   | none =>
    simp_all [bG]
   | some m =>
    rw [hg] at hst
    rw [bQ hst,ih (k+1) m (by omega) (by grind [aH0])]
    simp_all
theorem QJ{l:aA}(h:(fE l).length<=1073741824):jU l=some (decide (LOk l)):=by
 unfold jU rG
 by_cases hg:l.Global.length=3
 ·by_cases ho:l.Own.length=9
  ·have n1:((l.Global.length:Int) != 3)=false:=by simp;omega
   have n2:((l.Own.length:Int) != 9)=false:=by simp;omega
   simp only [n1,n2,bC,if_false]
   rw [aK (by omega)]
   have hsl:∀s∈l.Own++l.Global,s.aQ.length<=maxLen:=by
    grind [fE,maxLen,TX,aEQ]
   have key:=a4G ho (by simp;omega) hsl (l.Own++l.Global).length 0 [false,false,false,false,false,false,false,false,false,false,false,false,false,false,false,false,false,false,false,false,false,false,false,false] (by omega) rfl
   rw [show((0:Nat):Int)=0 from rfl,MP,Nat.sub_zero] at key
   rw [key]
   have et:(l.Own++l.Global).take 9=l.Own:=by grind
   have ef:eN (l.Own++l.Global)=eN l.Own++eN l.Global:=by simp [eN]
   have hm0:∀j:Nat,j < 24->[false,false,false,false,false,false,false,false,false,false,false,false,false,false,false,false,false,false,false,false,false,false,false,false].getD j true=false:=by decide
   have hiff:LOk l↔ZK ((l.Own++l.Global).take 9)/\(yI [false,false,false,false,false,false,false,false,false,false,false,false,false,false,false,false,false,false,false,false,false,false,false,false] (eN (l.Own++l.Global))).isSome=true:=by
    rw [VG _ _ rfl,et,ef]
    have hp:(eN l.Own++eN l.Global).Perm (fE l):=List.perm_append_comm
    constructor
    ·rintro⟨_,_,q1,q2,q3⟩
     exact⟨q1,fun x hx=>q2 x (hp.mem_iff.1 hx),hp.nodup_iff.2 q3,fun x hx=>hm0 _ (by grind)⟩
    ·rintro⟨q1,q2,q3,_⟩
     exact⟨hg,ho,q1,fun x hx=>q2 x (hp.mem_iff.2 hx),hp.nodup_iff.1 q3⟩
   by_cases q:LOk l
   ·rw [if_pos (hiff.1 q),b9 q];rfl
   ·rw [if_neg (fun x=>q (hiff.2 x)),dP q];rfl
  ·have n1:((l.Global.length:Int) != 3)=false:=by simp;omega
   have n2:((l.Own.length:Int) != 9)=true:=by simp;omega
   simp_all [LOk]
 ·have n1:((l.Global.length:Int) != 3)=true:=by simp;omega
  simp_all [LOk]
end Go.Gv
end
noncomputable section
namespace Go.Gv
def C6(h:Heap)(l:List Int)(c:Int):Prop:=∀x∈l,bR h x=c/\lY h x<=6
instance (h:Heap) (l:List Int) (c:Int):Decidable (C6 h l c):=by unfold C6;infer_instance
theorem NZ{h:Heap}(hs:eM h){l:List Int}(hl:l.length<=maxLen){c:Int}(hc:0<=c):xV h l c=some (decide (C6 h l c)):=by
 unfold xV
 have key:loop (lW h l c) 0=some (if ∀x∈l,bR h x=c/\lY h x<=6 then Out.brk () else Out.ret false):=by
  have hst:∀k (hk:k < l.length),lW h l c (k:Int)=if bR h l[k]=c/\lY h l[k]<=6 then some (.next ((k+1:Nat):Int)) else some (.stop (Out.ret false)):=by
   intro k hk
   simp only [lW]
   rw [if_pos (by simp;omega),aP hk]
   generalize l[k]=x
   simp only [aG,rZ hs,vW]
   by_cases q:bR h x=c
   ·have n1:(bR h x != c)=false:=by simp only [bne_eq_false_iff_eq];exact q
    simp only [n1,bC,if_false,oF hs (show 0<=bR h x by omega),aG,lG (IS hk hl)]
    by_cases q2:lY h x<=6
    ·rw [if_neg (by simp;omega),if_pos ⟨q,q2⟩]
    ·rw [if_pos (by simp;omega),if_neg (fun x=>q2 x.2)]
   ·have n1:(bR h x != c)=true:=by simp only [bne_iff_ne];exact q
    simp only [n1,if_true]
    rw [if_neg (fun x=>q x.1)]
  refine jS (f:=lW h l c) l (fun k=>(k:Int)) (fun x=>bR h x=c/\lY h x<=6) _ _ (fun k hk hp=>?_) (fun k hk hp=>?_) ?_
  ·rw [hst k hk,if_pos hp]
  ·rw [hst k hk,if_neg hp]
  ·simp [lW]
 rw [key]
 by_cases q:∀x∈l,bR h x=c/\lY h x<=6
 ·rw [if_pos q,b9 (show C6 h l c from q)];rfl
 ·rw [if_neg q,dP (show ¬C6 h l c from q)];rfl
theorem N0{h:Heap}(hs:eM h){s:aO}(hl:s.aQ.length<=maxLen){c:Int}(hc:0<=c):xP h s c=some (decide (C6 h s.aQ c)):=by
 unfold xP
 have key:loop (lV h s c) 0=some (if ∀x∈s.aQ,bR h x=c/\lY h x<=6 then Out.brk () else Out.ret false):=by
  have hst:∀k (hk:k < s.aQ.length),lV h s c (k:Int)=if bR h s.aQ[k]=c/\lY h s.aQ[k]<=6 then some (.next ((k+1:Nat):Int)) else some (.stop (Out.ret false)):=by
   intro k hk
   simp only [lV]
   rw [if_pos (by simp;omega),aP hk]
   generalize s.aQ[k]=x
   simp only [aG,jF hs,vT]
   by_cases q:bR h x=c
   ·have n1:(bR h x != c)=false:=by simp only [bne_eq_false_iff_eq];exact q
    simp only [n1,bC,if_false,EV hs (show 0<=bR h x by omega),aG,lG (IS hk hl)]
    by_cases q2:lY h x<=6
    ·rw [if_neg (by simp;omega),if_pos ⟨q,q2⟩]
    ·rw [if_pos (by simp;omega),if_neg (fun x=>q2 x.2)]
   ·have n1:(bR h x != c)=true:=by simp only [bne_iff_ne];exact q
    simp only [n1,if_true]
    rw [if_neg (fun x=>q x.1)]
  refine jS (f:=lV h s c) s.aQ (fun k=>(k:Int)) (fun x=>bR h x=c/\lY h x<=6) _ _ (fun k hk hp=>?_) (fun k hk hp=>?_) ?_
  ·rw [hst k hk,if_pos hp]
  ·rw [hst k hk,if_neg hp]
  ·simp [lV]
 rw [key]
 by_cases q:∀x∈s.aQ,bR h x=c/\lY h x<=6
 ·rw [if_pos q,b9 (show C6 h s.aQ c from q)];rfl
 ·rw [if_neg q,dP (show ¬C6 h s.aQ c from q)];rfl
def gH(l:List aO)(k:Nat):List Int:=(l.getD k ⟨[]⟩).aQ
theorem dY{l:List aO}{k:Nat}(h:k < l.length):l[k].aQ=gH l k:=by
 grind [gH]
def MG(m:Mem)(k:Nat):Prop:=C6 m.Heap (gH m.aA.Global k) (k:Int)
def DH(m:Mem)(k:Nat):Prop:=C6 m.Heap (gH m.aA.Own k) ((k % 3:Nat):Int)
instance (m:Mem) (k:Nat):Decidable (MG m k):=by unfold MG;infer_instance
instance (m:Mem) (k:Nat):Decidable (DH m k):=by unfold DH;infer_instance
instance (m:Mem):Decidable (∀k,k < 3->MG m k):=Nat.decidableBallLT 3 fun k _=>MG m k
instance (m:Mem):Decidable (∀k,k < 9->DH m k):=Nat.decidableBallLT 9 fun k _=>DH m k
instance (m:Mem) (c:Nat):Decidable (∀w,w < 3->DH m (w * 3+c)):=Nat.decidableBallLT 3 fun w _=>DH m (w * 3+c)
instance (m:Mem):Decidable (∀k,k < 3->MG m k/\∀w,w < 3->DH m (w * 3+k)):=Nat.decidableBallLT 3 fun k _=>MG m k/\∀w,w < 3->DH m (w * 3+k)
def pY(m:Mem):Prop:=(UL m.Heap/\LOk m.aA)/\(∀k,k < 3->MG m k)/\∀k,k < 9->DH m k
instance (m:Mem):Decidable (pY m):=by unfold pY;infer_instance
theorem LOk.aH1{l:aA}(h:LOk l)(hb:(fE l).length<=1073741824):(∀s∈l.Global,s.aQ.length<=1073741824)/\∀s∈l.Own,s.aQ.length<=1073741824:=by
 grind [fE,TX,aEQ]
theorem aQY{m:Mem}:(∀k,k < 3->MG m k/\∀w,w < 3->DH m (w * 3+k))↔(∀k,k < 3->MG m k)/\∀k,k < 9->DH m k:=by
 constructor
 ·intro h
  refine⟨fun k hk=>(h k hk).1,fun k hk=>?_⟩
  have:=(h (k % 3) (by omega)).2 (k / 3) (by omega)
  grind
 grind
theorem aGX{m:Mem}(hb:m.Heap.Bytes.length<=maxLen)(hl:(fE m.aA).length<=1073741824):OL m=some (decide (pY m)):=by
 unfold OL EP
 rw [aEP hb,aBA hl]
 by_cases h1:UL m.Heap
 ·by_cases h2:LOk m.aA
  ·have hmx:(1073741824:Nat)<=maxLen:=by simp [maxLen]
   have hsl:=LOk.aH1 h2 hl
   simp only [b9 h1,b9 h2,aG,gY,bC,if_false]
   have k3:∀c:Nat,c < 3->loop (xX m (c:Int)) 0=some (if ∀w,w < 3->DH m (w * 3+c) then Out.brk () else Out.ret false):=by
    intro c hc
    have hst:∀w:Nat,w < 3->xX m (c:Int) (w:Int)=if DH m (w * 3+c) then some (.next ((w+1:Nat):Int)) else some (.stop (Out.ret false)):=by
     intro w hw
     have hk:w * 3+c < m.aA.Own.length:=by rw [h2.2.1];omega
     have e:uL (w:Int) (c:Int)=some ((w * 3+c:Nat):Int):=by
      unfold uL xW
      rw [cE,cE,b9 (by omega),b9 (by omega)]
      simp only [aG,gY,bC,if_false]
      grind [aL]
     have hlen:=hsl.2 _ (dC hk)
     simp only [xX]
     rw [if_pos (by simp;omega),e]
     simp only [aG,aP hk]
     rw [NZ h1.1 (by omega) (by omega),dY hk]
     have em:(w * 3+c) % 3=c:=by omega
     have ho:DH m (w * 3+c)↔C6 m.Heap (gH m.aA.Own (w * 3+c)) (c:Int):=by grind [DH]
     rw [aL (by omega) (by omega)]
     grind
    refine uX (f:=xX m (c:Int)) 3 (fun k=>(k:Int)) (fun w=>DH m (w * 3+c)) _ _ (fun k hk hx=>?_) (fun k hk hx=>?_) ?_
    ·grind
    ·grind
    ·rfl
   have k2:loop (xY m) 0=some (if ∀k,k < 3->MG m k/\∀w,w < 3->DH m (w * 3+k) then Out.brk () else Out.ret false):=by
    have hst:∀c:Nat,c < 3->xY m (c:Int)=if MG m c/\∀w,w < 3->DH m (w * 3+c) then some (.next ((c+1:Nat):Int)) else some (.stop (Out.ret false)):=by
     intro c hc
     have hk:c < m.aA.Global.length:=by rw [h2.1];omega
     have hlen:=hsl.1 _ (dC hk)
     simp only [xY]
     rw [if_pos (by simp;omega)]
     simp only [aG,aP hk]
     rw [NZ h1.1 (by omega) (by omega),dY hk,k3 c hc]
     by_cases q:MG m c
     ·have q':C6 m.Heap (gH m.aA.Global c) (c:Int):=q
      rw [b9 q']
      simp only [aG,gY,bC,if_false]
      by_cases q2:∀w,w < 3->DH m (w * 3+c)
      ·rw [if_pos q2,if_pos ⟨q,q2⟩]
       simp only [T8,T7]
       grind [aL]
      ·rw [if_neg q2,if_neg (fun x=>q2 x.2)];rfl
     ·have q':¬C6 m.Heap (gH m.aA.Global c) (c:Int):=q
      grind
    refine uX (f:=xY m) 3 (fun k=>(k:Int)) (fun k=>MG m k/\∀w,w < 3->DH m (w * 3+k)) _ _ (fun k hk hx=>?_) (fun k hk hx=>?_) ?_
    ·grind
    ·grind
    ·rfl
   rw [k2]
   by_cases q:∀k,k < 3->MG m k/\∀w,w < 3->DH m (w * 3+k)
   ·rw [if_pos q,b9 (show pY m from ⟨⟨h1,h2⟩,aQY.1 q⟩)];rfl
   ·rw [if_neg q,dP (fun x:pY m=>q (aQY.2 x.2))];rfl
  grind [pY]
 grind [pY]
theorem MH{m:Mem}(hb:m.Heap.Bytes.length<=maxLen)(hl:(fE m.aA).length<=1073741824):D0 m=some (decide (pY m)):=by
 unfold D0 EN
 rw [JS hb,QJ hl]
 by_cases h1:UL m.Heap
 ·by_cases h2:LOk m.aA
  ·have hmx:(1073741824:Nat)<=maxLen:=by simp [maxLen]
   have hsl:=LOk.aH1 h2 hl
   simp only [b9 h1,b9 h2,aG,gY,bC,if_false]
   have k3:loop (sI m) 0=some (if ∀k,k < 9->DH m k then Out.brk () else Out.ret false):=by
    have hst:∀w:Nat,w < 9->sI m (w:Int)=if DH m w then some (.next ((w+1:Nat):Int)) else some (.stop (Out.ret false)):=by
     intro w hw
     have hk:w < m.aA.Own.length:=by rw [h2.2.1];omega
     have hlen:=hsl.2 _ (dC hk)
     have em:Int.tmod (w:Int) 3=((w % 3:Nat):Int):=by grind
     simp only [sI]
     rw [if_pos (by simp;omega)]
     simp only [aG,aP hk,em]
     rw [N0 h1.1 (by omega) (by omega),dY hk,aL (by omega) (by omega)]
     by_cases q:DH m w
     ·rw [if_pos q,b9 (show C6 m.Heap (gH m.aA.Own w) ((w % 3:Nat):Int) from q)];rfl
     ·rw [if_neg q,dP (show ¬C6 m.Heap (gH m.aA.Own w) ((w % 3:Nat):Int) from q)];rfl
    refine uX (f:=sI m) 9 (fun k=>(k:Int)) (fun w=>DH m w) _ _ (fun k hk hx=>?_) (fun k hk hx=>?_) ?_
    ·grind
    ·grind
    ·simp [sI,h2.2.1]
   have k2:loop (sJ m) 0=some (if ∀k,k < 3->MG m k then Out.brk () else Out.ret false):=by
    have hst:∀w:Nat,w < 3->sJ m (w:Int)=if MG m w then some (.next ((w+1:Nat):Int)) else some (.stop (Out.ret false)):=by
     intro w hw
     have hk:w < m.aA.Global.length:=by rw [h2.1];omega
     have hlen:=hsl.1 _ (dC hk)
     simp only [sJ]
     rw [if_pos (by simp;omega)]
     simp only [aG,aP hk]
     rw [N0 h1.1 (by omega) (by omega),dY hk,aL (by omega) (by omega)]
     by_cases q:MG m w
     ·rw [if_pos q,b9 (show C6 m.Heap (gH m.aA.Global w) (w:Int) from q)];rfl
     ·rw [if_neg q,dP (show ¬C6 m.Heap (gH m.aA.Global w) (w:Int) from q)];rfl
    refine uX (f:=sJ m) 3 (fun k=>(k:Int)) (fun w=>MG m w) _ _ (fun k hk hx=>?_) (fun k hk hx=>?_) ?_
    ·grind
    ·grind
    ·simp [sJ,h2.1]
   rw [k2]
   by_cases q:∀k,k < 3->MG m k
   ·rw [if_pos q]
    simp only [aG,T4,T3]
    rw [k3]
    by_cases q2:∀k,k < 9->DH m k
    ·rw [if_pos q2,b9 (show pY m from ⟨⟨h1,h2⟩,q,q2⟩)];rfl
    ·rw [if_neg q2,dP (fun x:pY m=>q2 x.2.2)];rfl
   ·rw [if_neg q,dP (fun x:pY m=>q x.2.1)];rfl
  grind [pY]
 grind [pY]
end Go.Gv
end
noncomputable section
namespace Go.Gv
theorem FK{l:List aO}{s:aO}(h:s∈l):s.aQ.length<=(eN l).length:=by
 grind [TX,aEQ]
theorem sA(l:aA):(fE l).length=(eN l.Global).length+(eN l.Own).length:=by simp [fE]
def C7(m:Mem):Prop:=m.Heap.Bytes.length<=1048576/\m.Heap.Class.length<=1048576/\m.aA.Global.length<=1048576/\m.aA.Own.length<=1048576/\(fE m.aA).length<=1048576
theorem C7.aH1{m:Mem}(h:C7 m):(∀s∈m.aA.Global,s.aQ.length<=1048576)/\∀s∈m.aA.Own,s.aQ.length<=1048576:=by
 have:=sA m.aA
 have h5:=h.2.2.2.2
 exact⟨fun s hm=>by have:=FK hm;omega,fun s hm=>by have:=FK hm;omega⟩
end Go.Gv
end
noncomputable section
namespace Go.Gv
def POk(e:Int)(p:sC):Prop:=(0<=p.aM/\p.aM<=e)/\(0<=p.Seen/\p.Seen<=2)/\(p.On=false->p=⟨false,0,false,0⟩)
instance (e:Int) (p:sC):Decidable (POk e p):=by unfold POk;infer_instance
def QU(c:aH):Prop:=(0<=c.aM/\c.aM<=100000)/\c.cV.length=3/\∀p∈c.cV,POk c.aM p
instance (c:aH):Decidable (QU c):=by unfold QU;infer_instance
theorem hQ(c:aH):nU c=some (decide (QU c)):=by
 unfold nU
 rw [cE]
 by_cases h1:0<=c.aM/\c.aM<=100000
 ·by_cases h2:c.cV.length=3
  ·simp only [aG,h1,h2,nB]
   have key:∀k:Nat,k<=3->loop (rN c) (k:Int)=some (if ∀p∈c.cV.drop k,POk c.aM p then Out.brk () else Out.ret false):=by
    refine aIN 3 _ fun k hk=>?_
    by_cases h3:k < 3
    ·have hd:c.cV.drop k=c.cV[k] :: c.cV.drop (k+1):=IJ (by omega)
     simp only [rN]
     rw [if_pos (by simp;omega),aP (by omega)]
     simp only [aG,cE,kP,hd]
     rw [lG (by simp [maxLen];omega)]
     generalize c.cV[k]=p
     have hp:POk c.aM p↔decide (0<=p.aM/\p.aM<=c.aM)=true/\decide (0<=p.Seen/\p.Seen<=2)=true/\(p.On=false->decide (p=⟨false,0,false,0⟩)=true):=by simp only [POk,decide_eq_true_eq]
     simp only [List.forall_mem_cons,hp]
     generalize decide (0<=p.aM/\p.aM<=c.aM)=b1
     generalize decide (0<=p.Seen/\p.Seen<=2)=b2
     generalize decide (p=⟨false,0,false,0⟩)=b3
     generalize p.On=b4
     cases b1 <;> cases b2 <;> cases b3 <;> cases b4 <;> simp [h3]
    ·left
     obtain rfl:k=3:=by omega
     simp [rN,List.drop_eq_nil_of_le (show c.cV.length<=3 by omega)]
   have:=key 0 (by omega)
   simp only [Int.ofNat_zero,MP] at this
   have e:decide (QU c)=if ∀p∈c.cV,POk c.aM p then true else false:=by
    have:QU c↔∀p∈c.cV,POk c.aM p:=⟨fun h=>h.2.2,fun h=>⟨h1,h2,h⟩⟩
    simp [this]
   rw [e]
   simp only [Int.cast_ofNat_Int] at *
   have t0:loop (rN c) 0=_:=this
   by_cases h5:∀p∈c.cV,POk c.aM p
   ·rw [if_pos h5] at t0 ⊢;rw [t0];simp [GF,P4]
   ·rw [if_neg h5] at t0 ⊢;rw [t0];simp [GF]
  grind [nB,QU]
 grind [nB,QU]
theorem aL5(p:sC)(c:aH):uB p c=some (!decide (POk c.aM p)):=by
 unfold uB kG
 rw [eH,eH]
 have hp:decide (POk c.aM p)=(decide (0<=p.aM/\p.aM<=c.aM) && (decide (0<=p.Seen/\p.Seen<=2) && (p.On || decide (p=⟨false,0,false,0⟩)))):=by
  rw [FR];simp only [POk,decide_eq_true_eq,zP,Bool.or_eq_true]
  grind
 grind
theorem aJW{l:List sC}(hl:l.length<=maxLen)(f:sC->Bool):kE l (fun x=>some (f x))=some (l.any f):=by
 unfold kE uA
 have key:∀k:Nat,k<=l.length->loop (iI l (fun x=>some (f x))) (k:Int)=some (if (l.drop k).any f then Out.ret ((k+(l.drop k).findIdx f:Nat):Int) else Out.brk ()):=by
  refine aIN l.length _ fun k hk=>?_
  by_cases h3:k < l.length
  ·have hd:l.drop k=l[k] :: l.drop (k+1):=IJ h3
   simp only [iI]
   rw [if_pos (by simp;omega),aP h3,lG (IS h3 hl),hd]
   grind
  grind [iI]
 have t0:loop (iI l (fun x=>some (f x))) 0=_:=key 0 (by omega)
 rw [t0]
 simp only [MP]
 by_cases h:l.any f=true
 ·simp [h,pD]
 grind [pD,AW]
theorem zO{c:aH}(hc:c.cV.length<=maxLen):qL c=some (decide (QU c)):=by
 unfold qL rI
 rw [eH]
 have e:(fun y0=>uB y0 c)=fun y0=>some (!decide (POk c.aM y0)):=funext fun y=>aL5 y c
 rw [e,aJW hc]
 by_cases h1:0<=c.aM/\c.aM<=100000
 ·by_cases h2:c.cV.length=3
  ·have:QU c↔∀p∈c.cV,POk c.aM p:=⟨fun h=>h.2.2,fun h=>⟨h1,h2,h⟩⟩
   grind
  grind [QU]
 grind [QU]
end Go.Gv
end
noncomputable section
namespace Go.Gv
def cC(l:List bB):List dE:=l.flatMap bB.Rows
theorem JU{l:List bB}{k:Nat}(h:k < l.length):cC (l.take (k+1))=cC (l.take k)++l[k].Rows:=by
 grind [cC,TZ]
theorem aER(l:List bB)(k:Nat):(cC (l.take k)).length<=(cC l).length:=by
 grind [cC,TY]
theorem aR3(l:List bB){k:Nat}(h:k < l.length):l[k].Rows.length<=(cC l).length:=by
 have h1:=aER l (k+1)
 grind [JU]
theorem aH2{l:List bB}{s:bB}(h:s∈l):s.Rows.length<=(cC l).length:=by
 grind [TX,aR3]
theorem JV{l:List bB}(h:(cC l).length<=1073741824)(hl:l.length<=maxLen):AZ l=some (cC l):=by
 unfold AZ
 have k1:loop (uM l) ([],0)=some (cC l):=by
  refine gR (f:=uM l) l.length (fun k=>(cC (l.take k),(k:Int))) _ (fun k hk=>?_) ?_
  ·have h1:=aER l (k+1)
   rw [JU hk] at h1
   simp only [uM]
   rw [if_pos (by simp;omega),aP hk]
   grind [aK,JU,lG]
  grind [uM]
 rw [k1];rfl
def lZ(h:Int):Prop:=(32<=h/\h<=223)/\h % 32 < 24
instance (h:Int):Decidable (lZ h):=by unfold lZ;infer_instance
theorem iM(h:Int):iQ h=some (decide (lZ h)):=by
 grind [iQ,vX,lZ,cE,NV]
theorem iN(h:Int):fQ h=some (decide (lZ h)):=by
 grind [fQ,lU,lZ,eH,NV]
theorem lZ.mod{h:Int}(q:lZ h):Int.tmod h 32=h % 32/\0<=h % 32/\h % 32<=23:=by
 grind [lZ]
theorem gL(h:Int):hJ h=some (if lZ h then h % 32 else -1):=by
 grind [hJ,iM,lZ]
def A2(r:dE):Prop:=lZ r.Handle/\0<=r.aM/\r.aM<=100000
instance (r:dE):Decidable (A2 r):=by unfold A2;infer_instance
def mR(r:dE):Int:=r.Handle % 32
def qE(l:List bB):Prop:=l.length=3/\(cC l).length<=24/\(∀r∈cC l,A2 r)/\((cC l).map mR).Nodup
instance (l:List bB):Decidable (qE l):=by unfold qE;infer_instance
def rowAt(l:List dE)(k:Nat):dE:=l.getD k ⟨0,0⟩
theorem S6{l:List dE}{k:Nat}(h:k < l.length):rowAt l k=l[k]:=by
 grind [rowAt]
theorem aBB{l:List bB}(h:(cC l).length<=1073741824)(hl:l.length<=maxLen):H5 l=some (decide (qE l)):=by
 unfold H5 zE
 rw [JV h hl]
 simp only [aG]
 by_cases h3:l.length=3
 ·have n1:((l.length:Int) != 3)=false:=by simp;omega
  simp only [n1,bC,if_false]
  by_cases h24:(cC l).length<=24
  ·rw [if_neg (by simp;omega)]
   have hst:∀k,k < (cC l).length->rP (cC l) (((cC l).take k).map mR,(k:Int))=if A2 (rowAt (cC l) k)/\mR (rowAt (cC l) k)∉((cC l).take k).map mR then some (.next (((cC l).take (k+1)).map mR,((k+1:Nat):Int))) else some (.stop (Out.ret false)):=by
    intro k hk
    simp only [rP,rO]
    rw [if_pos (by simp;omega),aP hk,S6 hk]
    simp only [aG,gL,cE]
    by_cases q:lZ (cC l)[k].Handle
    ·have hm:=q.mod
     rw [if_pos q,if_neg (by simp;omega)]
     by_cases q2:0<=(cC l)[k].aM/\(cC l)[k].aM<=100000
     ·rw [b9 q2]
      simp only [gY,bC,if_false]
      rw [EW (by grind [maxLen])]
      simp only [aG]
      by_cases q3:(cC l)[k].Handle % 32∈((cC l).take k).map mR
      ·simp_all [mR]
      ·rw [dP q3]
       simp only [bC,if_false]
       rw [if_pos (show A2 (cC l)[k]/\mR (cC l)[k]∉((cC l).take k).map mR from ⟨⟨q,q2⟩,q3⟩),aK (by simp;omega),aL (by omega) (by omega),map_take _ hk];rfl
     ·rw [dP q2]
      simp only [HB,if_true]
      rw [if_neg (fun x:A2 _/\_=>q2 x.1.2)]
    simp_all [A2]
   have key:=uX (f:=rP (cC l)) (cC l).length (fun k=>(((cC l).take k).map mR,(k:Int))) (fun k=>A2 (rowAt (cC l) k)/\mR (rowAt (cC l) k)∉((cC l).take k).map mR) (Out.brk ()) (Out.ret false) (fun k hk hx=>by grind) (fun k hk hx=>by grind) (by simp [rP])
   rw [VT,List.map_nil,show((0:Nat):Int)=0 from rfl] at key
   rw [key]
   have hiff:qE l↔∀k,k < (cC l).length->A2 (rowAt (cC l) k)/\mR (rowAt (cC l) k)∉((cC l).take k).map mR:=by
    constructor
    ·rintro⟨_,_,q1,q2⟩ k hk
     grind [S6,JT,List.map_take]
    ·intro q
     refine⟨h3,h24,fun x hx=>?_,(JT _).2 fun k hk=>?_⟩
     ·obtain⟨k,hk,rfl⟩:=TX.1 hx
      grind [S6]
     grind [S6,List.map_take]
   by_cases q:qE l
   ·rw [if_pos (hiff.1 q),b9 q];rfl
   ·rw [if_neg (fun x=>q (hiff.2 x)),dP q];rfl
  ·rw [if_pos (by simp;omega),dP (fun q:qE l=>h24 q.2.1)]
 ·have n1:((l.length:Int) != 3)=true:=by simp;omega
  simp_all [qE]
def goR:List Bool->List dE->Option (List Bool)
 | met,[]=>some met
 | met,r :: t=>if A2 r/\met.getD (mR r).toNat true=false then goR (met.set (mR r).toNat true) t else none
theorem aQZ:∀{xs:List dE} {met m:List Bool},goR met xs=some m->m.length=met.length
 | [],met,m,h=>by grind [goR]
 | x :: r, met, m, h => by
  simp only [goR] at h
  split at h
  ·have:=aQZ h;grind
  ·cases h
theorem aES:∀(a b:List dE) (met:List Bool),goR met (a++b)=(goR met a).bind fun m=>goR m b
 | [],b,met=>rfl
 | x :: r, b, met => by
  simp only [TW,goR]
  split
  ·exact aES r b _
  ·rfl
theorem aL6:∀(xs:List dE) (met:List Bool),(goR met xs).isSome=true↔(∀r∈xs,A2 r)/\(yI met (xs.map mR)).isSome=true
 | [],met=>by simp [goR,yI]
 | x :: r, met => by
  simp only [goR,EZ,yI]
  by_cases h:A2 x
  ·have hm:=h.1.mod
   have hs:0<=mR x/\mR x<=23:=hm.2
   by_cases h2:met.getD (mR x).toNat true=false
   ·rw [if_pos ⟨h,h2⟩,if_pos ⟨hs,h2⟩,aL6 r _]
    simp [h]
   grind
  grind
theorem aR4{s:bB}(hl:s.Rows.length<=maxLen):∀d k (met:List Bool),k+d=s.Rows.length->met.length=24->loop (kN s) ((k:Int),met)=some (aJV (goR met (s.Rows.drop k))):=by
 intro d
 induction d with
 | zero =>
  intro k met hk hm
  rw [bG (r:=Out.brk met) (by grind [kN]),List.drop_eq_nil_of_le (by omega)];rfl
 | succ d ih =>
  intro k met hk hm
  have hk':k < s.Rows.length:=by omega
  have hd:s.Rows.drop k=s.Rows[k] :: s.Rows.drop (k+1):=IJ hk'
  have hst:kN s ((k:Int),met)=if A2 s.Rows[k]/\met.getD (mR s.Rows[k]).toNat true=false then some (.next (((k+1:Nat):Int),met.set (mR s.Rows[k]).toNat true)) else some (.stop (Out.ret false)):=by
   simp only [kN]
   rw [if_pos (by simp;omega),aP hk']
   simp only [aG,iN,eH]
   generalize s.Rows[k]=x
   by_cases q:lZ x.Handle
   ·by_cases q2:0<=x.aM/\x.aM<=100000
    ·have hm2:=q.mod
     obtain⟨j,hj0⟩:=aXP hm2.2.1
     have hj:j < met.length:=by omega
     have e:met.getD j true=met[j]:=by grind
     have hr:A2 x:=⟨q,q2⟩
     simp only [q,q2,and_self,decide_true,gY,bC,if_false,jC,hm2.1,hj0,JZ,hr,true_and,mR,e]
     rw [aK (by omega),aP hj]
     simp only [aG]
     cases met[j]
     ·simp only [bC,if_false,if_true]
      grind [aK,lG]
     ·simp
    ·rw [b9 q,dP q2];simp only [gY,HB,bC,if_false,if_true,jC];rw [if_neg (fun y:A2 x/\_=>q2 y.1.2)]
   simp_all [jC,A2]
  rw [hd,goR]
  by_cases q:A2 s.Rows[k]/\met.getD (mR s.Rows[k]).toNat true=false
  ·rw [if_pos q] at hst ⊢
   grind [bQ]
  ·rw [if_neg q] at hst ⊢
   rw [bG hst];rfl
theorem aR5{l:List bB}(hn:l.length<=1000)(hs:∀s∈l,s.Rows.length<=maxLen):∀d k (met:List Bool),k+d=l.length->met.length=24 ->
  loop (kO l) ((k:Int),met)=some (if (goR met (cC (l.drop k))).isSome=true then Out.brk () else Out.ret false):=by
 intro d
 induction d with
 | zero =>
  simp_all [goR,cC,bG,kO]
 | succ d ih =>
  intro k met hk hm
  have hk':k < l.length:=by omega
  have hd:l.drop k=l[k] :: l.drop (k+1):=IJ hk'
  have hsk:=hs _ (dC hk')
  have hf:cC (l.drop k)=l[k].Rows++cC (l.drop (k+1)):=by grind [cC]
  have h4:=aR4 hsk _ 0 met (AM _) hm
  rw [show((0:Nat):Int)=0 from rfl,MP] at h4
  have hst:kO l ((k:Int),met)=(match goR met l[k].Rows with | some m=>some (.next (((k+1:Nat):Int),m)) | none=>some (.stop (Out.ret false))):=by
   simp only [kO]
   rw [if_pos (by simp;omega),aP hk']
   simp only [aG]
   rw [h4]
   cases goR met l[k].Rows with
   | none=>rfl
   | some m=>simp only [aG,aJV,PW,yU];grind [aL]
  rw [hf,aES]
  cases hg:goR met l[k].Rows with
  | none =>
   simp_all [bG]
  | some m =>
   rw [hg] at hst
   rw [bQ hst,ih (k+1) m (by omega) (by grind [aQZ])]
   simp
theorem XG{l:List bB}(hn:l.length<=1000)(h:(cC l).length<=1073741824):tZ l=some ((cC l).length:Int):=by
 unfold tZ
 have key:loop (i4 l) (0,0)=some ((cC l).length:Int):=by
  refine gR (f:=i4 l) l.length (fun k=>(((cC (l.take k)).length:Int),(k:Int))) _ (fun k hk=>?_) ?_
  ·have h1:=aER l (k+1)
   rw [JU hk,rD] at h1
   simp only [i4]
   rw [if_pos (by simp;omega),aP hk]
   grind [aL,JU]
  grind [i4]
 rw [key];rfl
theorem GO{l:List bB}(h:(cC l).length<=1073741824):nM l=some (decide (qE l)):=by
 unfold nM
 by_cases h3:l.length=3
 ·have n1:((l.length:Int) != 3)=false:=by simp;omega
  have hb:(1073741824:Nat)<=maxLen:=by simp [maxLen]
  simp only [n1,bC,if_false]
  have key:=aR5 (l:=l) (by omega) (fun s hs=>by have:=aH2 hs;omega) l.length 0 [false,false,false,false,false,false,false,false,false,false,false,false,false,false,false,false,false,false,false,false,false,false,false,false] (by omega) rfl
  rw [show((0:Nat):Int)=0 from rfl,MP] at key
  rw [key]
  have hm0:∀j:Nat,j < 24->[false,false,false,false,false,false,false,false,false,false,false,false,false,false,false,false,false,false,false,false,false,false,false,false].getD j true=false:=by decide
  have hiff:qE l↔(cC l).length<=24/\(goR [false,false,false,false,false,false,false,false,false,false,false,false,false,false,false,false,false,false,false,false,false,false,false,false] (cC l)).isSome=true:=by
   rw [aL6,VG _ _ rfl]
   have hr:(∀r∈cC l,A2 r)->∀x∈(cC l).map mR,0<=x/\x<=23:=by
    intro q x hx
    obtain⟨r,hr,rfl⟩:=List.mem_map.1 hx
    exact(q r hr).1.mod.2
   constructor
   ·rintro⟨_,q1,q2,q3⟩
    grind
   ·rintro⟨q1,q2,_,q3,_⟩
    exact⟨h3,q1,q2,q3⟩
  by_cases q:(goR [false,false,false,false,false,false,false,false,false,false,false,false,false,false,false,false,false,false,false,false,false,false,false,false] (cC l)).isSome=true
  ·rw [if_pos q]
   simp only [aG,PX,yT]
   rw [XG (by omega) h]
   grind
  ·rw [if_neg q,dP (fun x=>q (hiff.1 x).2)];rfl
 ·have n1:((l.length:Int) != 3)=true:=by simp;omega
  simp_all [qE]
def kT(h:Int):Prop:=h=0\/lZ h
instance (h:Int):Decidable (kT h):=by unfold kT;infer_instance
def aET(z:List Int):Prop:=z.length=3/\∀h∈z,kT h
instance (z:List Int):Decidable (aET z):=by unfold aET;infer_instance
theorem aGY{z:List Int}(hl:z.length<=maxLen):OM z=some (decide (aET z)):=by
 unfold OM
 have hst:∀k (hk:k < z.length),xZ z (k:Int)=if kT z[k] then some (.next ((k+1:Nat):Int)) else some (.stop (Out.ret false)):=by
  intro k hk
  simp only [xZ,ER]
  rw [if_pos (by simp;omega),aP hk,lG (IS hk hl)]
  simp only [aG,iM]
  generalize z[k]=x
  by_cases q:x=0
  ·have n:(x != 0)=false:=by simp only [bne_eq_false_iff_eq];exact q
   rw [n,if_pos (show kT x from .inl q)];rfl
  ·have n:(x != 0)=true:=by simp only [bne_iff_ne];exact q
   by_cases q2:lZ x
   ·rw [n,b9 q2,if_pos (show kT x from .inr q2)];rfl
   ·rw [n,dP q2,if_neg (fun a:kT x=>a.elim q q2)];rfl
 have key:=jS (f:=xZ z) z (fun k=>(k:Int)) kT (Out.brk ()) (Out.ret false) (fun k hk hx=>by grind) (fun k hk hx=>by grind) (by simp [xZ])
 rw [show((0:Nat):Int)=0 from rfl] at key
 rw [key]
 by_cases q:∀x∈z,kT x
 ·rw [if_pos q]
  have:aET z↔z.length=3:=⟨fun a=>a.1,fun a=>⟨a,q⟩⟩
  simp only [aG,UA,T9,this]
  congr 1;grind
 ·rw [if_neg q,dP (fun a:aET z=>q a.2)];rfl
end Go.Gv
end
noncomputable section
namespace Go.Gv
theorem XH{α:Type}(l:List α)(f:α->Bool){body:Int->Option (Step Int (Out Unit Int))}(hb:∀k (hk:k < l.length),body (k:Int)=if f l[k] then some (.stop (.ret (k:Int))) else some (.next ((k+1:Nat):Int)))(he:body (l.length:Int)=some (.stop (.brk ()))) :
  ∃o,loop body 0=some o/\match o with | .brk _=>l.any f=false | .ret r=>0<=r/\l.any f=true:=by
 have key:=aR0 (f:=body) l.length (fun k=>(k:Int)) (fun k=>if (l.drop k).any f then Out.ret ((k+(l.drop k).findIdx f:Nat):Int) else Out.brk ()) (fun k hk=>by
  by_cases h:k < l.length
  ·have hd:l.drop k=l[k] :: l.drop (k+1):=IJ h
   grind
  grind) 0 (jK _)
 grind
theorem aGZ{l:List dE}(hl:l.length<=maxLen)(f:dE->Bool):jX l (fun x=>some (f x))=some (l.any f):=by
 obtain⟨o,e,h⟩:=XH l f (body:=jW l (fun x=>some (f x))) (fun k hk=>by
  simp only [jW]
  rw [if_pos (by simp;omega),aP hk,lG (IS hk hl)];rfl) (by simp [jW])
 grind [jX,sP,xM,xL]
theorem aEU{l:List bB}(hl:l.length<=maxLen)(f:bB->Bool)(g:bB->Option Bool)(hg:∀x∈l,g x=some (f x)):jH l g=some (l.any f):=by
 obtain⟨o,e,h⟩:=XH l f (body:=jG l g) (fun k hk=>by
  simp only [jG]
  rw [if_pos (by simp;omega),aP hk,lG (IS hk hl)]
  grind) (by simp [jG])
 grind [jH,qJ,wL,wK]
theorem SF{l:List aO}(hl:l.length<=maxLen)(f:aO->Bool)(g:aO->Option Bool)(hg:∀x∈l,g x=some (f x)):gX l g=some (l.any f):=by
 obtain⟨o,e,h⟩:=XH l f (body:=jI l g) (fun k hk=>by
  simp only [jI]
  rw [if_pos (by simp;omega),aP hk,lG (IS hk hl)]
  grind) (by simp [jI])
 grind [gX,qK,wN,wM]
theorem contains_eq{l:List Int}(hl:l.length<=maxLen)(v:Int):k9 l v=some (decide (v∈l)):=by
 obtain⟨o,e,h⟩:=XH l (fun x=>v == x) (body:=dZ l v) (fun k hk=>by
  simp only [dZ]
  rw [if_pos (by simp;omega),aP hk,lG (IS hk hl)];rfl) (by simp [dZ])
 have ha:l.any (fun x=>v == x)=decide (v∈l):=by
  grind
 grind [k9,lT,wU,GZ]
theorem S7{l:List aO}{x:Int}:x∈eN l↔∃s∈l,x∈s.aQ:=aHC
noncomputable section
variable {m:Mem} (hsh:eM m.Heap) (hl:(fE m.aA).length<=1073741824) (hg:m.aA.Global.length<=maxLen) (ho:m.aA.Own.length<=maxLen)
include hl hg ho
theorem aEV(s:Int):K6 m.aA s=some (decide (s∈fE m.aA)):=by
 grind [maxLen,K6,UM,EW]
theorem SG(s:Int):E9 m.aA s=some (decide (s∈fE m.aA)):=by
 have hb:(1073741824:Nat)<=maxLen:=by simp [maxLen]
 have hal:=sA m.aA
 have e1:∀x∈m.aA.Global,nZ x s=some (decide (s∈x.aQ)):=fun x hx=>by
  have:=FK hx
  grind [nZ,contains_eq]
 have e2:∀x∈m.aA.Own,nZ x s=some (decide (s∈x.aQ)):=fun x hx=>by
  have:=FK hx
  grind [nZ,contains_eq]
 unfold E9 B6
 rw [SF hg (fun x=>decide (s∈x.aQ)) _ e1,SF ho (fun x=>decide (s∈x.aQ)) _ e2]
 have a1:(m.aA.Global.any fun x=>decide (s∈x.aQ))=decide (s∈eN m.aA.Global):=by
  rw [FR];simp [S7]
 have a2:(m.aA.Own.any fun x=>decide (s∈x.aQ))=decide (s∈eN m.aA.Own):=by
  rw [FR];simp [S7]
 grind [fE]
def oG(m:Mem)(s:Int):Int:=if bR m.Heap s < 0 then 0 else if s∈fE m.aA then 1 else if 6 < lY m.Heap s then 2 else 3
include hsh
theorem aBC(s:Int):H6 m s=some (oG m s):=by
 grind [H6,oG,rZ,aEV,oF]
theorem aBD(s:Int):HQ m s=some (oG m s):=by
 grind [HQ,oG,jF,SG,EV]
def oH(m:Mem)(h:Int):Prop:=lZ h/\oG m (h % 32)=3/\lY m.Heap (h % 32)=h / 32
instance (m:Mem) (h:Int):Decidable (oH m h):=by unfold oH;infer_instance
omit hl hg ho hsh in
theorem lP{m:Mem}{s:Int}(h:oG m s=3):0<=bR m.Heap s:=by
 grind [oG]
theorem GP(h:Int):CQ m h=some (decide (oH m h)):=by
 unfold CQ rQ
 rw [iM,gL]
 by_cases q:lZ h
 ·have hm:=q.mod
  rw [b9 q,if_pos q]
  simp only [aG,if_true,aBC hsh hl hg ho]
  by_cases q2:oG m (h % 32)=3
  ·have n:(oG m (h % 32) == 3)=true:=by grind
   have eg:CP h=some (h / 32):=by
    grind [CP,lZ,iM,aL]
   rw [n,oF hsh (lP q2),eg]
   simp only [if_true,aG]
   congr 1;rw [FR];simp only [beq_iff_eq,decide_eq_true_eq]
   exact⟨fun a=>⟨q,q2,a⟩,fun a=>a.2.2⟩
  grind [oH]
 grind [oH]
theorem JW(h:Int):AV m h=some (decide (oH m h)):=by
 unfold AV tY
 rw [iN]
 by_cases q:lZ h
 ·have hm:=q.mod
  rw [b9 q,hm.1]
  simp only [aG,if_true,aBD hsh hl hg ho]
  by_cases q2:oG m (h % 32)=3
  ·have n:(oG m (h % 32) == 3)=true:=by grind
   have eg:aX (Int.tdiv h 32)=h / 32:=by
    grind [lZ,aL]
   rw [n,EV hsh (lP q2),eg]
   simp only [if_true,aG]
   congr 1;rw [FR];simp only [beq_iff_eq,decide_eq_true_eq]
   exact⟨fun a=>⟨q,q2,a⟩,fun a=>a.2.2⟩
  grind [oH]
 grind [oH]
end
def O5(b:aB)(r:dE):Prop:=oH b.Mem r.Handle/\r.aM<=b.aH.aM
instance (b:aB) (r:dE):Decidable (O5 b r):=by unfold O5;infer_instance
def sB(b:aB):Prop:=(pY b.Mem/\QU b.aH/\qE b.bJ/\aET b.A4)/\∀r∈cC b.bJ,O5 b r
instance (b:aB):Decidable (sB b):=by unfold sB;infer_instance
def aEW(b:aB):Prop:=C7 b.Mem/\b.aH.cV.length<=1048576/\b.bJ.length<=1048576/\(cC b.bJ).length<=1048576/\b.A4.length<=1048576
noncomputable section
variable {b:aB} (hf:b.Mem.Heap.Bytes.length<=maxLen/\(fE b.Mem.aA).length<=1073741824/\b.aH.cV.length<=maxLen/\b.bJ.length<=maxLen/\(cC b.bJ).length<=1073741824/\b.A4.length<=maxLen)
include hf
theorem aEX:K7 b=some (decide (sB b)):=by
 obtain⟨f1,f2,f3,f4,f5,f6⟩:=hf
 unfold K7 pN
 rw [aGX f1 f2,hQ,aBB f5 f4,aGY f6]
 by_cases q1:pY b.Mem
 ·by_cases q2:QU b.aH
  ·by_cases q3:qE b.bJ
   ·by_cases q4:aET b.A4
    ·have hg:b.Mem.aA.Global.length<=maxLen:=by rw [q1.1.2.1];simp [maxLen]
     have ho:b.Mem.aA.Own.length<=maxLen:=by rw [q1.1.2.2.1];simp [maxLen]
     have hmx:(1073741824:Nat)<=maxLen:=by simp [maxLen]
     simp only [b9 q1,b9 q2,b9 q3,b9 q4,aG,gY,bC,if_false]
     rw [JV f5 f4]
     simp only [aG]
     have hst:∀k (hk:k < (cC b.bJ).length),uN b (cC b.bJ) (k:Int)=if O5 b (cC b.bJ)[k] then some (.next ((k+1:Nat):Int)) else some (.stop (Out.ret false)):=by
      intro k hk
      simp only [uN,CR]
      rw [if_pos (by simp;omega),aP hk,lG (show k < maxLen by omega)]
      generalize (cC b.bJ)[k]=r
      simp only [aG,GP q1.1.1.1 f2 hg ho]
      by_cases a1:oH b.Mem r.Handle
      ·rw [b9 a1]
       simp only [gY,bC,if_false]
       by_cases a2:r.aM<=b.aH.aM
       ·rw [if_neg (by simp;omega),if_pos ⟨a1,a2⟩]
       ·rw [if_pos (by simp;omega),if_neg (fun x=>a2 x.2)]
      ·rw [dP a1]
       simp only [HB,if_true]
       rw [if_neg (fun x=>a1 x.1)]
     have key:=jS (f:=uN b (cC b.bJ)) (cC b.bJ) (fun k=>(k:Int)) (O5 b) (Out.brk ()) (Out.ret false) (fun k hk hx=>by grind) (fun k hk hx=>by grind) (by simp [uN])
     rw [show((0:Nat):Int)=0 from rfl] at key
     rw [key]
     by_cases q:∀r∈cC b.bJ,O5 b r
     ·rw [if_pos q,b9 (show sB b from ⟨⟨q1,q2,q3,q4⟩,q⟩)];rfl
     ·rw [if_neg q,dP (fun x:sB b=>q x.2)];rfl
    grind [sB]
   grind [sB]
  grind [sB]
 grind [sB]
end
end Go.Gv
end
