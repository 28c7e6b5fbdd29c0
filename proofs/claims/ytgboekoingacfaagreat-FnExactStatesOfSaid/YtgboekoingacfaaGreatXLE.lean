import Derived.Test.YtgboekoingacfaaGreatXLD
set_option linter.unusedVariables false
set_option linter.unusedSimpArgs false
set_option linter.unusedSectionVars false
set_option linter.constructorNameAsVariable false
set_option linter.unnecessarySimpa false
noncomputable section
set_option linter.unusedVariables false
set_option maxHeartbeats 4000000
set_option maxRecDepth 100000
namespace Go.Proofs.YtgboekoingacfaaGreat
open Go.Gv
noncomputable section
variable {κ:Ctx}
theorem uD{l:aB}{s1 s2:AC}(h1:aQ κ s1 l.Global)(h2:aQ κ s2 l.bA):VS Tryz.prog κ 267 (sT l) [.g [.h s1 l.Global.length,.h s2 l.bA.length]] [] [] (fun r (y:AC×AC)=>.g [.h y.1 r.Global.length,.h y.2 r.bA.length]) (fun r y=>[ow y.1 r.Global,ow y.2 r.bA]):=
 bM tok Tryz.call267 Tryz.func267 Tryz.results267 rfl rfl<|fun hF=>nw aG rfl<|wi hF<|mQ ⟨none,0⟩ [1,2,3,10,11] (fun(p:Int×(List aG)) (s4:AC)=>[(12,I p.1)]) [3,2,0,1] [0,1] (fun p s4=>[ow s4 (p.2:List aG),.box 2 [.h s4 p.2.length,.h ⟨none,0⟩ 0]]) id [1,2,3] (fun(x5:(List aG)) (s5:AC)=>[]) [0,1] (fun x5 s5=>[ow s5 (x5:List aG),.box 2 [.h s5 x5.length,.h ⟨none,0⟩ 0]]) rfl rfl (fun hF1 ⟨x3,x4⟩ s4 hr1=>aV [13] rfl rfl (eG qR rfl h1 rfl fun x14 s22 h4=>mH 0 5 (PM x3) [1,2,3,10,11,12] (fun(x15:(List aG)) (s23:AC)=>[]) [2,3] (fun x15 s23=>[ow s23 (x15:List aG),.box 2 [.h s23 x15.length,.h ⟨none,0⟩ 0]]) rfl (jP aL [2,3,4,5] rfl<|fun hG1=>bd hG1 fun x16 hA3 hG1=>nd hG1 fun hA4 hG1=>kS rfl rfl (have hq6:=rb hA3;wi hq6<|c1 rfl (fun h=>nH (h.a h4)) fun u3 s27=>fun hq6=>match u3,hq6 with | _,rfl=>ltN kZ [6] ((⟨x16⟩:aG)) s27 dN rfl rfl rfl rfl rfl rfl rfl rfl rfl rfl rfl rfl rfl fun s28=>have hq7:=rn hA4;apN 0 7 dN rfl rfl rfl rfl rfl rfl rfl rfl rfl rfl rfl hq7 fun hq7 s29=>wi hG1<|pE (p:=(x4++([(⟨x16⟩:aG)]))) s29 [8,1,2,3] rfl rfl) (have hq8:=rb hA3;wi hq8<|c1 rfl (fun h=>nH (h.a h4)) fun u4 s30=>fun hq8=>match u4,hq8 with | _,rfl=>kS rfl rfl (ltN kZ [6] ((⟨x16⟩:aG)) s30 dN rfl rfl rfl rfl rfl rfl rfl rfl rfl rfl rfl rfl rfl fun s31=>have hq9:=rn hA4;apN 0 7 dN rfl rfl rfl rfl rfl rfl rfl rfl rfl rfl rfl hq9 fun hq9 s32=>wi hG1<|pE (p:=(x4++([(⟨x16⟩:aG)]))) s32 [8,1,2,3] rfl rfl) (ltN kZ [6] ((⟨x16⟩:aG)) s30 dN rfl rfl rfl rfl rfl rfl rfl rfl rfl rfl rfl rfl rfl fun s33=>have hq10:=rn hA4;apN 0 7 dN rfl rfl rfl rfl rfl rfl rfl rfl rfl rfl rfl hq10 fun hq10 s34=>wi hG1<|pE (p:=(x4++([(⟨x16⟩:aG)]))) s34 [8,1,2,3] rfl rfl))) fun x15 s23=>nxW s23 [0,1,2,3] rfl)<|bkW s4 [0,1,2,3] rfl) fun x5 s5=>fun hF=>nw aG rfl<|wi hF<|mQ ⟨none,0⟩ [2,3,27,28] (fun(p:Int×(List aG)) (s7:AC)=>[(29,I p.1)]) [4,1,3,0] [3,0] (fun p s7=>[ow s7 (p.2:List aG),.box 2 [.h s5 x5.length,.h s7 p.2.length]]) id [2,3] (fun(x10:(List aG)) (s8:AC)=>[]) [3,0] (fun x10 s8=>[ow s8 (x10:List aG),.box 2 [.h s5 x5.length,.h s8 x10.length]]) rfl rfl (fun hF2 ⟨x8,x9⟩ s7 hr2=>aV [30] rfl rfl (eG qR rfl h2 rfl fun x11 s9 h3=>mH 0 5 (PK x8) [2,3,27,28,29] (fun(x12:(List aG)) (s10:AC)=>[]) [2,3] (fun x12 s10=>[ow s10 (x12:List aG),.box 2 [.h s5 x5.length,.h s10 x12.length]]) rfl (jP aL [2,4,5] rfl<|fun hG2=>bd hG2 fun x13 hA1 hG2=>nd hG2 fun hA2 hG2=>kS rfl rfl (have hq1:=rb hA1;wi hq1<|c1 rfl (fun h=>nH (h.a h3)) fun u1 s14=>fun hq1=>match u1,hq1 with | _,rfl=>ltN kZ [6] ((⟨x13⟩:aG)) s14 dN rfl rfl rfl rfl rfl rfl rfl rfl rfl rfl rfl rfl rfl fun s15=>have hq2:=rn hA2;apN 0 7 dN rfl rfl rfl rfl rfl rfl rfl rfl rfl rfl rfl hq2 fun hq2 s16=>wi hG2<|pE (p:=(x9++([(⟨x13⟩:aG)]))) s16 [8,1,2,3] rfl rfl) (have hq3:=rb hA1;wi hq3<|c1 rfl (fun h=>nH (h.a h3)) fun u2 s17=>fun hq3=>match u2,hq3 with | _,rfl=>kS rfl rfl (ltN kZ [6] ((⟨x13⟩:aG)) s17 dN rfl rfl rfl rfl rfl rfl rfl rfl rfl rfl rfl rfl rfl fun s18=>have hq4:=rn hA2;apN 0 7 dN rfl rfl rfl rfl rfl rfl rfl rfl rfl rfl rfl hq4 fun hq4 s19=>wi hG2<|pE (p:=(x9++([(⟨x13⟩:aG)]))) s19 [8,1,2,3] rfl rfl) (ltN kZ [6] ((⟨x13⟩:aG)) s17 dN rfl rfl rfl rfl rfl rfl rfl rfl rfl rfl rfl rfl rfl fun s20=>have hq5:=rn hA2;apN 0 7 dN rfl rfl rfl rfl rfl rfl rfl rfl rfl rfl rfl hq5 fun hq5 s21=>wi hG2<|pE (p:=(x9++([(⟨x13⟩:aG)]))) s21 [8,1,2,3] rfl rfl))) fun x12 s10=>nxW s10 [0,1,2,3] rfl)<|bkW s7 [0,1,2,3] rfl) fun x10 s8=>gL (s5,s8) [3,0] rfl rfl
theorem aEP{m:Mem}{s1 s2 s3 s4:AC}(h1:aQ κ s1 m.aC.Bytes)(h2:aQ κ s2 m.aC.Class)(h3:aQ κ s3 m.aB.Global)(h4:aQ κ s4 m.aB.bA):VS Tryz.prog κ 184 (PO m) [.g [.h s1 m.aC.Bytes.length,.h s2 m.aC.Class.length,.h s3 m.aB.Global.length,.h s4 m.aB.bA.length]] [] [] (fun r (y:AC×AC×AC×AC)=>.g [.h y.1 r.aC.Bytes.length,.h y.2.1 r.aC.Class.length,.h y.2.2.1 r.aB.Global.length,.h y.2.2.2 r.aB.bA.length]) (fun r y=>[ow y.1 r.aC.Bytes,ow y.2.1 r.aC.Class,ow y.2.2.1 r.aB.Global,ow y.2.2.2 r.aB.bA]):=
 bM tok Tryz.call184 Tryz.func184 Tryz.results184 rfl rfl<|jP aL [0] rfl<|c1 rfl (fun h=>NM (h.a h1) (h.a h2)) fun x1 s5=>c1 rfl (fun h=>uD (h.a h3) (h.a h4)) fun x2 s6=>gL (s5.1,s5.2,s6.1,s6.2) [2,3,4,5] rfl rfl
theorem aHV{s:List cQ}{s1:AC}(h1:aQ κ s1 s):VS Tryz.prog κ 268 (KV s) [.h s1 s.length] [] [] (fun r (y:AC)=>.h y r.length) (fun r y=>[ow y r]):=
 bM tok Tryz.call268 Tryz.func268 Tryz.results268 rfl rfl<|fun hF=>eqn rfl rfl rfl rfl (fun h2=>have hF:=cln h1 h2 hF;sR rfl<|GA cQ<|nB (hT:=tok) ⟨none,0⟩ [0] hF rfl Tryz.results268 rfl rfl rfl rfl)<|LR (α:=cQ) sO rfl rfl rfl rfl fun s2=>ap 0 sO rfl rfl rfl rfl rfl rfl rfl (fun h=>(h.a h1)) rfl rfl hF fun hF s3=>wi hF<|gL s3 [0] rfl rfl
theorem FL{c:aD}{s1:AC}(h1:aQ κ s1 c.aM):VS Tryz.prog κ 185 (xM c) [.g [I c.aJ,.h s1 c.aM.length]] [] [] (fun r (y:AC)=>.g [I r.aJ,.h y r.aM.length]) (fun r y=>[ow y r.aM]):=
 bM tok Tryz.call185 Tryz.func185 Tryz.results185 rfl rfl<|jP aL [0] rfl<|c1 rfl (fun h=>aHV (h.a h1)) fun x1 s2=>gL s2 [2] rfl rfl
theorem aF9{s:List bP}{s1:AC}(h1:aQ κ s1 s):VS Tryz.prog κ 269 (I5 s) [.h s1 s.length] [] [] (fun r (y:AC)=>.h y r.length) (fun r y=>[ow y r]):=
 bM tok Tryz.call269 Tryz.func269 Tryz.results269 rfl rfl<|fun hF=>eqn rfl rfl rfl rfl (fun h2=>have hF:=cln h1 h2 hF;sR rfl<|GA bP<|nB (hT:=tok) ⟨none,0⟩ [0] hF rfl Tryz.results269 rfl rfl rfl rfl)<|LR (α:=bP) pJ rfl rfl rfl rfl fun s2=>ap 0 pJ rfl rfl rfl rfl rfl rfl rfl (fun h=>(h.a h1)) rfl rfl hF fun hF s3=>wi hF<|gL s3 [0] rfl rfl
theorem FM{l:List aP}{s1:AC}(h1:aQ κ s1 l):VS Tryz.prog κ 186 (xN l) [.h s1 l.length] [] [] (fun r (y:AC)=>.h y r.length) (fun r y=>[ow y r]):=
 bM tok Tryz.call186 Tryz.func186 Tryz.results186 rfl rfl<|fun hF=>LR (α:=aP) qP rfl rfl rfl rfl fun s2=>wi hF<|mQ s2 [7,8] (fun(p:(List aP)×Int) (s4:AC)=>[(3,.h s4 p.1.length),(9,I p.2)]) [0] [] (fun p s4=>[ow s4 (p.1:List aP)]) id [] (fun(x5:(List aP)) (s5:AC)=>[(3,.h s5 x5.length)]) [] (fun x5 s5=>[ow s5 (x5:List aP)]) rfl rfl (fun hF1 ⟨x3,x4⟩ s4 hr1=>aV [10] rfl rfl (eG sU rfl h1 rfl fun x6 s6 h2=>c1 rfl (fun h=>aF9 (h.a h2)) fun x7 s7=>fun hG1=>ltN mI [3] ((⟨x7⟩:aP)) s7 qP rfl rfl rfl rfl rfl rfl rfl rfl rfl rfl rfl rfl rfl fun s8=>apN 0 4 qP rfl rfl rfl rfl rfl rfl rfl rfl rfl rfl rfl hG1 fun hG1 s9=>wi hG1<|nxW s9 [5] rfl)<|bkW s4 [0] rfl) fun x5 s5=>gL s5 [0] rfl rfl
theorem aMY{b:aA}{s1 s2 s3 s4 s5 s6 s7:AC}(h1:aQ κ s1 b.Mem.aC.Bytes)(h2:aQ κ s2 b.Mem.aC.Class)(h3:aQ κ s3 b.Mem.aB.Global)(h4:aQ κ s4 b.Mem.aB.bA)(h5:aQ κ s5 b.aD.aM)(h6:aQ κ s6 b.aH)(h7:aQ κ s7 b.bO):VS Tryz.prog κ 108 (SY b) [.g [.h s1 b.Mem.aC.Bytes.length,.h s2 b.Mem.aC.Class.length,.h s3 b.Mem.aB.Global.length,.h s4 b.Mem.aB.bA.length,I b.aD.aJ,.h s5 b.aD.aM.length,.h s6 b.aH.length,.h s7 b.bO.length]] [] [] (fun r (y:AC×AC×AC×AC×AC×AC×AC)=>.g [.h y.1 r.Mem.aC.Bytes.length,.h y.2.1 r.Mem.aC.Class.length,.h y.2.2.1 r.Mem.aB.Global.length,.h y.2.2.2.1 r.Mem.aB.bA.length,I r.aD.aJ,.h y.2.2.2.2.1 r.aD.aM.length,.h y.2.2.2.2.2.1 r.aH.length,.h y.2.2.2.2.2.2 r.bO.length]) (fun r y=>[ow y.1 r.Mem.aC.Bytes,ow y.2.1 r.Mem.aC.Class,ow y.2.2.1 r.Mem.aB.Global,ow y.2.2.2.1 r.Mem.aB.bA,ow y.2.2.2.2.1 r.aD.aM,ow y.2.2.2.2.2.1 r.aH,ow y.2.2.2.2.2.2 r.bO]):=
 bM tok Tryz.call108 Tryz.func108 Tryz.results108 rfl rfl<|jP aL [0] rfl<|c1 rfl (fun h=>aEP (h.a h1) (h.a h2) (h.a h3) (h.a h4)) fun x1 s8=>c1 rfl (fun h=>FL (h.a h5)) fun x2 s9=>c1 rfl (fun h=>FM (h.a h6)) fun x3 s10=>c1 rfl (fun h=>nH (h.a h7)) fun x4 s11=>gL (s8.1,s8.2.1,s8.2.2.1,s8.2.2.2,s9,s10,s11) [2,3,4,5,6,7,8] rfl rfl
theorem aHW{s:List bG}{s1:AC}(h1:aQ κ s1 s):VS Tryz.prog κ 110 (RT s) [.h s1 s.length] [] [] (fun r (y:AC)=>.h y r.length) (fun r y=>[ow y r]):=
 bM tok Tryz.call110 Tryz.func110 Tryz.results110 rfl rfl<|fun hF=>eqn rfl rfl rfl rfl (fun h2=>have hF:=cln h1 h2 hF;sR rfl<|GA bG<|nB (hT:=tok) ⟨none,0⟩ [0] hF rfl Tryz.results110 rfl rfl rfl rfl)<|LR (α:=bG) bN rfl rfl rfl rfl fun s2=>ap 0 bN rfl rfl rfl rfl rfl rfl rfl (fun h=>(h.a h1)) rfl rfl hF fun hF s3=>wi hF<|gL s3 [0] rfl rfl
theorem aJE{s:List cM}{s1:AC}(h1:aQ κ s1 s):VS Tryz.prog κ 187 (UI s) [.h s1 s.length] [] [] (fun r (y:AC)=>.h y r.length) (fun r y=>[ow y r]):=
 bM tok Tryz.call187 Tryz.func187 Tryz.results187 rfl rfl<|fun hF=>eqn rfl rfl rfl rfl (fun h2=>have hF:=cln h1 h2 hF;sR rfl<|GA cM<|nB (hT:=tok) ⟨none,0⟩ [0] hF rfl Tryz.results187 rfl rfl rfl rfl)<|LR (α:=cM) qQ rfl rfl rfl rfl fun s2=>ap 0 qQ rfl rfl rfl rfl rfl rfl rfl (fun h=>(h.a h1)) rfl rfl hF fun hF s3=>wi hF<|gL s3 [0] rfl rfl
theorem cY{todo:List Queue}{s1:AC}(h1:aQ κ s1 todo):VS Tryz.prog κ 111 (DT todo) [.h s1 todo.length] [] [] (fun r (y:AC)=>.h y r.length) (fun r y=>[ow y r]):=
 bM tok Tryz.call111 Tryz.func111 Tryz.results111 rfl rfl<|fun hF=>LR (α:=Queue) JV rfl rfl rfl rfl fun s2=>wi hF<|mQ s2 [7,8] (fun(p:(List Queue)×Int) (s4:AC)=>[(3,.h s4 p.1.length),(9,I p.2)]) [0] [] (fun p s4=>[ow s4 (p.1:List Queue)]) id [] (fun(x5:(List Queue)) (s5:AC)=>[(3,.h s5 x5.length)]) [] (fun x5 s5=>[ow s5 (x5:List Queue)]) rfl rfl (fun hF1 ⟨x3,x4⟩ s4 hr1=>aV [10] rfl rfl (eG FH rfl h1 rfl fun x6 s6 h2=>c1 rfl (fun h=>aJE (h.a h2)) fun x7 s7=>fun hG1=>ltN rL [3] ((⟨x7⟩:Queue)) s7 JV rfl rfl rfl rfl rfl rfl rfl rfl rfl rfl rfl rfl rfl fun s8=>apN 0 4 JV rfl rfl rfl rfl rfl rfl rfl rfl rfl rfl rfl hG1 fun hG1 s9=>wi hG1<|nxW s9 [5] rfl)<|bkW s4 [0] rfl) fun x5 s5=>gL s5 [0] rfl rfl
theorem aJF{s:List Ev}{s1:AC}(h1:aQ κ s1 s):VS Tryz.prog κ 112 (UJ s) [.h s1 s.length] [] [] (fun r (y:AC)=>.h y r.length) (fun r y=>[ow y r]):=
 bM tok Tryz.call112 Tryz.func112 Tryz.results112 rfl rfl<|fun hF=>eqn rfl rfl rfl rfl (fun h2=>have hF:=cln h1 h2 hF;sR rfl<|GA Ev<|nB (hT:=tok) ⟨none,0⟩ [0] hF rfl Tryz.results112 rfl rfl rfl rfl)<|LR (α:=Ev) cS rfl rfl rfl rfl fun s2=>ap 0 cS rfl rfl rfl rfl rfl rfl rfl (fun h=>(h.a h1)) rfl rfl hF fun hF s3=>wi hF<|gL s3 [0] rfl rfl
theorem oF{s:aE}{s1 s2 s3 s4 s5 s6 s7 s8 s9 s10 s11:AC}(h1:aQ κ s1 s.aA.Mem.aC.Bytes)(h2:aQ κ s2 s.aA.Mem.aC.Class)(h3:aQ κ s3 s.aA.Mem.aB.Global)(h4:aQ κ s4 s.aA.Mem.aB.bA)(h5:aQ κ s5 s.aA.aD.aM)(h6:aQ κ s6 s.aA.aH)(h7:aQ κ s7 s.aA.bO)(h8:aQ κ s8 s.Cells)(h9:aQ κ s9 s.aR)(h10:aQ κ s10 s.aU)(h11:aQ κ s11 s.Log):VS Tryz.prog κ 50 (mX s) [.g [.h s1 s.aA.Mem.aC.Bytes.length,.h s2 s.aA.Mem.aC.Class.length,.h s3 s.aA.Mem.aB.Global.length,.h s4 s.aA.Mem.aB.bA.length,I s.aA.aD.aJ,.h s5 s.aA.aD.aM.length,.h s6 s.aA.aH.length,.h s7 s.aA.bO.length,.h s8 s.Cells.length,.h s9 s.aR.length,.h s10 s.aU.length,.h s11 s.Log.length,I s.aK]] [] [] (fun r (y:AC×AC×AC×AC×AC×AC×AC×AC×AC×AC×AC)=>.g [.h y.1 r.aA.Mem.aC.Bytes.length,.h y.2.1 r.aA.Mem.aC.Class.length,.h y.2.2.1 r.aA.Mem.aB.Global.length,.h y.2.2.2.1 r.aA.Mem.aB.bA.length,I r.aA.aD.aJ,.h y.2.2.2.2.1 r.aA.aD.aM.length,.h y.2.2.2.2.2.1 r.aA.aH.length,.h y.2.2.2.2.2.2.1 r.aA.bO.length,.h y.2.2.2.2.2.2.2.1 r.Cells.length,.h y.2.2.2.2.2.2.2.2.1 r.aR.length,.h y.2.2.2.2.2.2.2.2.2.1 r.aU.length,.h y.2.2.2.2.2.2.2.2.2.2 r.Log.length,I r.aK]) (fun r y=>[ow y.1 r.aA.Mem.aC.Bytes,ow y.2.1 r.aA.Mem.aC.Class,ow y.2.2.1 r.aA.Mem.aB.Global,ow y.2.2.2.1 r.aA.Mem.aB.bA,ow y.2.2.2.2.1 r.aA.aD.aM,ow y.2.2.2.2.2.1 r.aA.aH,ow y.2.2.2.2.2.2.1 r.aA.bO,ow y.2.2.2.2.2.2.2.1 r.Cells,ow y.2.2.2.2.2.2.2.2.1 r.aR,ow y.2.2.2.2.2.2.2.2.2.1 r.aU,ow y.2.2.2.2.2.2.2.2.2.2 r.Log]):=
 bM tok Tryz.call50 Tryz.func50 Tryz.results50 rfl rfl<|jP aL [0] rfl<|c1 rfl (fun h=>aMY (h.a h1) (h.a h2) (h.a h3) (h.a h4) (h.a h5) (h.a h6) (h.a h7)) fun x1 s12=>c1 rfl (fun h=>nH (h.a h8)) fun x2 s13=>c1 rfl (fun h=>aHW (h.a h9)) fun x3 s14=>c1 rfl (fun h=>cY (h.a h10)) fun x4 s15=>c1 rfl (fun h=>aJF (h.a h11)) fun x5 s16=>gL (s12.1,s12.2.1,s12.2.2.1,s12.2.2.2.1,s12.2.2.2.2.1,s12.2.2.2.2.2.1,s12.2.2.2.2.2.2,s13,s14,s15,s16) [2,3,4,5,6,7,8,9,10,11,12] rfl rfl
theorem aB1{s:List Int}{f:(Int→Option Bool)}{s1:AC}{g_f:FuncId}{cap_f:List Value}(h1:aQ κ s1 s)(h_f:Fu1 Tryz.prog κ (cI:UA Int) .b g_f cap_f f):V0 Tryz.prog κ 201 (JK s f) [.h s1 s.length,.k (.func (.func g_f) #[] cap_f.toArray)] I:=
 bM tok Tryz.call201 Tryz.func201 Tryz.results201 rfl rfl<|CH 8 [0,1,7] [] Out.brk [] [] rfl rfl (fun hF1 x2 hr1=>aV [9] rfl rfl (UT rfl h1 rfl fun x3=>fun hG1=>fa1 h_f x3 () rfl rfl rfl rfl rfl trivial hG1 fun x4 _ hG1=>wi hG1<|aV [16] rfl rfl (eX hr1 hF1<|aY rfl rfl)<|pX [] rfl)<|jE [] rfl)<|aY rfl rfl
theorem lD{s:List Int}{f:(Int→Option Bool)}{s1:AC}{g_f:FuncId}{cap_f:List Value}(h1:aQ κ s1 s)(h_f:Fu1 Tryz.prog κ (cI:UA Int) .b g_f cap_f f):V0 Tryz.prog κ 116 (iW s f) [.h s1 s.length,.k (.func (.func g_f) #[] cap_f.toArray)] .b:=
 bM tok Tryz.call116 Tryz.func116 Tryz.results116 rfl rfl<|c0 rfl (fun h=>aB1 (h.a h1) (h.u1 h_f)) fun x1=>aY rfl rfl
theorem fJ{n low high:Int}:V0 Tryz.prog κ 115 (fO n low high) [I n,I low,I high] .b:=
 bM tok Tryz.call115 Tryz.func115 Tryz.results115 rfl rfl<|fS 0 0 E6 [] 6 [] rfl (fN [9,10] rfl rfl (cR [] rfl rfl)<|cR [] rfl rfl) fun x1=>aY rfl rfl
theorem aRK{x:Int}:V0 Tryz.prog κ 388 (aEE x) [I x] .b:=
 bM tok Tryz.call388 Tryz.func388 Tryz.results388 rfl rfl<|c0 rfl (fun _=>fJ) fun x1=>aY rfl rfl
theorem aK4{x:Int}:V0 Tryz.prog κ 387 (PR x) [I x] .b:=
 bM tok Tryz.call387 Tryz.func387 Tryz.results387 rfl rfl<|c0 rfl (fun _=>aRK) fun x1=>aY rfl rfl
theorem aPK{b:List Int}{s1:AC}(h1:aQ κ s1 b):V0 Tryz.prog κ 368 (VE b) [.h s1 b.length] .b:=
 bM tok Tryz.call368 Tryz.func368 Tryz.results368 rfl rfl<|fS 0 0 M9 [] 2 [] rfl (fN [5,6] rfl rfl (c0 rfl (fun h=>lD (h.a h1) (aDP Tryz.call387 fun _=>aK4)) fun x2=>cR [] rfl rfl)<|cR [] rfl rfl) fun x1=>aY rfl rfl
theorem aMZ{c:Int}:V0 Tryz.prog κ 369 (SZ c) [I c] .b:=
 bM tok Tryz.call369 Tryz.func369 Tryz.results369 rfl rfl<|c0 rfl (fun _=>fJ) fun x1=>aY rfl rfl
theorem aG0{h:aC}{s1 s2:AC}(h1:aQ κ s1 h.Bytes)(h2:aQ κ s2 h.Class):V0 Tryz.prog κ 329 (TP h) [.g [.h s1 h.Bytes.length,.h s2 h.Class.length]] .b:=
 bM tok Tryz.call329 Tryz.func329 Tryz.results329 rfl rfl<|fS 0 1 E7 [] 2 [] rfl (fN [6,7] rfl rfl (c0 rfl (fun h=>aPK (h.a h1)) fun x2=>fN [10,11,12] rfl rfl (fN [16,17,18] rfl rfl (c0 rfl (fun h=>lD (h.a h2) (aDP Tryz.call369 fun _=>aMZ)) fun x3=>cR [] rfl rfl)<|cR [] rfl rfl)<|cR [] rfl rfl)<|cR [] rfl rfl) fun x1=>aY rfl rfl
theorem QK{b:List Int}{at_ width:Int}{s1:AC}(h1:aQ κ s1 b):V0 Tryz.prog κ 335 (z5 b at_ width) [.h s1 b.length,I at_,I width] I:=
 bM tok Tryz.call335 Tryz.func335 Tryz.results335 rfl rfl<|fun hF=>aWN rfl rfl rfl rfl rfl h1 rfl rfl rfl hF fun hF s2 h2=>wi hF<|mQ () [15,16] (fun(p:Int×Int) (_:Unit)=>[(7,I p.1),(17,I p.2)]) [] [] (fun p _=>[]) id [] (fun(x5:Int) (_:Unit)=>[(7,I x5)]) [] (fun x5 _=>[]) rfl rfl (fun hF1 ⟨x3,x4⟩ _ hr1=>aV [18] rfl rfl (UT rfl h2 rfl fun x6=>pX [] rfl)<|jE [] rfl) fun x5 _=>aY rfl rfl
theorem aM0{x:Int}:V0 Tryz.prog κ 389 (S1 x) [I x] .b:=
 bM tok Tryz.call389 Tryz.func389 Tryz.results389 rfl rfl<|aY rfl rfl
theorem aG1{b:List Int}{s1:AC}(h1:aQ κ s1 b):V0 Tryz.prog κ 370 (TQ b) [.h s1 b.length] .b:=
 bM tok Tryz.call370 Tryz.func370 Tryz.results370 rfl rfl<|c0 rfl (fun h=>lD (h.a h1) (aDP Tryz.call389 fun _=>aM0)) fun x1=>aY rfl rfl
theorem BH{c:Int}:V0 Tryz.prog κ 374 (w5 c) [I c] .b:=
 bM tok Tryz.call374 Tryz.func374 Tryz.results374 rfl rfl<|c0 rfl (fun _=>fJ) fun x1=>aY rfl rfl
theorem ZP{c:Int}:V0 Tryz.prog κ 375 (OS c) [I c] I:=
 bM tok Tryz.call375 Tryz.func375 Tryz.results375 rfl rfl<|c0 rfl (fun _=>BH) fun x1=>aV [5] rfl rfl (aY rfl rfl)<|fun hF=>qba [I 8,I 16,I 40] Tryz.zeroValue341 Tryz.underlying341 Tryz.sizeOf3 rfl rfl rfl rfl rfl rfl<|qai (fun q:Int=>.int .i64 q) (fun q=>.i .i64 q) (l:=([8,16,40]:List Int)) Tryz.underlying341 Tryz.sizeOf3 Tryz.isAgg3 (fun _=>rfl) rfl rfl rfl rfl rfl rfl hF fun x2 _ hF=>wi hF<|aY rfl rfl
theorem UN{c:Int}:V0 Tryz.prog κ 372 (IN c) [I c] I:=
 bM tok Tryz.call372 Tryz.func372 Tryz.results372 rfl rfl<|c0 rfl (fun _=>BH) fun x1=>aV [5] rfl rfl (aY rfl rfl)<|c0 rfl (fun _=>ZP) fun x2=>aY rfl rfl
theorem FN{c:Int}:V0 Tryz.prog κ 371 (C9 c) [I c] I:=
 bM tok Tryz.call371 Tryz.func371 Tryz.results371 rfl rfl<|c0 rfl (fun _=>BH) fun x1=>aV [5] rfl rfl (aY rfl rfl)<|c0 rfl (fun _=>UN) fun x2=>fun hF=>a7L rfl rfl rfl rfl hF fun hF=>wi hF<|aY rfl rfl
theorem aRL{h:aC}{page:Int}{s1 s2:AC}(h1:aQ κ s1 h.Bytes)(h2:aQ κ s2 h.Class):V0 Tryz.prog κ 330 (YT h page) [.g [.h s1 h.Bytes.length,.h s2 h.Class.length],I page] .b:=
 bM tok Tryz.call330 Tryz.func330 Tryz.results330 rfl rfl<|jP aL [0] rfl<|UT rfl h2 rfl fun x1=>fun hF=>aWN rfl rfl rfl rfl rfl h1 rfl rfl rfl hF fun hF s3 h3=>wi hF<|aV [22] rfl rfl (c0 rfl (fun h=>aG1 (h.a h3)) fun x2=>aY rfl rfl)<|fS 0 2 (uO h page x1) [5,6] 49 [] rfl (jP aL [0,1] rfl<|UT rfl h3 rfl fun x10=>fN [28,29] rfl rfl (cR [] rfl rfl)<|UT rfl h3 rfl fun x11=>fN [34,35,36] rfl rfl (cR [] rfl rfl)<|UT rfl h3 rfl fun x12=>c0 rfl (fun _=>FN) fun x13=>fN [42,43,44] rfl rfl (cR [] rfl rfl)<|fun hF=>aWN rfl rfl rfl rfl rfl h3 rfl rfl rfl hF fun hF s4 h4=>wi hF<|c0 rfl (fun h=>aG1 (h.a h4)) fun x14=>cR [] rfl rfl) fun x3=>aV [49] rfl rfl (aY rfl rfl)<|c0 rfl (fun _=>FN) fun x4=>CH 52 [5,6,51] [] Out.brk [] [] rfl rfl (fun hF2 x6 hr2=>aV [53] rfl rfl (c0 rfl (fun _=>UN) fun x7=>c0 rfl (fun h=>QK (h.a h3)) fun x8=>c0 rfl (fun _=>fJ) fun x9=>aV [63] rfl rfl (eX hr2 hF2<|aY rfl rfl)<|pX [] rfl)<|jE [] rfl)<|aY rfl rfl
theorem aG2{h:aC}{s1 s2:AC}(h1:aQ κ s1 h.Bytes)(h2:aQ κ s2 h.Class):V0 Tryz.prog κ 270 (TR h) [.g [.h s1 h.Bytes.length,.h s2 h.Class.length]] .b:=
 bM tok Tryz.call270 Tryz.func270 Tryz.results270 rfl rfl<|c0 rfl (fun h=>aG0 (h.a h1) (h.a h2)) fun x1=>aV [6] rfl rfl (aY rfl rfl)<|CH 7 [1] [0] Out.brk [] [] rfl rfl (fun hF1 x3 hr1=>aV [8] rfl rfl (c0 rfl (fun h=>aRL (h.a h1) (h.a h2)) fun x4=>aV [13] rfl rfl (eX hr1 hF1<|aY rfl rfl)<|pX [0] rfl)<|jE [] rfl)<|aY rfl rfl
theorem TB{slot:Int}:V0 Tryz.prog κ 332 (AM slot) [I slot] .b:=
 bM tok Tryz.call332 Tryz.func332 Tryz.results332 rfl rfl<|c0 rfl (fun _=>fJ) fun x1=>aY rfl rfl
theorem QL{l:aB}{s1:AC}{s2:AC}(h_s1:aQ κ s1 l.Global)(h_s2:aQ κ s2 l.bA):V0 Tryz.prog κ 271 (w6 l) [.g [.h s1 l.Global.length,.h s2 l.bA.length]] .b:=
 fun r hF=>a7V Tryz.call271 fun hm vs hv=>by cases hv;exact Calls.mono (aO4 (hm (OZ [AC.v s1 l.Global.length] l.Global) h_s1) (hm (OZ [AC.v s2 l.bA.length] l.bA) h_s2) hF) fun _ _ ⟨v,h1,h2,h3⟩=>⟨v,h1,by rw [h2];rfl,h3⟩
theorem G3{slot c:Int}:V0 Tryz.prog κ 336 (JM slot c) [I slot,I c] I:=
 bM tok Tryz.call336 Tryz.func336 Tryz.results336 rfl rfl<|fS 0 0 (MC slot c) [0,1] 19 [] rfl (c0 rfl (fun _=>TB) fun x3=>fN [7,8] rfl rfl (cR [] rfl rfl)<|c0 rfl (fun _=>BH) fun x4=>fN [11,12,13] rfl rfl (cR [] rfl rfl)<|c0 rfl (fun _=>FN) fun x5=>cR [] rfl rfl) fun x1=>aV [19] rfl rfl (aY rfl rfl)<|c0 rfl (fun _=>UN) fun x2=>aY rfl rfl
theorem JY{h:aC}{slot:Int}{s1 s2:AC}(h1:aQ κ s1 h.Bytes)(h2:aQ κ s2 h.Class):V0 Tryz.prog κ 304 (DA h slot) [.g [.h s1 h.Bytes.length,.h s2 h.Class.length],I slot] I:=
 bM tok Tryz.call304 Tryz.func304 Tryz.results304 rfl rfl<|fS 0 1 (NB h slot) [1,2] 18 [0] rfl (c0 rfl (fun _=>TB) fun x3=>fN [7,8] rfl rfl (cR [0] rfl rfl)<|UT rfl h2 rfl fun x4=>c0 rfl (fun _=>G3) fun x5=>cR [0] rfl rfl) fun x1=>aV [18] rfl rfl (aY rfl rfl)<|UT rfl h2 rfl fun x2=>aY rfl rfl
theorem JZ{h:aC}{slot:Int}{s1 s2:AC}(h1:aQ κ s1 h.Bytes)(h2:aQ κ s2 h.Class):V0 Tryz.prog κ 334 (GM h slot) [.g [.h s1 h.Bytes.length,.h s2 h.Class.length],I slot] I:=
 bM tok Tryz.call334 Tryz.func334 Tryz.results334 rfl rfl<|c0 rfl (fun h=>aG0 (h.a h1) (h.a h2)) fun x1=>aV [7] rfl rfl (aY rfl rfl)<|c0 rfl (fun h=>JY (h.a h1) (h.a h2)) fun x2=>aY rfl rfl
theorem VU{h:aC}{slot:Int}{s1 s2:AC}(h1:aQ κ s1 h.Bytes)(h2:aQ κ s2 h.Class):V0 Tryz.prog κ 278 (NZ h slot) [.g [.h s1 h.Bytes.length,.h s2 h.Class.length],I slot] I:=
 bM tok Tryz.call278 Tryz.func278 Tryz.results278 rfl rfl<|c0 rfl (fun h=>JZ (h.a h1) (h.a h2)) fun x1=>aV [10] rfl rfl (aY rfl rfl)<|jP aL [0] rfl<|c0 rfl (fun _=>G3) fun x2=>c0 rfl (fun h=>QK (h.a h1)) fun x3=>aY rfl rfl
theorem aDD{h:aC}{s:aG}{c:Int}{s1 s2:AC}{s3:AC}(h1:aQ κ s1 h.Bytes)(h2:aQ κ s2 h.Class)(h3:aQ κ s3 s.bB):V0 Tryz.prog κ 272 (MD h s c) [.g [.h s1 h.Bytes.length,.h s2 h.Class.length],.g [.h s3 s.bB.length],I c] .b:=
 bM tok Tryz.call272 Tryz.func272 Tryz.results272 rfl rfl<|CH 12 [2,3,10,11] [0] Out.brk [] [] rfl rfl (fun hF1 x2 hr1=>aV [13] rfl rfl (UT rfl h3 rfl fun x3=>fS 0 3 (KW x2) [2,3,10,11,12] 26 [0] rfl (c0 rfl (fun h=>JY (h.a h1) (h.a h2)) fun x5=>fN [20,21] rfl rfl (cR [0] rfl rfl)<|c0 rfl (fun h=>VU (h.a h1) (h.a h2)) fun x6=>cR [0] rfl rfl) fun x4=>aV [26] rfl rfl (eX hr1 hF1<|aY rfl rfl)<|pX [0] rfl)<|jE [] rfl)<|aY rfl rfl
theorem K8{m:Mem}{s1 s2 s3 s4:AC}(h1:aQ κ s1 m.aC.Bytes)(h2:aQ κ s2 m.aC.Class)(h3:aQ κ s3 m.aB.Global)(h4:aQ κ s4 m.aB.bA):V0 Tryz.prog κ 188 (GN m) [.g [.h s1 m.aC.Bytes.length,.h s2 m.aC.Class.length,.h s3 m.aB.Global.length,.h s4 m.aB.bA.length]] .b:=
 bM tok Tryz.call188 Tryz.func188 Tryz.results188 rfl rfl<|fS 0 1 (S2 m) [1] 16 [0] rfl (c0 rfl (fun h=>aG2 (h.a h1) (h.a h2)) fun x10=>fN [10,11] rfl rfl (cR [0] rfl rfl)<|c0 rfl (fun h=>QL (h.a h3) (h.a h4)) fun x11=>cR [0] rfl rfl) fun x1=>aV [16] rfl rfl (aY rfl rfl)<|CH 21 [1,19,20] [0] Out.brk [1] [0] rfl rfl (fun hF2 x3 hr2=>aV [22] rfl rfl (eG qR rfl h3 rfl fun x8 s6 h6=>c0 rfl (fun h=>aDD (h.a h1) (h.a h2) (h.a h6)) fun x9=>aV [31] rfl rfl (eX hr2 hF2<|aY rfl rfl)<|pX [0] rfl)<|jE [0] rfl)<|CH 37 [1,35,36] [0] Out.brk [] [] rfl rfl (fun hF3 x5 hr3=>aV [38] rfl rfl (eG qR rfl h4 rfl fun x6 s5 h5=>c0 rfl (fun h=>aDD (h.a h1) (h.a h2) (h.a h5)) fun x7=>aV [48] rfl rfl (eX hr3 hF3<|aY rfl rfl)<|pX [0] rfl)<|jE [] rfl)<|aY rfl rfl
theorem aB2{s:List cQ}{f:(cQ→Option Bool)}{s1:AC}{g_f:FuncId}{cap_f:List Value}(h1:aQ κ s1 s)(h_f:Fu1 Tryz.prog κ (DY:UA cQ) .b g_f cap_f f):V0 Tryz.prog κ 333 (JN s f) [.h s1 s.length,.k (.func (.func g_f) #[] cap_f.toArray)] I:=
 bM tok Tryz.call333 Tryz.func333 Tryz.results333 rfl rfl<|CH 8 [0,1,7] [] Out.brk [] [] rfl rfl (fun hF1 x2 hr1=>aV [9] rfl rfl (eG DY rfl h1 rfl fun x3 _ _=>fun hG1=>fa1 h_f x3 () rfl rfl rfl rfl rfl trivial hG1 fun x4 _ hG1=>wi hG1<|aV [16] rfl rfl (eX hr1 hF1<|aY rfl rfl)<|pX [] rfl)<|jE [] rfl)<|aY rfl rfl
theorem X2{s:List cQ}{f:(cQ→Option Bool)}{s1:AC}{g_f:FuncId}{cap_f:List Value}(h1:aQ κ s1 s)(h_f:Fu1 Tryz.prog κ (DY:UA cQ) .b g_f cap_f f):V0 Tryz.prog κ 273 (yG s f) [.h s1 s.length,.k (.func (.func g_f) #[] cap_f.toArray)] .b:=
 bM tok Tryz.call273 Tryz.func273 Tryz.results273 rfl rfl<|c0 rfl (fun h=>aB2 (h.a h1) (h.u1 h_f)) fun x1=>aY rfl rfl
theorem aK5{p:cQ}{k0:aD}{s1:AC}{b0:Nat×Nat}(h1:aQ κ s1 k0.aM):VS Tryz.prog κ 274 (JO p k0) [.g [.b p.On,I p.aJ,.b p.jD,I p.Seen],.p 0 0] [b0] [.ro 0 [I k0.aJ,.h s1 k0.aM.length]] (fun r (_:Unit)=>.b r) (fun _ _=>[]):=
 bM tok Tryz.call274 Tryz.func274 Tryz.results274 rfl rfl<|fS 0 2 yH [] 3 [] rfl (c0 rfl (fun _=>fJ) fun x2=>fN [9,10] rfl rfl (cR [] rfl rfl)<|c0 rfl (fun _=>fJ) fun x3=>fN [14,15,16] rfl rfl (cR [] rfl rfl)<|fN [19,20] rfl rfl (fun hF=>neS Tryz.eqGuardType168 Tryz.stoodInHeld168 Tryz.underlying168 (aLT 9997 p (⟨false,0,false,0⟩:cQ)) rfl rfl rfl rfl rfl rfl<|wi hF<|cR [] rfl rfl)<|cR [] rfl rfl) fun x1=>aY rfl rfl
theorem uR{c:aD}{s1:AC}(h1:aQ κ s1 c.aM):V0 Tryz.prog κ 189 (tI c) [.g [I c.aJ,.h s1 c.aM.length]] .b:=
 bM tok Tryz.call189 Tryz.func189 Tryz.results189 rfl rfl<|fS 0 1 HW [] 2 [] rfl (c0 rfl (fun _=>fJ) fun x2=>fN [5,6] rfl rfl (fN [10,11,12] rfl rfl (fun hF=>mf [0] rfl rfl rfl<|wi hF<|aHO [0] rfl rfl rfl rfl (fun h=>fun hB=>X2 (h.a h1) (aHN (cs:=[(0,[I c.aJ,.h s1 c.aM.length])]) Tryz.call274 hB rfl fun hk _=>aK5 (rk hk (h.a h1)))) fun x3=>cR [] rfl rfl)<|cR [] rfl rfl)<|cR [] rfl rfl) fun x1=>aY rfl rfl
theorem C0{h:Int}:V0 Tryz.prog κ 202 (rU h) [I h] .b:=
 bM tok Tryz.call202 Tryz.func202 Tryz.results202 rfl rfl<|fS 0 0 AY [] 2 [] rfl (c0 rfl (fun _=>fJ) fun x2=>fN [4,5] rfl rfl (cR [] rfl rfl)<|cR [] rfl rfl) fun x1=>aY rfl rfl
theorem xQ{l:List aP}{s1:AC}(h_s1:aQ κ s1 l):V0 Tryz.prog κ 190 (rZ l) [.h s1 l.length] .b:=
 fun r hF=>a7V Tryz.call190 fun hm vs hv=>by cases hv;exact Calls.mono (aO5 (hm (OZ [AC.v s1 l.length] l) h_s1) hF) fun _ _ ⟨v,h1,h2,h3⟩=>⟨v,h1,by rw [h2];rfl,h3⟩
theorem qH{h:Int}:V0 Tryz.prog κ 118 (kU h) [I h] .b:=
 bM tok Tryz.call118 Tryz.func118 Tryz.results118 rfl rfl<|fS 0 0 xO [] 2 [] rfl (fN [4,5] rfl rfl (cR [] rfl rfl)<|c0 rfl (fun _=>C0) fun x2=>cR [] rfl rfl) fun x1=>aY rfl rfl
theorem aPL{h:Int}:V0 Tryz.prog κ 275 (VF h) [I h] .b:=
 bM tok Tryz.call275 Tryz.func275 Tryz.results275 rfl rfl<|c0 rfl (fun _=>qH) fun x1=>aY rfl rfl
theorem G4{z:List Int}{s1:AC}(h1:aQ κ s1 z):V0 Tryz.prog κ 191 (DU z) [.h s1 z.length] .b:=
 bM tok Tryz.call191 Tryz.func191 Tryz.results191 rfl rfl<|fS 0 0 S3 [] 2 [] rfl (fN [5,6] rfl rfl (c0 rfl (fun h=>lD (h.a h1) (aDP Tryz.call275 fun _=>aPL)) fun x2=>cR [] rfl rfl)<|cR [] rfl rfl) fun x1=>aY rfl rfl
theorem ZQ{s:List aP}{f:(aP→Option Bool)}{s1:AC}{g_f:FuncId}{cap_f:List Value}(h1:aQ κ s1 s)(h_f:Fu1 Tryz.prog κ (sU:UA aP) .b g_f cap_f f):V0 Tryz.prog κ 276 (GO s f) [.h s1 s.length,.k (.func (.func g_f) #[] cap_f.toArray)] I:=
 bM tok Tryz.call276 Tryz.func276 Tryz.results276 rfl rfl<|CH 8 [0,1,7] [] Out.brk [] [] rfl rfl (fun hF1 x2 hr1=>aV [9] rfl rfl (eG sU rfl h1 rfl fun x3 s2 h2=>fun hG1=>fa1 h_f x3 s2 rfl rfl rfl rfl rfl h2 hG1 fun x4 _ hG1=>wi hG1<|aV [16] rfl rfl (eX hr1 hF1<|aY rfl rfl)<|pX [] rfl)<|jE [] rfl)<|aY rfl rfl
theorem nM{s:List aP}{f:(aP→Option Bool)}{s1:AC}{g_f:FuncId}{cap_f:List Value}(h1:aQ κ s1 s)(h_f:Fu1 Tryz.prog κ (sU:UA aP) .b g_f cap_f f):V0 Tryz.prog κ 192 (j4 s f) [.h s1 s.length,.k (.func (.func g_f) #[] cap_f.toArray)] .b:=
 bM tok Tryz.call192 Tryz.func192 Tryz.results192 rfl rfl<|c0 rfl (fun h=>ZQ (h.a h1) (h.u1 h_f)) fun x1=>aY rfl rfl
theorem aAQ{s:List bP}{f:(bP→Option Bool)}{s1:AC}{g_f:FuncId}{cap_f:List Value}(h1:aQ κ s1 s)(h_f:Fu1 Tryz.prog κ (DF:UA bP) .b g_f cap_f f):V0 Tryz.prog κ 277 (I1 s f) [.h s1 s.length,.k (.func (.func g_f) #[] cap_f.toArray)] I:=
 bM tok Tryz.call277 Tryz.func277 Tryz.results277 rfl rfl<|CH 8 [0,1,7] [] Out.brk [] [] rfl rfl (fun hF1 x2 hr1=>aV [9] rfl rfl (eG DF rfl h1 rfl fun x3 _ _=>fun hG1=>fa1 h_f x3 () rfl rfl rfl rfl rfl trivial hG1 fun x4 _ hG1=>wi hG1<|aV [16] rfl rfl (eX hr1 hF1<|aY rfl rfl)<|pX [] rfl)<|jE [] rfl)<|aY rfl rfl
theorem oG{s:List bP}{f:(bP→Option Bool)}{s1:AC}{g_f:FuncId}{cap_f:List Value}(h1:aQ κ s1 s)(h_f:Fu1 Tryz.prog κ (DF:UA bP) .b g_f cap_f f):V0 Tryz.prog κ 194 (kO s f) [.h s1 s.length,.k (.func (.func g_f) #[] cap_f.toArray)] .b:=
 bM tok Tryz.call194 Tryz.func194 Tryz.results194 rfl rfl<|c0 rfl (fun h=>aAQ (h.a h1) (h.u1 h_f)) fun x1=>aY rfl rfl
theorem WQ{s:List Int}{v:Int}{s1:AC}(h1:aQ κ s1 s):V0 Tryz.prog κ 384 (AZ s v) [.h s1 s.length,I v] I:=
 bM tok Tryz.call384 Tryz.func384 Tryz.results384 rfl rfl<|CH 8 [0,1,7] [] Out.brk [] [] rfl rfl (fun hF1 x2 hr1=>aV [9] rfl rfl (UT rfl h1 rfl fun x3=>aV [16] rfl rfl (eX hr1 hF1<|aY rfl rfl)<|pX [] rfl)<|jE [] rfl)<|aY rfl rfl
theorem aDR{s:List Int}{v:Int}{s1:AC}(h1:aQ κ s1 s):V0 Tryz.prog κ 360 (EK s v) [.h s1 s.length,I v] .b:=
 bM tok Tryz.call360 Tryz.func360 Tryz.results360 rfl rfl<|c0 rfl (fun h=>WQ (h.a h1)) fun x1=>aY rfl rfl
theorem aDE{s:aG}{k0:Int}{s1:AC}{b0:Nat×Nat}(h1:aQ κ s1 s.bB):VS Tryz.prog κ 359 (DW s k0) [.g [.h s1 s.bB.length],.p 0 0] [b0] [.ro 0 [I k0]] (fun r (_:Unit)=>.b r) (fun _ _=>[]):=
 bM tok Tryz.call359 Tryz.func359 Tryz.results359 rfl rfl<|c0 rfl (fun h=>aDR (h.a h1)) fun x1=>aY rfl rfl
theorem ZR{s:List aG}{f:(aG→Option Bool)}{s1:AC}{g_f:FuncId}{cap_f:List Value}(h1:aQ κ s1 s)(h_f:Fu1 Tryz.prog κ (qR:UA aG) .b g_f cap_f f):V0 Tryz.prog κ 385 (GP s f) [.h s1 s.length,.k (.func (.func g_f) #[] cap_f.toArray)] I:=
 bM tok Tryz.call385 Tryz.func385 Tryz.results385 rfl rfl<|CH 8 [0,1,7] [] Out.brk [] [] rfl rfl (fun hF1 x2 hr1=>aV [9] rfl rfl (eG qR rfl h1 rfl fun x3 s2 h2=>fun hG1=>fa1 h_f x3 s2 rfl rfl rfl rfl rfl h2 hG1 fun x4 _ hG1=>wi hG1<|aV [16] rfl rfl (eX hr1 hF1<|aY rfl rfl)<|pX [] rfl)<|jE [] rfl)<|aY rfl rfl
theorem I6{s:List aG}{f:(aG→Option Bool)}{s1:AC}{g_f:FuncId}{cap_f:List Value}(h1:aQ κ s1 s)(h_f:Fu1 Tryz.prog κ (qR:UA aG) .b g_f cap_f f):V0 Tryz.prog κ 361 (sH s f) [.h s1 s.length,.k (.func (.func g_f) #[] cap_f.toArray)] .b:=
 bM tok Tryz.call361 Tryz.func361 Tryz.results361 rfl rfl<|c0 rfl (fun h=>ZR (h.a h1) (h.u1 h_f)) fun x1=>aY rfl rfl
theorem aG3{l:aB}{slot:Int}{s1 s2:AC}(h1:aQ κ s1 l.Global)(h2:aQ κ s2 l.bA):V0 Tryz.prog κ 305 (TS l slot) [.g [.h s1 l.Global.length,.h s2 l.bA.length],I slot] .b:=
 bM tok Tryz.call305 Tryz.func305 Tryz.results305 rfl rfl<|fun hF=>mf [1] rfl rfl rfl<|wi hF<|fS 0 2 PW [] 4 [] rfl (aHO [1] rfl rfl rfl rfl (fun h=>fun hB=>I6 (h.a h1) (aHN (cs:=[(1,[I slot])]) Tryz.call359 hB rfl fun _ hy=>aDE hy)) fun x2=>fN [10,11] rfl rfl (cR [] rfl rfl)<|aHO [1] rfl rfl rfl rfl (fun h=>fun hB=>I6 (h.a h2) (aHN (cs:=[(1,[I slot])]) Tryz.call359 hB rfl fun _ hy=>aDE hy)) fun x3=>cR [] rfl rfl) fun x1=>aY rfl rfl
theorem aEQ{m:Mem}{slot:Int}{s1 s2 s3 s4:AC}(h1:aQ κ s1 m.aC.Bytes)(h2:aQ κ s2 m.aC.Class)(h3:aQ κ s3 m.aB.Global)(h4:aQ κ s4 m.aB.bA):V0 Tryz.prog κ 239 (PX m slot) [.g [.h s1 m.aC.Bytes.length,.h s2 m.aC.Class.length,.h s3 m.aB.Global.length,.h s4 m.aB.bA.length],I slot] I:=
 bM tok Tryz.call239 Tryz.func239 Tryz.results239 rfl rfl<|c0 rfl (fun h=>JY (h.a h1) (h.a h2)) fun x1=>aV [5,10] rfl rfl (aY rfl rfl)<|c0 rfl (fun h=>aG3 (h.a h3) (h.a h4)) fun x2=>aV [11,15] rfl rfl (aY rfl rfl)<|c0 rfl (fun h=>VU (h.a h1) (h.a h2)) fun x3=>aV [16,21] rfl rfl (aY rfl rfl)<|aY rfl rfl
theorem DZ{m:Mem}{h:Int}{s1 s2 s3 s4:AC}(h1:aQ κ s1 m.aC.Bytes)(h2:aQ κ s2 m.aC.Class)(h3:aQ κ s3 m.aB.Global)(h4:aQ κ s4 m.aB.bA):V0 Tryz.prog κ 196 (AN m h) [.g [.h s1 m.aC.Bytes.length,.h s2 m.aC.Class.length,.h s3 m.aB.Global.length,.h s4 m.aB.bA.length],I h] .b:=
 bM tok Tryz.call196 Tryz.func196 Tryz.results196 rfl rfl<|fS 0 1 JQ [] 4 [] rfl (c0 rfl (fun _=>C0) fun x2=>fN [6,7] rfl rfl (c0 rfl (fun h=>aEQ (h.a h1) (h.a h2) (h.a h3) (h.a h4)) fun x3=>fN [12,13,14] rfl rfl (c0 rfl (fun h=>VU (h.a h1) (h.a h2)) fun x4=>cR [] rfl rfl)<|cR [] rfl rfl)<|cR [] rfl rfl) fun x1=>aY rfl rfl
theorem ZS{s:List Queue}{f:(Queue→Option Bool)}{s1:AC}{g_f:FuncId}{cap_f:List Value}(h1:aQ κ s1 s)(h_f:Fu1 Tryz.prog κ (FH:UA Queue) .b g_f cap_f f):V0 Tryz.prog κ 227 (GQ s f) [.h s1 s.length,.k (.func (.func g_f) #[] cap_f.toArray)] I:=
 bM tok Tryz.call227 Tryz.func227 Tryz.results227 rfl rfl<|CH 8 [0,1,7] [] Out.brk [] [] rfl rfl (fun hF1 x2 hr1=>aV [9] rfl rfl (eG FH rfl h1 rfl fun x3 s2 h2=>fun hG1=>fa1 h_f x3 s2 rfl rfl rfl rfl rfl h2 hG1 fun x4 _ hG1=>wi hG1<|aV [16] rfl rfl (eX hr1 hF1<|aY rfl rfl)<|pX [] rfl)<|jE [] rfl)<|aY rfl rfl
theorem AB{s:List Queue}{f:(Queue→Option Bool)}{s1:AC}{g_f:FuncId}{cap_f:List Value}(h1:aQ κ s1 s)(h_f:Fu1 Tryz.prog κ (FH:UA Queue) .b g_f cap_f f):V0 Tryz.prog κ 142 (pM s f) [.h s1 s.length,.k (.func (.func g_f) #[] cap_f.toArray)] .b:=
 bM tok Tryz.call142 Tryz.func142 Tryz.results142 rfl rfl<|c0 rfl (fun h=>ZS (h.a h1) (h.u1 h_f)) fun x1=>aY rfl rfl
theorem aDS{s:List cM}{f:(cM→Option Bool)}{s1:AC}{g_f:FuncId}{cap_f:List Value}(h1:aQ κ s1 s)(h_f:Fu1 Tryz.prog κ (RG:UA cM) .b g_f cap_f f):V0 Tryz.prog κ 279 (LO s f) [.h s1 s.length,.k (.func (.func g_f) #[] cap_f.toArray)] I:=
 bM tok Tryz.call279 Tryz.func279 Tryz.results279 rfl rfl<|CH 8 [0,1,7] [] Out.brk [] [] rfl rfl (fun hF1 x2 hr1=>aV [9] rfl rfl (eG RG rfl h1 rfl fun x3 _ _=>fun hG1=>fa1 h_f x3 () rfl rfl rfl rfl rfl trivial hG1 fun x4 _ hG1=>wi hG1<|aV [16] rfl rfl (eX hr1 hF1<|aY rfl rfl)<|pX [] rfl)<|jE [] rfl)<|aY rfl rfl
theorem ZT{s:List cM}{f:(cM→Option Bool)}{s1:AC}{g_f:FuncId}{cap_f:List Value}(h1:aQ κ s1 s)(h_f:Fu1 Tryz.prog κ (RG:UA cM) .b g_f cap_f f):V0 Tryz.prog κ 198 (z8 s f) [.h s1 s.length,.k (.func (.func g_f) #[] cap_f.toArray)] .b:=
 bM tok Tryz.call198 Tryz.func198 Tryz.results198 rfl rfl<|c0 rfl (fun h=>aDS (h.a h1) (h.u1 h_f)) fun x1=>aY rfl rfl
theorem TX{o_:cM}:V0 Tryz.prog κ 200 (KX o_) [.g [I o_.Kind,I o_.Cell,I o_.gD,I o_.eY]] .b:=
 bM tok Tryz.call200 Tryz.func200 Tryz.results200 rfl rfl<|fS 0 1 (DB o_) [1] 3 [0] rfl (aVA [6,7] rfl rfl (fun hb8=>cR [0] rfl rfl) fun hb8=>aVA [10,11,12] rfl rfl (fun hb9=>cR [0] rfl rfl) fun hb9=>aVA [15,16,17] rfl rfl (fun hb10=>cR [0] rfl rfl) fun hb10=>cR [0] rfl rfl) fun x1=>c0 rfl (fun _=>fJ) fun x2=>aU9 [22,26] rfl rfl (fun hb1=>aY rfl rfl) fun hb1=>fS 0 1 (PZ o_) [1] 27 [0] rfl (aVA [3,28,29] rfl rfl (fun hb6=>c0 rfl (fun _=>fJ) fun x8=>aVA [33,34,35] rfl rfl (fun hb7=>cR [0] rfl rfl) fun hb7=>cR [0] rfl rfl) fun hb6=>cR [0] rfl rfl) fun x3=>aU9 [27] rfl rfl (fun hb2=>aY rfl rfl) fun hb2=>aU9 [44,47] rfl rfl (fun hb3=>fS 0 1 VG [] 2 [] rfl (c0 rfl (fun _=>fJ) fun x5=>aVA [50,51] rfl rfl (fun hb4=>c0 rfl (fun _=>fJ) fun x6=>cR [] rfl rfl) fun hb4=>cR [] rfl rfl) fun x4=>aY rfl rfl) fun hb3=>fS 0 1 VH [] 2 [] rfl (aVA [58,59] rfl rfl (fun hb5=>cR [] rfl rfl) fun hb5=>cR [] rfl rfl) fun x7=>aY rfl rfl
theorem aJG{o_:cM}:V0 Tryz.prog κ 199 (NF o_) [.g [I o_.Kind,I o_.Cell,I o_.gD,I o_.eY]] .b:=
 bM tok Tryz.call199 Tryz.func199 Tryz.results199 rfl rfl<|c0 rfl (fun _=>TX) fun x1=>aY rfl rfl
theorem aM1{q:Queue}{s1:AC}(h1:aQ κ s1 q.kJ):V0 Tryz.prog κ 197 (S4 q) [.g [.h s1 q.kJ.length]] .b:=
 bM tok Tryz.call197 Tryz.func197 Tryz.results197 rfl rfl<|fS 0 1 KY [] 2 [] rfl (fN [6,7] rfl rfl (cR [] rfl rfl)<|c0 rfl (fun h=>ZT (h.a h1) (aDP Tryz.call199 fun _=>aJG)) fun x2=>cR [] rfl rfl) fun x1=>aY rfl rfl
theorem D0{todo:List Queue}{s1:AC}(h1:aQ κ s1 todo):V0 Tryz.prog κ 114 (AO todo) [.h s1 todo.length] .b:=
 bM tok Tryz.call114 Tryz.func114 Tryz.results114 rfl rfl<|fS 0 0 P0 [] 2 [] rfl (fN [5,6] rfl rfl (c0 rfl (fun h=>AB (h.a h1) (aDP Tryz.call197 fun hy=>aM1 hy)) fun x2=>cR [] rfl rfl)<|cR [] rfl rfl) fun x1=>aY rfl rfl
theorem mA{w_:Int}:V0 Tryz.prog κ 52 (lW w_) [I w_] .b:=
 bM tok Tryz.call52 Tryz.func52 Tryz.results52 rfl rfl<|c0 rfl (fun _=>fJ) fun x1=>aY rfl rfl
theorem uS{s:aE}{kind w_ handle val code:Int}{s1 s2 s3 s4 s5 s6 s7 s8 s9 s10 s11:AC}{b0:Nat×Nat}:VS Tryz.prog κ 123 (jB s kind w_ handle val code) [.p 0 0,I kind,I w_,I handle,I val,I code] [b0] [.box 0 [.h s1 s.aA.Mem.aC.Bytes.length,.h s2 s.aA.Mem.aC.Class.length,.h s3 s.aA.Mem.aB.Global.length,.h s4 s.aA.Mem.aB.bA.length,I s.aA.aD.aJ,.h s5 s.aA.aD.aM.length,.h s6 s.aA.aH.length,.h s7 s.aA.bO.length,.h s8 s.Cells.length,.h s9 s.aR.length,.h s10 s.aU.length,.h s11 s.Log.length,I s.aK],ow s1 (s.aA.Mem.aC.Bytes:List Int),ow s2 (s.aA.Mem.aC.Class:List Int),ow s3 (s.aA.Mem.aB.Global:List aG),ow s4 (s.aA.Mem.aB.bA:List aG),ow s5 (s.aA.aD.aM:List cQ),ow s6 (s.aA.aH:List aP),ow s7 (s.aA.bO:List Int),ow s8 (s.Cells:List Int),ow s9 (s.aR:List bG),ow s10 (s.aU:List Queue),ow s11 (s.Log:List Ev)] (fun(r:aE) (y:AC)=>.t []) (fun(r:aE) (y:AC)=>[.box 0 [.h s1 r.aA.Mem.aC.Bytes.length,.h s2 r.aA.Mem.aC.Class.length,.h s3 r.aA.Mem.aB.Global.length,.h s4 r.aA.Mem.aB.bA.length,I r.aA.aD.aJ,.h s5 r.aA.aD.aM.length,.h s6 r.aA.aH.length,.h s7 r.aA.bO.length,.h s8 r.Cells.length,.h s9 r.aR.length,.h s10 r.aU.length,.h y r.Log.length,I r.aK],ow s1 r.aA.Mem.aC.Bytes,ow s2 r.aA.Mem.aC.Class,ow s3 r.aA.Mem.aB.Global,ow s4 r.aA.Mem.aB.bA,ow s5 r.aA.aD.aM,ow s6 r.aA.aH,ow s7 r.aA.bO,ow s8 r.Cells,ow s9 r.aR,ow s10 r.aU,ow y r.Log]):=
 bM tok Tryz.call123 Tryz.func123 Tryz.results123 rfl rfl<|mP eO 9 rfl rfl rfl fun x1 h1 _ h2=>fun hF=>dT 1 h2 h1 rfl rfl rfl rfl rfl<|wi hF<|mH 0 3 (fun(_:Unit)=>kC s kind w_ handle val code x1) [0] (fun(_:Unit) (s12:AC)=>[]) [1,2,3,4,5,6,7,8,10] (fun _ s12=>[ow s9 (s.aR:List bG),ow s12 (s.Log++([(⟨kind,w_,x1.aK,x1.Op.Cell,handle,val,code⟩:Ev)]):List Ev),.box 0 [.h s1 s.aA.Mem.aC.Bytes.length,.h s2 s.aA.Mem.aC.Class.length,.h s3 s.aA.Mem.aB.Global.length,.h s4 s.aA.Mem.aB.bA.length,I s.aA.aD.aJ,.h s5 s.aA.aD.aM.length,.h s6 s.aA.aH.length,.h s7 s.aA.bO.length,.h s8 s.Cells.length,.h s9 s.aR.length,.h s10 s.aU.length,.h s12 (s.Log++([(⟨kind,w_,x1.aK,x1.Op.Cell,handle,val,code⟩:Ev)])).length,I s.aK]]) rfl (jP aL [14,15] rfl<|fun hF=>nd hF fun hA1 hF=>kS rfl rfl (ltN oEv [] ((⟨kind,w_,x1.aK,x1.Op.Cell,handle,val,code⟩:Ev)) () cS rfl rfl rfl rfl rfl rfl rfl rfl rfl rfl rfl rfl rfl fun s15=>have hq1:=rn hA1;ap 11 cS rfl rfl rfl rfl rfl rfl rfl (fun h=>(h.o 16 rfl)) rfl rfl hq1 fun hq1 s16=>sF rfl<|tZ eO 12 [] h1 () rfl rfl rfl rfl rfl rfl rfl<|wY (p:=()) s16 [17,11,0,1,2,3,4,5,6,7,8,10] hF rfl) (ltN oEv [] ((⟨kind,w_,x1.aK,x1.Op.Cell,handle,val,code⟩:Ev)) () cS rfl rfl rfl rfl rfl rfl rfl rfl rfl rfl rfl rfl rfl fun s17=>have hq2:=rn hA1;ap 11 cS rfl rfl rfl rfl rfl rfl rfl (fun h=>(h.o 16 rfl)) rfl rfl hq2 fun hq2 s18=>sF rfl<|tZ eO 12 [] h1 () rfl rfl rfl rfl rfl rfl rfl<|wY (p:=()) s18 [17,11,0,1,2,3,4,5,6,7,8,10] hF rfl)) fun _ s12=>Z4 s12 [2,3,4,5,6,7,8,9,10,0,11,1] rfl rfl
theorem aHX{s:List cM}{i j:Int}{s1:AC}:VS Tryz.prog κ 204 (KZ s i j) [.h s1 s.length,I i,I j] [] [ow s1 (s:List cM)] (fun(r:(List cM)) (y:AC)=>.h y r.length) (fun(r:(List cM)) (y:AC)=>[ow y r]):=
 bM tok Tryz.call204 Tryz.func204 Tryz.results204 rfl rfl<|fun hF=>cpc 0 rfl rfl fun hc1=>a1V hc1 rfl rfl rfl rfl rfl rfl rfl rfl hF fun hF h1=>wi hF<|aV [16] rfl rfl (gL s1 [0] rfl rfl)<|jP aL [] rfl<|fun hF=>aTK hc1 rfl rfl rfl rfl rfl rfl hF fun hF h2=>aKM hc1 rfl rfl rfl rfl rfl rfl hF fun hF h3=>nd hF fun hab hF=>ap2 0 i.toNat j.toNat ⟨hab,h3.1⟩ rfl rfl rfl rfl rfl rfl rfl rfl rfl fun h4=>a44 0 (i.toNat+(s.length - j.toNat)) h4.2 (O1 h4.1 h4.2) rfl rfl rfl rfl rfl rfl rfl rfl rfl hF fun hF h5=>clr 0 (((((fD s i.toNat (s.drop j.toNat)).take (i.toNat+(s.length - j.toNat))).drop 0).length:Int).toNat) ((s.length:Int).toNat) ((⟨0,0,0,0⟩:cM):cM) h5 qQ rfl (fun _=>(aON (⟨0,0,0,0⟩:cM))) rfl rfl rfl rfl rfl rfl rfl rfl<|sR rfl<|poR 0 0 (i.toNat+(s.length - j.toNat)) rfl rfl (a1U h4 (Nat.le_trans h5.1 h5.2)) (aYA (Nat.le_of_eq (by rw [Int.toNat_natCast,O1 h4.1 h4.2];rfl)) (Nat.le_trans h5.1 h5.2))<|nB (hT:=tok) (AC.sub s1 4 0) [0] hF rfl Tryz.results204 rfl rfl rfl rfl
theorem MM{kind a_:Int}:V0 Tryz.prog κ 205 (vT kind a_) [I kind,I a_] (fun r=>.g [I r.Kind,I r.A,I r.Pc,I r.E,I r.Row,I r.B,I r.H,I r.Out,I r.Code,.b r.dW]):=
 bM tok Tryz.call205 Tryz.func205 Tryz.results205 rfl rfl<|aY rfl rfl
theorem gE{j:bG}{code:Int}{b0:Nat×Nat}:VS Tryz.prog κ 206 (eD j code) [.p 0 0,I code] [b0] [.box 0 [.b j.g7,I j.Op.Kind,I j.Op.Cell,I j.Op.gD,I j.Op.eY,I j.aK,I j.Pc,I j.Sub.Kind,I j.Sub.A,I j.Sub.Pc,I j.Sub.E,I j.Sub.Row,I j.Sub.B,I j.Sub.H,I j.Sub.Out,I j.Sub.Code,.b j.Sub.dW,I j.H,I j.Old,I j.eY,I j.Code]] (fun(r:bG) (y:Unit)=>.t []) (fun(r:bG) (y:Unit)=>[.box 0 [.b r.g7,I r.Op.Kind,I r.Op.Cell,I r.Op.gD,I r.Op.eY,I r.aK,I r.Pc,I r.Sub.Kind,I r.Sub.A,I r.Sub.Pc,I r.Sub.E,I r.Sub.Row,I r.Sub.B,I r.Sub.H,I r.Sub.Out,I r.Sub.Code,.b r.Sub.dW,I r.H,I r.Old,I r.eY,I r.Code]]):=
 bM tok Tryz.call206 Tryz.func206 Tryz.results206 rfl rfl<|Z4 () [0] rfl rfl
theorem aHY{s:aE}{w_:Int}{s1 s2 s3 s4 s5 s6 s7 s8 s9 s10 s11:AC}{b0:Nat×Nat}:VS Tryz.prog κ 122 (K0 s w_) [.p 0 0,I w_] [b0] [.box 0 [.h s1 s.aA.Mem.aC.Bytes.length,.h s2 s.aA.Mem.aC.Class.length,.h s3 s.aA.Mem.aB.Global.length,.h s4 s.aA.Mem.aB.bA.length,I s.aA.aD.aJ,.h s5 s.aA.aD.aM.length,.h s6 s.aA.aH.length,.h s7 s.aA.bO.length,.h s8 s.Cells.length,.h s9 s.aR.length,.h s10 s.aU.length,.h s11 s.Log.length,I s.aK],ow s1 (s.aA.Mem.aC.Bytes:List Int),ow s2 (s.aA.Mem.aC.Class:List Int),ow s3 (s.aA.Mem.aB.Global:List aG),ow s4 (s.aA.Mem.aB.bA:List aG),ow s5 (s.aA.aD.aM:List cQ),ow s6 (s.aA.aH:List aP),ow s7 (s.aA.bO:List Int),ow s8 (s.Cells:List Int),ow s9 (s.aR:List bG),ow s10 (s.aU:List Queue),ow s11 (s.Log:List Ev)] (fun(r:aE) (y:AC)=>.t []) (fun(r:aE) (y:AC)=>[.box 0 [.h s1 r.aA.Mem.aC.Bytes.length,.h s2 r.aA.Mem.aC.Class.length,.h s3 r.aA.Mem.aB.Global.length,.h s4 r.aA.Mem.aB.bA.length,I r.aA.aD.aJ,.h s5 r.aA.aD.aM.length,.h s6 r.aA.aH.length,.h s7 r.aA.bO.length,.h s8 r.Cells.length,.h s9 r.aR.length,.h s10 r.aU.length,.h y r.Log.length,I r.aK],ow s1 r.aA.Mem.aC.Bytes,ow s2 r.aA.Mem.aC.Class,ow s3 r.aA.Mem.aB.Global,ow s4 r.aA.Mem.aB.bA,ow s5 r.aA.aD.aM,ow s6 r.aA.aH,ow s7 r.aA.bO,ow s8 r.Cells,ow s9 r.aR,ow s10 r.aU,ow y r.Log]):=
 bM tok Tryz.call122 Tryz.func122 Tryz.results122 rfl rfl<|fS 0 1 (EL s w_) [0,1] 22 [1,2,3,4,5,6,7,8,9,10,11,0] rfl (mP rL 10 rfl rfl rfl fun x14 h9 s15 h10=>fun hF=>dT 1 h10 h9 rfl rfl rfl rfl rfl<|wi hF<|fN [15,16] rfl rfl (fun hF=>sF rfl<|tZ rL 12 [15] h9 s15 rfl rfl rfl rfl rfl rfl rfl<|wY () [1,2,3,4,5,6,7,8,9,16,11,0] hF rfl)<|fun hF=>sF rfl<|tZ rL 12 [15] h9 s15 rfl rfl rfl rfl rfl rfl rfl<|wY () [1,2,3,4,5,6,7,8,9,16,11,0] hF rfl) fun x1=>aV [22] rfl rfl (gL s11 [11,0,1,2,3,4,5,6,7,8,9,10] rfl rfl)<|mP rL 9 rfl rfl rfl fun x2 h1 s12 h2=>fun hF=>dT 1 h2 h1 rfl rfl rfl rfl rfl<|wi hF<|mP aAP 15 rfl rfl rfl fun x3 h3 _ h4=>fun hF=>dT 2 h4 h3 rfl rfl rfl rfl rfl<|Z3 aAP 16 [] h3 () rfl rfl rfl rfl rfl rfl rfl rfl rfl<|wi hF<|jP aL [11,14,18,19] rfl<|fun hF=>dT 1 h2 h1 rfl rfl rfl rfl rfl<|wi hF<|fZ [20] rfl rfl rfl rfl (fun _=>aHX) fun x4 s13=>fun hF=>dT 1 h2 h1 rfl rfl rfl rfl rfl<|wi hF<|jP aL [11,14,18,19] rfl<|mH 1 5 (lE s w_ x4) [0,1,5] (fun(x5:bG) (_:Unit)=>[]) [0,1,2,3,4,5,6,7,8,10] (fun x5 _=>[ow s10 (s.aU.set w_.toNat (⟨x4⟩:Queue):List Queue),.box 0 [.h s1 s.aA.Mem.aC.Bytes.length,.h s2 s.aA.Mem.aC.Class.length,.h s3 s.aA.Mem.aB.Global.length,.h s4 s.aA.Mem.aB.bA.length,I s.aA.aD.aJ,.h s5 s.aA.aD.aM.length,.h s6 s.aA.aH.length,.h s7 s.aA.bO.length,.h s8 s.Cells.length,.h s9 s.aR.length,.h s10 (s.aU.set w_.toNat (⟨x4⟩:Queue)).length,.h s11 s.Log.length,I (aI (s.aK+1))],.box 4 [.b x5.g7,I x5.Op.Kind,I x5.Op.Cell,I x5.Op.gD,I x5.Op.eY,I x5.aK,I x5.Pc,I x5.Sub.Kind,I x5.Sub.A,I x5.Sub.Pc,I x5.Sub.E,I x5.Sub.Row,I x5.Sub.B,I x5.Sub.H,I x5.Sub.Out,I x5.Sub.Code,.b x5.Sub.dW,I x5.H,I x5.Old,I x5.eY,I x5.Code]]) rfl (aV [64,65] rfl rfl (c0 rfl (fun _=>MM) fun x8=>fun hF=>sF rfl<|nD rL 12 [21] [26,36,41] (⟨x4⟩:Queue) s13 rfl rfl rfl rfl rfl rfl rfl rfl<|CD s10 List.length_set.symm [] [(11,10)] rfl rfl rfl<|fR rfl rfl<|wY () [23,11,22,0,1,2,3,4,5,6,7,8,10] hF rfl)<|mH 0 5 (vP s w_ x3 x4) [0,1,5,63] (fun(x9:Bool) (_:Unit)=>[(70,.b x9)]) [0,1,2,3,4,5,6,7,8,10,22] (fun x9 _=>[ow s10 (s.aU.set w_.toNat (⟨x4⟩:Queue):List Queue),.box 0 [.h s1 s.aA.Mem.aC.Bytes.length,.h s2 s.aA.Mem.aC.Class.length,.h s3 s.aA.Mem.aB.Global.length,.h s4 s.aA.Mem.aB.bA.length,I s.aA.aD.aJ,.h s5 s.aA.aD.aM.length,.h s6 s.aA.aH.length,.h s7 s.aA.bO.length,.h s8 s.Cells.length,.h s9 s.aR.length,.h s10 (s.aU.set w_.toNat (⟨x4⟩:Queue)).length,.h s11 s.Log.length,I (aI (s.aK+1))]]) rfl (aV [70,71] rfl rfl (fun hF=>sF rfl<|nD rL 12 [21] [26,36,41] (⟨x4⟩:Queue) s13 rfl rfl rfl rfl rfl rfl rfl rfl<|CD s10 List.length_set.symm [] [(11,10)] rfl rfl rfl<|fR rfl rfl<|wY () [23,11,0,1,2,3,4,5,6,7,8,10,22] hF rfl)<|fun hF=>sF rfl<|nD rL 12 [21] [26,36,41] (⟨x4⟩:Queue) s13 rfl rfl rfl rfl rfl rfl rfl rfl<|CD s10 List.length_set.symm [] [(11,10)] rfl rfl rfl<|fR rfl rfl<|wY () [23,11,0,1,2,3,4,5,6,7,8,10,22] hF rfl) fun x9 _=>aV [70] rfl rfl (c0 rfl (fun _=>MM) fun x10=>mP wG 6 rfl rfl rfl fun x11 h7 _ h8=>fun hF=>dT 5 h8 h7 rfl rfl rfl rfl rfl<|wi hF<|aV [84] rfl rfl (fun hF=>bx 12 rfl rfl rfl<|wi hF<|pG 12 4 0 21 [] rfl rfl rfl rfl rfl (fun _=>gE (j:=(⟨true,x3,aI (s.aK+1),0,x10,0,0,0,0⟩:bG))) fun x12 _=>fun hF=>sF rfl<|tZ wG 13 [] h7 () rfl rfl rfl rfl rfl rfl rfl<|wY () [0,1,12,2,3,4,5,16,7,8,9,10,11] hF rfl)<|fun hF=>sF rfl<|tZ wG 13 [] h7 () rfl rfl rfl rfl rfl rfl rfl<|wY () [0,1,12,2,3,4,5,16,7,8,9,10,11] hF rfl)<|aV [86,87] rfl rfl (c0 rfl (fun _=>MM) fun x13=>cR [0,1,12,2,3,4,5,6,7,8,9,10,11] rfl rfl)<|cR [0,1,12,2,3,4,5,6,7,8,9,10,11] rfl rfl) fun x5 _=>jP aL [1,2] rfl<|mP eO 11 rfl rfl rfl fun x6 h5 _ h6=>fun hF=>dT 5 h6 h5 rfl rfl rfl rfl rfl<|ceS eO 13 [] [93] x5 () rfl rfl rfl rfl rfl rfl rfl rfl rfl rfl<|rh s9 List.length_set.symm [] [(1,9)] rfl rfl rfl<|wi hF<|pG 1 0 0 13 [3,4,5,6,7,8,9,10,16,0,12] rfl rfl rfl rfl rfl (fun _=>uS (s:=({s with aR:=s.aR.set w_.toNat x5,aU:=s.aU.set w_.toNat (⟨x4⟩:Queue),aK:=aI (s.aK+1)}:aE))) fun x7 s14=>Z4 s14 [1,17,18,19,20,21,22,23,24,25,26,27] rfl rfl
theorem iT{s:Sub}{code:Int}{b0:Nat×Nat}:VS Tryz.prog κ 285 (dK s code) [.p 0 0,I code] [b0] [.box 0 [I s.Kind,I s.A,I s.Pc,I s.E,I s.Row,I s.B,I s.H,I s.Out,I s.Code,.b s.dW]] (fun(r:Sub) (y:Unit)=>.t []) (fun(r:Sub) (y:Unit)=>[.box 0 [I r.Kind,I r.A,I r.Pc,I r.E,I r.Row,I r.B,I r.H,I r.Out,I r.Code,.b r.dW]]):=
 bM tok Tryz.call285 Tryz.func285 Tryz.results285 rfl rfl<|Z4 () [0] rfl rfl
theorem aPM{size:Int}:V0 Tryz.prog κ 337 (VI size) [I size] I:=
 bM tok Tryz.call337 Tryz.func337 Tryz.results337 rfl rfl<|CH 4 [0] [] Out.brk [] [] rfl rfl (fun hF1 x2 hr1=>aV [5] rfl rfl (fS 0 0 (NG x2) [0,3,4] 14 [] rfl (fN [8,9] rfl rfl (c0 rfl (fun _=>ZP) fun x4=>cR [] rfl rfl)<|cR [] rfl rfl) fun x3=>aV [14] rfl rfl (eX hr1 hF1<|aY rfl rfl)<|pX [] rfl)<|jE [] rfl)<|aY rfl rfl
theorem aJH{w_ c:Int}:V0 Tryz.prog κ 376 (WK w_ c) [I w_,I c] I:=
 bM tok Tryz.call376 Tryz.func376 Tryz.results376 rfl rfl<|fS 0 0 (S5 w_ c) [0,1] 12 [] rfl (c0 rfl (fun _=>mA) fun x2=>fN [7,8] rfl rfl (cR [] rfl rfl)<|c0 rfl (fun _=>BH) fun x3=>cR [] rfl rfl) fun x1=>aV [12] rfl rfl (aY rfl rfl)<|aY rfl rfl
theorem aAR{s:aG}{s1:AC}{b0:Nat×Nat}:VS Tryz.prog κ 377 (JR s) [.p 0 0] [b0] [.box 0 [.h s1 s.bB.length],ow s1 (s.bB:List Int)] (fun(r:Int×aG) (y:AC)=>I r.1) (fun(r:Int×aG) (y:AC)=>[.box 0 [.h y r.2.bB.length],ow y r.2.bB]):=
 bM tok Tryz.call377 Tryz.func377 Tryz.results377 rfl rfl<|aV [12] rfl rfl (gL s1 [0,1] rfl rfl)<|mP oI 1 rfl rfl rfl fun x1 h1 _ h2=>fun hF=>dT 1 h2 h1 rfl rfl rfl rfl rfl<|Z3 oI 2 [] h1 () rfl rfl rfl rfl rfl rfl rfl rfl rfl<|cpc 5 rfl rfl fun hc1=>a7U hc1 rfl rfl rfl rfl rfl rfl rfl hF fun hF h3=>sR rfl<|pmR 5 ((aI ((s.bB.length:Int) - 1)).toNat) ((aI ((s.bB.length:Int) - 1)).toNat) rfl rfl h3 rfl<|nB (hT:=tok) ⟨(AC.sub s1 1 0).a,(aI ((s.bB.length:Int) - 1)).toNat⟩ [0,5] hF rfl Tryz.results377 rfl rfl rfl rfl
theorem aPN{l:aB}{w_ c:Int}{s1 s2:AC}(h1:aQ κ s1 l.Global)(h2:aQ κ s2 l.bA):VS Tryz.prog κ 338 (VJ l w_ c) [.g [.h s1 l.Global.length,.h s2 l.bA.length],I w_,I c] [] [] (fun r (y:AC×AC)=>.t [.g [.h y.1 r.1.Global.length,.h y.2 r.1.bA.length],I r.2]) (fun r y=>[ow y.1 r.1.Global,ow y.2 r.1.bA]):=
 bM tok Tryz.call338 Tryz.func338 Tryz.results338 rfl rfl<|c1 rfl (fun h=>uD (h.a h1) (h.a h2)) fun x1 s3=>c0 rfl (fun _=>aJH) fun x2=>fS 0 3 (NH x1 x2) [6,8,9] 22 [1,2,3,4] rfl (c0 rfl (fun h=>QL (h.a h1) (h.a h2)) fun x6=>fN [18,19] rfl rfl (cR [1,2,3,4] rfl rfl)<|cR [1,2,3,4] rfl rfl) fun x3=>aV [22] rfl rfl (gL (s3.1,s3.2) [1,2] rfl rfl)<|mP kZ 2 rfl rfl rfl fun x4 h3 s4 h4=>fun hF=>dT 3 h4 h3 rfl rfl rfl rfl rfl<|wi hF<|pG 5 3 0 1 [7] rfl rfl rfl rfl rfl (fun _=>aAR) fun x5 s5=>fun hF=>sR rfl<|nD kZ 4 [8] [25] x5.2 s5 rfl rfl rfl rfl rfl rfl rfl rfl<|CD s3.2 List.length_set.symm [(29,1)] [(0,1),(3,1)] rfl rfl rfl<|fR rfl rfl<|nB (hT:=tok) (s3.1,s3.2) [1,9] hF rfl Tryz.results338 rfl rfl rfl rfl
theorem aJI{l:aB}{c:Int}{s1 s2:AC}(h1:aQ κ s1 l.Global)(h2:aQ κ s2 l.bA):VS Tryz.prog κ 339 (NI l c) [.g [.h s1 l.Global.length,.h s2 l.bA.length],I c] [] [] (fun r (y:AC×AC)=>.t [.g [.h y.1 r.1.Global.length,.h y.2 r.1.bA.length],I r.2]) (fun r y=>[ow y.1 r.1.Global,ow y.2 r.1.bA]):=
 bM tok Tryz.call339 Tryz.func339 Tryz.results339 rfl rfl<|c1 rfl (fun h=>uD (h.a h1) (h.a h2)) fun x1 s3=>fS 0 3 (GS c x1) [1,4,6] 17 [1,2,3,4] rfl (c0 rfl (fun h=>QL (h.a h1) (h.a h2)) fun x5=>fN [12,13] rfl rfl (cR [1,2,3,4] rfl rfl)<|c0 rfl (fun _=>BH) fun x6=>cR [1,2,3,4] rfl rfl) fun x2=>aV [17] rfl rfl (gL (s3.1,s3.2) [1,2] rfl rfl)<|mP kZ 1 rfl rfl rfl fun x3 h3 s4 h4=>fun hF=>dT 3 h4 h3 rfl rfl rfl rfl rfl<|wi hF<|pG 5 3 0 1 [7] rfl rfl rfl rfl rfl (fun _=>aAR) fun x4 s5=>fun hF=>sR rfl<|nD kZ 4 [8] [20] x4.2 s5 rfl rfl rfl rfl rfl rfl rfl rfl<|CD s3.1 List.length_set.symm [(24,0)] [(0,0),(3,0)] rfl rfl rfl<|fR rfl rfl<|nB (hT:=tok) (s3.1,s3.2) [9,2] hF rfl Tryz.results339 rfl rfl rfl rfl
theorem WR{width:Int}:V0 Tryz.prog κ 351 (w8 width) [I width] .b:=
 bM tok Tryz.call351 Tryz.func351 Tryz.results351 rfl rfl<|c0 rfl (fun _=>fJ) fun x1=>aY rfl rfl
theorem G5{n width:Int}:V0 Tryz.prog κ 286 (N0 n width) [I n,I width] .s:=
 bM tok Tryz.call286 Tryz.func286 Tryz.results286 rfl rfl<|fS 0 0 (MF n width) [0,1] 21 [] rfl (c0 rfl (fun _=>WR) fun x10=>fN [9,10] rfl rfl (cR [] rfl rfl)<|fN [12,13,14] rfl rfl (cR [] rfl rfl)<|fun hF=>a8L rfl rfl rfl rfl hF fun hF=>wi hF<|cR [] rfl rfl) fun x1=>aV [21] rfl rfl (aY rfl rfl)<|fun hF=>lV (0:UInt8) aSH (fun w=>fM rfl w) rfl rfl rfl rfl rfl rfl rfl hF fun hF s1=>wi hF<|mQ () [] (fun(p:Int×(List UInt8)×Int) (_:Unit)=>[(0,I p.1),(5,.h s1 p.2.1.length),(6,I p.2.2)]) [0] [] (fun p _=>[ow s1 (p.2.1:List UInt8)]) id [] (fun(x8:(List UInt8)) (_:Unit)=>[(5,.h s1 x8.length)]) [] (fun x8 _=>[ow s1 (x8:List UInt8)]) rfl rfl (fun hF2 ⟨x5,x6,x7⟩ _ hr2=>aV [27] rfl rfl (mP oU 0 rfl rfl rfl fun x9 h1 _ h2=>fun hG2=>dT 0 h2 h1 rfl rfl rfl rfl rfl<|sF rfl<|nD oU 1 [] [5,30] (u8 x5) () rfl rfl rfl rfl rfl rfl rfl rfl<|EY () [4] hG2 rfl)<|jE [0] rfl) fun x8 _=>fun hF=>qbo 0 rfl rfl rfl rfl rfl rfl rfl<|wi hF<|aY rfl rfl
theorem AP{b:List Int}{at_:Int}{text:List UInt8}{s1:AC}:VS Tryz.prog κ 288 (JS b at_ text) [.h s1 b.length,I at_,.s text] [] [ow s1 (b:List Int)] (fun(r:(List Int)) (y:Unit)=>.t []) (fun(r:(List Int)) (y:Unit)=>[.o (bH [AC.v s1 b.length] r)]):=
 bM tok Tryz.call288 Tryz.func288 Tryz.results288 rfl rfl<|mQ () [1,2,8] (fun(p:(List Int)×Int) (_:Unit)=>[(0,.h s1 p.1.length),(9,I p.2)]) [0] [] (fun p _=>[ow s1 (p.1:List Int)]) id [] (fun(x5:(List Int)) (_:Unit)=>[(0,.h s1 x5.length)]) [] (fun x5 _=>[ow s1 (x5:List Int)]) rfl rfl (fun hF1 ⟨x3,x4⟩ _ hr1=>fun hG1=>nd hG1 fun hl3 hG1=>wi hG1<|aV [10] rfl rfl (fun hG1=>qsi rfl rfl rfl rfl rfl hG1 fun x6 _ hG1=>wi hG1<|mP oI 0 rfl rfl rfl fun x7 h1 _ h2=>fun hG1=>dT 0 h2 h1 rfl rfl rfl rfl rfl<|sF rfl<|nD oI 1 [] [0,12] (x6.toNat:Int) () rfl rfl rfl rfl rfl rfl rfl rfl<|EY () [4] hG1 rfl)<|jE [0] rfl) fun x5 _=>fun hF=>nd hF fun hl2 hF=>sF rfl<|pV 0 hl2 rfl<|nB (hT:=tok) () [0] hF rfl Tryz.results288 rfl rfl rfl rfl
theorem aRM{page index:Int}:V0 Tryz.prog κ 390 (YU page index) [I page,I index] I:=
 bM tok Tryz.call390 Tryz.func390 Tryz.results390 rfl rfl<|fS 0 0 (P2 page index) [0,1] 12 [] rfl (c0 rfl (fun _=>fJ) fun x2=>fN [7,8] rfl rfl (cR [] rfl rfl)<|c0 rfl (fun _=>fJ) fun x3=>cR [] rfl rfl) fun x1=>aV [12] rfl rfl (aY rfl rfl)<|aY rfl rfl
theorem aTQ{h:aC}{c:Int}{s1 s2:AC}(h1:aQ κ s1 h.Bytes)(h2:aQ κ s2 h.Class):VS Tryz.prog κ 378 (RV h c) [.g [.h s1 h.Bytes.length,.h s2 h.Class.length],I c] [] [] (fun r (y:AC×AC×AC)=>.t [.g [.h y.1 r.1.Bytes.length,.h y.2.1 r.1.Class.length],.h y.2.2 r.2.length]) (fun r y=>[ow y.1 r.1.Bytes,ow y.2.1 r.1.Class,ow y.2.2 r.2]):=
 bM tok Tryz.call378 Tryz.func378 Tryz.results378 rfl rfl<|c1 rfl (fun h=>NM (h.a h1) (h.a h2)) fun x1 s3=>fun hF=>LR (α:=Int) bD rfl rfl rfl rfl fun s4=>wi hF<|c0 rfl (fun h=>WQ (h.a h2)) fun x2=>fS 0 3 (MG c x1 x2) [1,4,6,7,8] 28 [4,1,2,3,5] rfl (c0 rfl (fun h=>aG2 (h.a h1) (h.a h2)) fun x21=>fN [19,20] rfl rfl (cR [4,1,2,3,5] rfl rfl)<|c0 rfl (fun _=>BH) fun x22=>fN [23,24,25] rfl rfl (cR [4,1,2,3,5] rfl rfl)<|cR [4,1,2,3,5] rfl rfl) fun x3=>aV [28] rfl rfl (gL (s3.1,s3.2,s4) [2,3,0] rfl rfl)<|mP oI 3 rfl rfl rfl fun x4 h3 _ h4=>fun hF=>dT 3 h4 h3 rfl rfl rfl rfl rfl<|wi hF<|mH 0 4 (ZI c x1 x2) [1,4,6,7,8] (fun(x5:(List Int)) (_:Unit)=>[]) [0,1] (fun x5 _=>[ow s3.1 (x5:List Int),ow s3.2 (x1.Class.set x2.toNat c:List Int),.box 2 [.h s3.1 x5.length,.h s3.2 (x1.Class.set x2.toNat c).length]]) rfl (jP aL [1,7] rfl<|fun hF=>nd hF fun hA4 hF=>bd hF fun x20 hA5 hF=>kS rfl rfl (cpc 2 rfl rfl fun hc2=>have hq9:=rn hA4;aKM hc2 rfl rfl rfl rfl rfl rfl hq9 fun hq9 h6=>have hq10:=rb hA5;wi hq10<|c0 rfl (fun _=>FN) fun u9=>fun hq10=>match u9,hq10 with | _,rfl=>ltK oI () ([171,c,x20]:List Int) bD rfl rfl rfl rfl rfl rfl rfl rfl rfl rfl (fun _=>rfl) fun s11=>cpy (xs:=([171,c,x20]:List Int)) 2 ((aI (x2 * 64)).toNat) h6 (fun h=>(h.o 8 rfl)) rfl rfl rfl rfl rfl rfl rfl rfl<|rr s3.1 (jX (xs:=([171,c,x20]:List Int)) h6.1).symm [37] [] [(4,0)] rfl rfl rfl rfl<|sF rfl<|nD oI 5 [] [32] c () rfl rfl rfl rfl rfl rfl rfl rfl<|CD s3.2 List.length_set.symm [] [(4,1)] rfl rfl rfl<|fR rfl rfl<|wY (p:=(fD x1.Bytes ((aI (x2 * 64)).toNat) ([171,c,x20]:List Int))) () [2,9,4,0,1] hF rfl) (have hq11:=rb hA5;wi hq11<|c0 rfl (fun _=>FN) fun u10=>fun hq11=>match u10,hq11 with | _,rfl=>kS rfl rfl (cpc 2 rfl rfl fun hc3=>have hq12:=rn hA4;aKM hc3 rfl rfl rfl rfl rfl rfl hq12 fun hq12 h7=>ltK oI () ([171,c,x20]:List Int) bD rfl rfl rfl rfl rfl rfl rfl rfl rfl rfl (fun _=>rfl) fun s12=>cpy (xs:=([171,c,x20]:List Int)) 2 ((aI (x2 * 64)).toNat) h7 (fun h=>(h.o 8 rfl)) rfl rfl rfl rfl rfl rfl rfl rfl<|rr s3.1 (jX (xs:=([171,c,x20]:List Int)) h7.1).symm [37] [] [(4,0)] rfl rfl rfl rfl<|sF rfl<|nD oI 5 [] [32] c () rfl rfl rfl rfl rfl rfl rfl rfl<|CD s3.2 List.length_set.symm [] [(4,1)] rfl rfl rfl<|fR rfl rfl<|wY (p:=(fD x1.Bytes ((aI (x2 * 64)).toNat) ([171,c,x20]:List Int))) () [2,9,4,0,1] hF rfl) (ltK oI () ([171,c,x20]:List Int) bD rfl rfl rfl rfl rfl rfl rfl rfl rfl rfl (fun _=>rfl) fun s13=>cpc 2 rfl rfl fun hc4=>have hq13:=rn hA4;aKM hc4 rfl rfl rfl rfl rfl rfl hq13 fun hq13 h8=>cpy (xs:=([171,c,x20]:List Int)) 2 ((aI (x2 * 64)).toNat) h8 (fun h=>(h.o 8 rfl)) rfl rfl rfl rfl rfl rfl rfl rfl<|rr s3.1 (jX (xs:=([171,c,x20]:List Int)) h8.1).symm [37] [] [(4,0)] rfl rfl rfl rfl<|sF rfl<|nD oI 5 [] [32] c () rfl rfl rfl rfl rfl rfl rfl rfl<|CD s3.2 List.length_set.symm [] [(4,1)] rfl rfl rfl<|fR rfl rfl<|wY (p:=(fD x1.Bytes ((aI (x2 * 64)).toNat) ([171,c,x20]:List Int))) () [2,9,4,0,1] hF rfl))) fun x5 _=>c0 rfl (fun _=>FN) fun x6=>mQ s4 [1,4,6,8,47] (fun(p:(List Int)×Int×(List Int)) (s6:AC)=>[(7,.h s6 p.1.length),(48,I p.2.1)]) [3,0,2,4,1] [4,1] (fun p s6=>[ow s6 (p.1:List Int),ow s3.1 (p.2.2:List Int),.box 2 [.h s3.1 p.2.2.length,.h s3.2 (x1.Class.set x2.toNat c).length]]) id [4,6] (fun(p:(List Int)×(List Int)) (s7:AC)=>[(7,.h s7 p.1.length)]) [4,1] (fun p s7=>[ow s7 (p.1:List Int),ow s3.1 (p.2:List Int),.box 2 [.h s3.1 p.2.length,.h s3.2 (x1.Class.set x2.toNat c).length]]) rfl rfl (fun hF3 ⟨x10,x11,x12⟩ s6 hr3=>aV [49] rfl rfl (c0 rfl (fun _=>aRM) fun x15=>mH 0 4 (ZH x10 x11 x15) [1,4,6,7,8,10,47,48] (fun(x16:(List Int)) (_:Unit)=>[]) [0,3,4] (fun x16 _=>[ow s3.1 (x16:List Int),.box 2 [.h s3.1 x16.length,.h s3.2 (x1.Class.set x2.toNat c).length]]) rfl (jP aL [3] rfl<|fun hG3=>bd hG3 fun x17 hA1 hG3=>bd hG3 fun x18 hA2 hG3=>bd hG3 fun x19 hA3 hG3=>kS rfl rfl (have hq1:=rb hA1;wi hq1<|c0 rfl (fun _=>G3) fun u1=>fun hq1=>match u1,hq1 with | _,rfl=>have hq2:=rb hA2;wi hq2<|c0 rfl (fun _=>G5) fun u2=>fun hq2=>match u2,hq2 with | _,rfl=>have hq3:=rb hA3;wi hq3<|fZ [1] rfl rfl rfl rfl (fun _=>AP) fun u3 _=>fun hq3=>un 5 [55] [] [(2,0)] rfl rfl rfl rfl rfl rfl fun hl3=>match u3,hq3 with | _,rfl=>wi hG3<|cR (p:=(x19)) [5,2,0,3,4] rfl rfl) (have hq4:=rb hA1;wi hq4<|c0 rfl (fun _=>G3) fun u4=>fun hq4=>match u4,hq4 with | _,rfl=>kS rfl rfl (have hq5:=rb hA2;wi hq5<|c0 rfl (fun _=>G5) fun u5=>fun hq5=>match u5,hq5 with | _,rfl=>have hq6:=rb hA3;wi hq6<|fZ [1] rfl rfl rfl rfl (fun _=>AP) fun u6 _=>fun hq6=>un 5 [55] [] [(2,0)] rfl rfl rfl rfl rfl rfl fun hl4=>match u6,hq6 with | _,rfl=>wi hG3<|cR (p:=(x19)) [5,2,0,3,4] rfl rfl) (have hq7:=rb hA2;wi hq7<|c0 rfl (fun _=>G5) fun u7=>fun hq7=>match u7,hq7 with | _,rfl=>have hq8:=rb hA3;wi hq8<|fZ [1] rfl rfl rfl rfl (fun _=>AP) fun u8 _=>fun hq8=>un 5 [55] [] [(2,0)] rfl rfl rfl rfl rfl rfl fun hl5=>match u8,hq8 with | _,rfl=>wi hG3<|cR (p:=(x19)) [5,2,0,3,4] rfl rfl))) fun x16 _=>fun hG3=>lt1 rfl bD rfl rfl rfl rfl fun s8=>ap 2 bD rfl rfl rfl rfl rfl rfl rfl (fun h=>(h.o 5 rfl)) rfl rfl hG3 fun hG3 s9=>wi hG3<|nxW s9 [2,0,1,3,4] rfl)<|bkW s6 [0,1,2,3,4] rfl) fun⟨x13,x14⟩ s7=>gL (s3.1,s3.2,s7) [1,4,0] rfl rfl
theorem aPO{m:Mem}{c:Int}{s1 s2 s3 s4:AC}(h1:aQ κ s1 m.aC.Bytes)(h2:aQ κ s2 m.aC.Class)(h3:aQ κ s3 m.aB.Global)(h4:aQ κ s4 m.aB.bA):VS Tryz.prog κ 340 (VK m c) [.g [.h s1 m.aC.Bytes.length,.h s2 m.aC.Class.length,.h s3 m.aB.Global.length,.h s4 m.aB.bA.length],I c] [] [] (fun r (y:AC×AC×AC×AC)=>.t [.g [.h y.1 r.1.aC.Bytes.length,.h y.2.1 r.1.aC.Class.length,.h y.2.2.1 r.1.aB.Global.length,.h y.2.2.2 r.1.aB.bA.length],I r.2]) (fun r y=>[ow y.1 r.1.aC.Bytes,ow y.2.1 r.1.aC.Class,ow y.2.2.1 r.1.aB.Global,ow y.2.2.2 r.1.aB.bA]):=
 bM tok Tryz.call340 Tryz.func340 Tryz.results340 rfl rfl<|c1 rfl (fun h=>aTQ (h.a h1) (h.a h2)) fun x1 s5=>mH 0 4 (UM c x1) [1,4,7] (fun(x2:Mem) (u:AC×AC)=>[(8,.p 3 0)]) [4,1] (fun x2 u=>[ow s5.1 (x2.aC.Bytes:List Int),ow s5.2.1 (x2.aC.Class:List Int),ow u.1 (x2.aB.Global:List aG),ow u.2 (x2.aB.bA:List aG),.box 3 [.h s5.1 x2.aC.Bytes.length,.h s5.2.1 x2.aC.Class.length,.h u.1 x2.aB.Global.length,.h u.2 x2.aB.bA.length]]) rfl (jP aL [0,1,5] rfl<|fun hF=>bd hF fun x7 hA1 hF=>kS rfl rfl (have hq1:=rb hA1;wi hq1<|c1 rfl (fun h=>uD (h.a h3) (h.a h4)) fun u1 s11=>fun hq1=>match u1,hq1 with | _,rfl=>wi hF<|pE (p:=((⟨x1.1,x7⟩:Mem))) (s11.1,s11.2) [2,3,6,7,8,4,1] rfl rfl) (have hq2:=rb hA1;wi hq2<|c1 rfl (fun h=>uD (h.a h3) (h.a h4)) fun u2 s12=>fun hq2=>match u2,hq2 with | _,rfl=>wi hF<|pE (p:=((⟨x1.1,x7⟩:Mem))) (s12.1,s12.2) [2,3,7,8,6,4,1] rfl rfl)) fun x2 ⟨s6,s7⟩=>aV [23] rfl rfl (gL (s5.1,s5.2.1,s6,s7) [0,1,2,3] rfl rfl)<|jP aL [4,6] rfl<|mP kZ 2 rfl rfl rfl fun x3 h5 s8 h6=>fun hF=>dT 4 h6 h5 rfl rfl rfl rfl rfl<|cpc 5 rfl rfl fun hc1=>aKM hc1 rfl rfl rfl rfl rfl rfl hF fun hF h7=>ap 10 bD rfl rfl rfl rfl rfl rfl rfl (fun h=>((h.o 5 rfl).sub (US h7.1 h7.2) h7)) rfl rfl hF fun hF s9=>dT 4 h6 h5 rfl rfl rfl rfl rfl<|wi hF<|mH 0 5 (fun(p:Int×Mem)=>UL p.1 p.2) [4] (fun(p:Int×Mem) (_:Unit)=>[(5,I p.1)]) [] (fun p _=>[ow s5.1 (p.2.aC.Bytes:List Int),ow s5.2.1 (p.2.aC.Class:List Int),ow s6 (p.2.aB.Global:List aG),ow s7 (p.2.aB.bA:List aG),.box 1 [.h s5.1 p.2.aC.Bytes.length,.h s5.2.1 p.2.aC.Class.length,.h s6 p.2.aB.Global.length,.h s7 p.2.aB.bA.length]]) rfl (jP aL [4,9] rfl<|mP oI 5 rfl rfl rfl fun x6 h8 _ h9=>fun hF=>dT 5 h9 h8 rfl rfl rfl rfl rfl<|kS rfl rfl (sF rfl<|tZ oI 11 [] h8 () rfl rfl rfl rfl rfl rfl rfl<|nD kZ 7 [10] [27,31] (⟨x3.bB++((x1.2.take x1.2.length).drop ((1:Int).toNat))⟩:aG) s9 rfl rfl rfl rfl rfl rfl rfl rfl<|CD s6 List.length_set.symm [(41,2)] [(4,2),(6,2)] rfl rfl rfl<|fR rfl rfl<|wY (p:=(x6,(⟨x2.aC,(⟨x2.aB.Global.set c.toNat (⟨x3.bB++((x1.2.take x1.2.length).drop ((1:Int).toNat))⟩:aG),x2.aB.bA⟩:aB)⟩:Mem))) () [0,1,15,3,6] hF rfl) (sF rfl<|tZ oI 11 [] h8 () rfl rfl rfl rfl rfl rfl rfl<|nD kZ 7 [10] [27,31] (⟨x3.bB++((x1.2.take x1.2.length).drop ((1:Int).toNat))⟩:aG) s9 rfl rfl rfl rfl rfl rfl rfl rfl<|CD s6 List.length_set.symm [(41,2)] [(4,2),(6,2)] rfl rfl rfl<|fR rfl rfl<|wY (p:=(x6,(⟨x2.aC,(⟨x2.aB.Global.set c.toNat (⟨x3.bB++((x1.2.take x1.2.length).drop ((1:Int).toNat))⟩:aG),x2.aB.bA⟩:aB)⟩:Mem))) () [0,1,15,3,6] hF rfl)) fun⟨x4,x5⟩ _=>gL (s5.1,s5.2.1,s6,s7) [0,1,2,3] rfl rfl
theorem aM2{slot gen:Int}:V0 Tryz.prog κ 379 (ZJ slot gen) [I slot,I gen] I:=
 bM tok Tryz.call379 Tryz.func379 Tryz.results379 rfl rfl<|fS 0 0 (K1 slot gen) [0,1] 12 [] rfl (c0 rfl (fun _=>TB) fun x2=>fN [7,8] rfl rfl (cR [] rfl rfl)<|c0 rfl (fun _=>fJ) fun x3=>cR [] rfl rfl) fun x1=>aV [12] rfl rfl (aY rfl rfl)<|aY rfl rfl
theorem aM3{m:Mem}{slot:Int}{s1 s2 s3 s4:AC}(h1:aQ κ s1 m.aC.Bytes)(h2:aQ κ s2 m.aC.Class)(h3:aQ κ s3 m.aB.Global)(h4:aQ κ s4 m.aB.bA):V0 Tryz.prog κ 341 (S8 m slot) [.g [.h s1 m.aC.Bytes.length,.h s2 m.aC.Class.length,.h s3 m.aB.Global.length,.h s4 m.aB.bA.length],I slot] I:=
 bM tok Tryz.call341 Tryz.func341 Tryz.results341 rfl rfl<|c0 rfl (fun h=>VU (h.a h1) (h.a h2)) fun x1=>c0 rfl (fun _=>aM2) fun x2=>aY rfl rfl
theorem aER{s:Sub}{b:aA}{w_:Int}{s1 s2 s3 s4 s5 s6 s7:AC}{b0 b1:Nat×Nat}:VS Tryz.prog κ 280 (GU s b w_) [.p 0 0,.p 1 0,I w_] [b0,b1] [.box 0 [I s.Kind,I s.A,I s.Pc,I s.E,I s.Row,I s.B,I s.H,I s.Out,I s.Code,.b s.dW],.box 1 [.h s1 b.Mem.aC.Bytes.length,.h s2 b.Mem.aC.Class.length,.h s3 b.Mem.aB.Global.length,.h s4 b.Mem.aB.bA.length,I b.aD.aJ,.h s5 b.aD.aM.length,.h s6 b.aH.length,.h s7 b.bO.length],ow s1 (b.Mem.aC.Bytes:List Int),ow s2 (b.Mem.aC.Class:List Int),ow s3 (b.Mem.aB.Global:List aG),ow s4 (b.Mem.aB.bA:List aG),ow s5 (b.aD.aM:List cQ),ow s6 (b.aH:List aP),ow s7 (b.bO:List Int)] (fun(r:Sub×aA) (y:AC×AC×AC×AC)=>.t []) (fun(r:Sub×aA) (y:AC×AC×AC×AC)=>[.box 0 [I r.1.Kind,I r.1.A,I r.1.Pc,I r.1.E,I r.1.Row,I r.1.B,I r.1.H,I r.1.Out,I r.1.Code,.b r.1.dW],.box 1 [.h y.1 r.2.Mem.aC.Bytes.length,.h y.2.1 r.2.Mem.aC.Class.length,.h y.2.2.1 r.2.Mem.aB.Global.length,.h y.2.2.2 r.2.Mem.aB.bA.length,I r.2.aD.aJ,.h s5 r.2.aD.aM.length,.h s6 r.2.aH.length,.h s7 r.2.bO.length],ow y.1 r.2.Mem.aC.Bytes,ow y.2.1 r.2.Mem.aC.Class,ow y.2.2.1 r.2.Mem.aB.Global,ow y.2.2.2 r.2.Mem.aB.bA,ow s5 r.2.aD.aM,ow s6 r.2.aH,ow s7 r.2.bO]):=
 bM tok Tryz.call280 Tryz.func280 Tryz.results280 rfl rfl<|c0 rfl (fun _=>aPM) fun x1=>aV [14] rfl rfl (pG 0 0 0 10 [] rfl rfl rfl rfl rfl (fun _=>iT) fun x2 _=>gL (s1,s2,s3,s4) [0,1,2,3,4,5,6,7,8] rfl rfl)<|mH 1 2 (fun(p:Int×aA)=>sQ s p.1 p.2) [0,1] (fun(p:Int×aA) (u:AC×AC×AC×AC)=>[(7,I p.1)]) [0] (fun p u=>[ow u.1 (p.2.Mem.aC.Bytes:List Int),ow u.2.1 (p.2.Mem.aC.Class:List Int),ow u.2.2.1 (p.2.Mem.aB.Global:List aG),ow u.2.2.2 (p.2.Mem.aB.bA:List aG),ow s5 (p.2.aD.aM:List cQ),ow s6 (p.2.aH:List aP),ow s7 (p.2.bO:List Int),.box 1 [.h u.1 p.2.Mem.aC.Bytes.length,.h u.2.1 p.2.Mem.aC.Class.length,.h u.2.2.1 p.2.Mem.aB.Global.length,.h u.2.2.2 p.2.Mem.aB.bA.length,I p.2.aD.aJ,.h s5 p.2.aD.aM.length,.h s6 p.2.aH.length,.h s7 p.2.bO.length]]) rfl (aV [23,24] rfl rfl (c1 rfl (fun h=>aPN (h.o 4 rfl) (h.o 5 rfl)) fun x8 s12=>pE (p:=(x8.2,({b with Mem:=(⟨b.Mem.aC,x8.1⟩:Mem)}:aA))) (s1,s2,s12.1,s12.2) [2,3,9,10,6,7,8,1,0] rfl rfl)<|fS 0 2 (CA s b x1) [0,1,6,20] 40 [0,2,3,4,5,6,7,8,1] rfl (aV [40,41] rfl rfl (cR [0,2,3,4,5,6,7,8,1] rfl rfl)<|cR [0,2,3,4,5,6,7,8,1] rfl rfl) fun x9=>aV [40] rfl rfl (c1 rfl (fun h=>aJI (h.o 3 rfl) (h.o 4 rfl)) fun x10 s13=>pE (p:=(x10.2,({b with Mem:=(⟨b.Mem.aC,x10.1⟩:Mem)}:aA))) (s1,s2,s13.1,s13.2) [1,2,9,10,5,6,7,8,0] rfl rfl)<|aV [57,58] rfl rfl (c1 rfl (fun h=>aPO (h.o 1 rfl) (h.o 2 rfl) (h.o 3 rfl) (h.o 4 rfl)) fun x11 s14=>pE (p:=(x11.2,({b with Mem:=x11.1}:aA))) (s14.1,s14.2.1,s14.2.2.1,s14.2.2.2) [9,10,11,12,5,6,7,8,0] rfl rfl)<|pG 0 0 0 10 [] rfl rfl rfl rfl rfl (fun _=>iT) fun x12 _=>gL (s1,s2,s3,s4) [0,8,1,2,3,4,5,6,7] rfl rfl) fun⟨x3,x4⟩ ⟨s8,s9,s10,s11⟩=>aV [78,80] rfl rfl (c0 rfl (fun h=>aM3 (h.o 0 rfl) (h.o 1 rfl) (h.o 2 rfl) (h.o 3 rfl)) fun x5=>pG 8 0 0 10 [] rfl rfl rfl rfl rfl (fun _=>iT (s:=({s with Out:=x5}:Sub))) fun x6 _=>Z4 (s8,s9,s10,s11) [8,7,0,1,2,3,4,5,6] rfl rfl)<|aV [92,97] rfl rfl (pG 8 0 0 10 [] rfl rfl rfl rfl rfl (fun _=>iT) fun x7 _=>Z4 (s8,s9,s10,s11) [8,7,0,1,2,3,4,5,6] rfl rfl)<|Z4 (s8,s9,s10,s11) [8,7,0,1,2,3,4,5,6] rfl rfl
theorem aHZ{r_:bP}{k0:Int}{b0:Nat×Nat}:VS Tryz.prog κ 307 (FA r_ k0) [.g [I r_.Handle,I r_.aJ],.p 0 0] [b0] [.ro 0 [I k0]] (fun r (_:Unit)=>.b r) (fun _ _=>[]):=
 bM tok Tryz.call307 Tryz.func307 Tryz.results307 rfl rfl<|fS 0 2 EM [] 3 [] rfl (c0 rfl (fun _=>C0) fun x2=>fN [6,7] rfl rfl (cR [] rfl rfl)<|cR [] rfl rfl) fun x1=>aY rfl rfl
theorem aK6{own:aP}{k0:Int}{s1:AC}{b0:Nat×Nat}(h1:aQ κ s1 own.Rows):VS Tryz.prog κ 306 (P3 own k0) [.g [.h s1 own.Rows.length],.p 0 0] [b0] [.ro 0 [I k0]] (fun r (_:Unit)=>.b r) (fun _ _=>[]):=
 bM tok Tryz.call306 Tryz.func306 Tryz.results306 rfl rfl<|fun hF=>mf [0] rfl rfl rfl<|wi hF<|aHO [0] rfl rfl rfl rfl (fun h=>fun hB=>oG (h.a h1) (aHN (cs:=[(0,[I k0])]) Tryz.call307 hB rfl fun _ _=>aHZ)) fun x1=>aY rfl rfl
theorem aES{l:List aP}{slot:Int}{s1:AC}(h1:aQ κ s1 l):V0 Tryz.prog κ 240 (P4 l slot) [.h s1 l.length,I slot] .b:=
 bM tok Tryz.call240 Tryz.func240 Tryz.results240 rfl rfl<|fun hF=>mf [0] rfl rfl rfl<|wi hF<|aHO [0] rfl rfl rfl rfl (fun h=>fun hB=>nM (h.a h1) (aHN (cs:=[(0,[I slot])]) Tryz.call306 hB rfl fun _ hy=>aK6 hy)) fun x1=>aY rfl rfl
theorem aM4{l:List aP}{w_ h e_:Int}{s1:AC}(h1:aQ κ s1 l):VS Tryz.prog κ 342 (S9 l w_ h e_) [.h s1 l.length,I w_,I h,I e_] [] [] (fun r (y:AC)=>.t [.h y r.1.length,.b r.2]) (fun r y=>[ow y r.1]):=
 bM tok Tryz.call342 Tryz.func342 Tryz.results342 rfl rfl<|fS 0 0 (K2 l w_ h e_) [0,1,2,3] 18 [] rfl (c0 rfl (fun h=>xQ (h.a h1)) fun x7=>fN [13,14] rfl rfl (cR [] rfl rfl)<|c0 rfl (fun _=>mA) fun x8=>cR [] rfl rfl) fun x1=>aV [18] rfl rfl (c1 rfl (fun h=>FM (h.a h1)) fun x2 s2=>gL s2 [0] rfl rfl)<|c1 rfl (fun h=>FM (h.a h1)) fun x3 s3=>mP mI 0 rfl rfl rfl fun x4 h2 s4 h3=>fun hF=>dT 0 h3 h2 rfl rfl rfl rfl rfl<|ltN kK [] ((⟨h,e_⟩:bP)) () pJ rfl rfl rfl rfl rfl rfl rfl rfl rfl rfl rfl rfl rfl fun s5=>ap 4 pJ rfl rfl rfl rfl rfl rfl rfl (fun h=>(h.o 5 rfl)) rfl rfl hF fun hF s6=>dT 0 h3 h2 rfl rfl rfl rfl rfl<|ceS mI 1 [4] [10,22,23,25,37] (⟨x4.Rows++([(⟨h,e_⟩:bP)])⟩:aP) s6 rfl rfl rfl rfl rfl rfl rfl rfl rfl rfl<|wi hF<|c0 rfl (fun h=>xQ (h.o 6 rfl)) fun x5=>aV [39] rfl rfl (c1 rfl (fun h=>FM (h.a h1)) fun x6 s7=>gL s7 [7] rfl rfl)<|gL s3 [6] rfl rfl
theorem aDT{s:Sub}{b:aA}{w_:Int}{s1 s2 s3 s4 s5 s6 s7:AC}{b0 b1:Nat×Nat}:VS Tryz.prog κ 281 (EN s b w_) [.p 0 0,.p 1 0,I w_] [b0,b1] [.box 0 [I s.Kind,I s.A,I s.Pc,I s.E,I s.Row,I s.B,I s.H,I s.Out,I s.Code,.b s.dW],.box 1 [.h s1 b.Mem.aC.Bytes.length,.h s2 b.Mem.aC.Class.length,.h s3 b.Mem.aB.Global.length,.h s4 b.Mem.aB.bA.length,I b.aD.aJ,.h s5 b.aD.aM.length,.h s6 b.aH.length,.h s7 b.bO.length],ow s1 (b.Mem.aC.Bytes:List Int),ow s2 (b.Mem.aC.Class:List Int),ow s3 (b.Mem.aB.Global:List aG),ow s4 (b.Mem.aB.bA:List aG),ow s5 (b.aD.aM:List cQ),ow s6 (b.aH:List aP),ow s7 (b.bO:List Int)] (fun(r:Sub×aA) (y:AC)=>.t []) (fun(r:Sub×aA) (y:AC)=>[.box 0 [I r.1.Kind,I r.1.A,I r.1.Pc,I r.1.E,I r.1.Row,I r.1.B,I r.1.H,I r.1.Out,I r.1.Code,.b r.1.dW],.box 1 [.h s1 r.2.Mem.aC.Bytes.length,.h s2 r.2.Mem.aC.Class.length,.h s3 r.2.Mem.aB.Global.length,.h s4 r.2.Mem.aB.bA.length,I r.2.aD.aJ,.h s5 r.2.aD.aM.length,.h y r.2.aH.length,.h s7 r.2.bO.length],ow s1 r.2.Mem.aC.Bytes,ow s2 r.2.Mem.aC.Class,ow s3 r.2.Mem.aB.Global,ow s4 r.2.Mem.aB.bA,ow s5 r.2.aD.aM,ow y r.2.aH,ow s7 r.2.bO]):=
 bM tok Tryz.call281 Tryz.func281 Tryz.results281 rfl rfl<|aV [28,33] rfl rfl (Z4 s6 [0,1,2,3,4,5,6,7,8] rfl rfl)<|fS 0 2 (AA s b w_) [0,1,2] 45 [0,2,3,4,5,6,7,8,1] rfl (jP aL [0,1] rfl<|fN [50,51] rfl rfl (cR [0,2,3,4,5,6,7,8,1] rfl rfl)<|c0 rfl (fun _=>fJ) fun x9=>cR [0,2,3,4,5,6,7,8,1] rfl rfl) fun x1=>aV [45] rfl rfl (pG 0 0 0 10 [] rfl rfl rfl rfl rfl (fun _=>iT) fun x2 _=>Z4 s6 [0,8,1,2,3,4,5,6,7] rfl rfl)<|fS 0 2 (z9 s b w_) [0,1,2] 66 [0,1,2,3,4,5,6,7,8] rfl (jP aL [0,8] rfl<|c0 rfl (fun h=>DZ (h.o 1 rfl) (h.o 2 rfl) (h.o 3 rfl) (h.o 4 rfl)) fun x7=>fN [76,77] rfl rfl (cR [0,1,2,3,4,5,6,7,8] rfl rfl)<|c0 rfl (fun h=>aES (h.o 6 rfl)) fun x8=>cR [0,1,2,3,4,5,6,7,8] rfl rfl) fun x3=>aV [66] rfl rfl (pG 0 0 0 10 [] rfl rfl rfl rfl rfl (fun _=>iT) fun x4 _=>Z4 s6 [0,8,1,2,3,4,5,6,7] rfl rfl)<|jP aL [0] rfl<|c1 rfl (fun h=>aM4 (h.o 6 rfl)) fun x5 s8=>pG 0 0 0 10 [] rfl rfl rfl rfl rfl (fun _=>iT) fun x6 _=>Z4 s8 [0,8,1,2,3,4,5,9,7] rfl rfl
theorem aRN{c:aD}{w_ e_:Int}{s1:AC}(h1:aQ κ s1 c.aM):VS Tryz.prog κ 343 (YV c w_ e_) [.g [I c.aJ,.h s1 c.aM.length],I w_,I e_] [] [] (fun r (y:AC)=>.t [.g [I r.1.aJ,.h y r.1.aM.length],.b r.2]) (fun r y=>[ow y r.1.aM]):=
 bM tok Tryz.call343 Tryz.func343 Tryz.results343 rfl rfl<|c1 rfl (fun h=>FL (h.a h1)) fun x1 s2=>fS 0 3 (P5 w_ e_ x1) [1,2,6,8] 19 [1,2,3] rfl (c0 rfl (fun h=>uR (h.a h1)) fun x6=>fN [14,15] rfl rfl (cR [1,2,3] rfl rfl)<|c0 rfl (fun _=>mA) fun x7=>cR [1,2,3] rfl rfl) fun x2=>aV [19] rfl rfl (gL s2 [1] rfl rfl)<|mP wG 1 rfl rfl rfl fun x3 h2 _ h3=>fun hF=>dT 3 h3 h2 rfl rfl rfl rfl rfl<|wi hF<|mH 0 4 (FB w_ x1) [6,8,9] (fun(x4:Bool) (_:Unit)=>[(25,.b x4)]) [0,2,5] (fun x4 _=>[ow s2 (x1.aM:List cQ)]) rfl (fN [30,31] rfl rfl (fun hF=>sF rfl<|tZ wG 3 [] h2 () rfl rfl rfl rfl rfl rfl rfl<|wY () [6,0,2,5] hF rfl)<|fN [35,36,37] rfl rfl (fun hF=>sF rfl<|tZ wG 3 [] h2 () rfl rfl rfl rfl rfl rfl rfl<|wY () [6,0,2,5] hF rfl)<|fun hF=>sF rfl<|tZ wG 3 [] h2 () rfl rfl rfl rfl rfl rfl rfl<|wY () [6,0,2,5] hF rfl) fun x4 _=>aV [25] rfl rfl (gL s2 [0] rfl rfl)<|fun hF=>ro wG 0 3 3 rfl rfl rfl rfl hF fun x5 h4 hF _=>wi hF<|aV [46,51] rfl rfl (fun hF=>sR rfl<|nD wG 4 [] [] ({x5 with Seen:=aI (x5.Seen+1)}:cQ) () rfl rfl rfl rfl rfl rfl rfl rfl<|CD s2 List.length_set.symm [(59,1)] [(1,1),(2,1)] rfl rfl rfl<|fR rfl rfl<|nB (hT:=tok) s2 [7] hF rfl Tryz.results343 rfl rfl rfl rfl)<|fun hF=>sR rfl<|nD wG 4 [] [] ({x5 with jD:=true,Seen:=0}:cQ) () rfl rfl rfl rfl rfl rfl rfl rfl<|CD s2 List.length_set.symm [(66,1)] [(1,1),(2,1)] rfl rfl rfl<|fR rfl rfl<|nB (hT:=tok) s2 [7] hF rfl Tryz.results343 rfl rfl rfl rfl
theorem aVG{c:aD}{e_:Int}{s1:AC}(h1:aQ κ s1 c.aM):VS Tryz.prog κ 344 (aF0 c e_) [.g [I c.aJ,.h s1 c.aM.length],I e_] [] [] (fun r (y:AC)=>.t [.g [I r.1.aJ,.h y r.1.aM.length],.b r.2]) (fun r y=>[ow y r.1.aM]):=
 bM tok Tryz.call344 Tryz.func344 Tryz.results344 rfl rfl<|c1 rfl (fun h=>FL (h.a h1)) fun x1 s2=>fS 0 3 (P6 x1) [4,6] 22 [1,2,3] rfl (c0 rfl (fun h=>uR (h.a h1)) fun x3=>fN [11,12] rfl rfl (cR [1,2,3] rfl rfl)<|fN [16,17,18] rfl rfl (cR [1,2,3] rfl rfl)<|cR [1,2,3] rfl rfl) fun x2=>aV [22] rfl rfl (gL s2 [1] rfl rfl)<|gL s2 [1] rfl rfl
theorem aB3{s:Sub}{b:aA}{s1 s2 s3 s4 s5 s6 s7:AC}{b0 b1:Nat×Nat}:VS Tryz.prog κ 282 (DC s b) [.p 0 0,.p 1 0] [b0,b1] [.box 0 [I s.Kind,I s.A,I s.Pc,I s.E,I s.Row,I s.B,I s.H,I s.Out,I s.Code,.b s.dW],.box 1 [.h s1 b.Mem.aC.Bytes.length,.h s2 b.Mem.aC.Class.length,.h s3 b.Mem.aB.Global.length,.h s4 b.Mem.aB.bA.length,I b.aD.aJ,.h s5 b.aD.aM.length,.h s6 b.aH.length,.h s7 b.bO.length],ow s1 (b.Mem.aC.Bytes:List Int),ow s2 (b.Mem.aC.Class:List Int),ow s3 (b.Mem.aB.Global:List aG),ow s4 (b.Mem.aB.bA:List aG),ow s5 (b.aD.aM:List cQ),ow s6 (b.aH:List aP),ow s7 (b.bO:List Int)] (fun(r:Sub×aA) (y:AC)=>.t []) (fun(r:Sub×aA) (y:AC)=>[.box 0 [I r.1.Kind,I r.1.A,I r.1.Pc,I r.1.E,I r.1.Row,I r.1.B,I r.1.H,I r.1.Out,I r.1.Code,.b r.1.dW],.box 1 [.h s1 r.2.Mem.aC.Bytes.length,.h s2 r.2.Mem.aC.Class.length,.h s3 r.2.Mem.aB.Global.length,.h s4 r.2.Mem.aB.bA.length,I r.2.aD.aJ,.h y r.2.aD.aM.length,.h s6 r.2.aH.length,.h s7 r.2.bO.length],ow s1 r.2.Mem.aC.Bytes,ow s2 r.2.Mem.aC.Class,ow s3 r.2.Mem.aB.Global,ow s4 r.2.Mem.aB.bA,ow y r.2.aD.aM,ow s6 r.2.aH,ow s7 r.2.bO]):=
 bM tok Tryz.call282 Tryz.func282 Tryz.results282 rfl rfl<|aV [7,12] rfl rfl (Z4 s5 [0,1,2,3,4,5,6,7,8] rfl rfl)<|fS 0 2 (yJ s b) [0,1] 27 [0,2,3,4,5,6,7,8,1] rfl (fN [32,33] rfl rfl (c0 rfl (fun _=>mA) fun x8=>cR [0,2,3,4,5,6,7,8,1] rfl rfl)<|cR [0,2,3,4,5,6,7,8,1] rfl rfl) fun x1=>aV [27] rfl rfl (jP aL [0] rfl<|c1 rfl (fun h=>aRN (h.o 5 rfl)) fun x2 s8=>aV [60] rfl rfl (pG 0 0 0 10 [] rfl rfl rfl rfl rfl (fun _=>iT) fun x3 _=>gL s8 [0,8,1,2,3,4,9,6,7] rfl rfl)<|aV [74] rfl rfl (Z4 s8 [0,8,1,2,3,4,9,6,7] rfl rfl)<|Z4 s8 [0,8,1,2,3,4,9,6,7] rfl rfl)<|aV [78,83] rfl rfl (jP aL [0] rfl<|c1 rfl (fun h=>aVG (h.o 5 rfl)) fun x4 s9=>mH 0 2 (yI s b x4) [0,1] (fun(x5:Int) (_:Unit)=>[]) [1,2,3,4,9,6,7,8] (fun x5 _=>[.box 0 [I s.Kind,I s.A,I s.Pc,I s.E,I s.Row,I s.B,I s.H,I x5,I s.Code,.b s.dW]]) rfl (aV [4,96,99] rfl rfl (cR [0,1,2,3,4,9,6,7,8] rfl rfl)<|cR [0,1,2,3,4,9,6,7,8] rfl rfl) fun x5 _=>pG 0 0 0 10 [] rfl rfl rfl rfl rfl (fun _=>iT (s:=({s with Out:=x5}:Sub))) fun x6 _=>Z4 s9 [0,8,1,2,3,4,5,6,7] rfl rfl)<|pG 0 0 0 10 [] rfl rfl rfl rfl rfl (fun _=>iT) fun x7 _=>Z4 s5 [0,8,1,2,3,4,5,6,7] rfl rfl
theorem aG4{l:List aP}{w_ i:Int}{s1:AC}(h1:aQ κ s1 l):V0 Tryz.prog κ 345 (TU l w_ i) [.h s1 l.length,I w_,I i] .b:=
 bM tok Tryz.call345 Tryz.func345 Tryz.results345 rfl rfl<|fS 0 0 P7 [] 6 [] rfl (c0 rfl (fun _=>mA) fun x2=>fN [8,9] rfl rfl (eG sU rfl h1 rfl fun x3 s2 h2=>c0 rfl (fun _=>fJ) fun x4=>cR [] rfl rfl)<|cR [] rfl rfl) fun x1=>aY rfl rfl
theorem aLV{r_:bP}{e_:Int}:V0 Tryz.prog κ 347 (aAK r_ e_) [.g [I r_.Handle,I r_.aJ],I e_] .b:=
 bM tok Tryz.call347 Tryz.func347 Tryz.results347 rfl rfl<|fS 0 1 VL [] 4 [] rfl (fN [6,7] rfl rfl (cR [] rfl rfl)<|cR [] rfl rfl) fun x1=>aY rfl rfl
theorem aGA{s:Sub}{b:aA}{w_:Int}{s1 s2 s3 s4 s5 s6 s7:AC}{b0 b1:Nat×Nat}:VS Tryz.prog κ 346 (DD s b w_) [.p 0 0,.p 1 0,I w_] [b0,b1] [.box 0 [I s.Kind,I s.A,I s.Pc,I s.E,I s.Row,I s.B,I s.H,I s.Out,I s.Code,.b s.dW],.box 1 [.h s1 b.Mem.aC.Bytes.length,.h s2 b.Mem.aC.Class.length,.h s3 b.Mem.aB.Global.length,.h s4 b.Mem.aB.bA.length,I b.aD.aJ,.h s5 b.aD.aM.length,.h s6 b.aH.length,.h s7 b.bO.length],ow s1 (b.Mem.aC.Bytes:List Int),ow s2 (b.Mem.aC.Class:List Int),ow s3 (b.Mem.aB.Global:List aG),ow s4 (b.Mem.aB.bA:List aG),ow s5 (b.aD.aM:List cQ),ow s6 (b.aH:List aP),ow s7 (b.bO:List Int)] (fun(r:Sub×aA) (y:Unit)=>.t []) (fun(r:Sub×aA) (y:Unit)=>[.box 0 [I r.1.Kind,I r.1.A,I r.1.Pc,I r.1.E,I r.1.Row,I r.1.B,I r.1.H,I r.1.Out,I r.1.Code,.b r.1.dW],.box 1 [.h s1 r.2.Mem.aC.Bytes.length,.h s2 r.2.Mem.aC.Class.length,.h s3 r.2.Mem.aB.Global.length,.h s4 r.2.Mem.aB.bA.length,I r.2.aD.aJ,.h s5 r.2.aD.aM.length,.h s6 r.2.aH.length,.h s7 r.2.bO.length],ow s1 r.2.Mem.aC.Bytes,ow s2 r.2.Mem.aC.Class,ow s3 r.2.Mem.aB.Global,ow s4 r.2.Mem.aB.bA,ow s5 r.2.aD.aM,ow s6 r.2.aH,ow s7 r.2.bO]):=
 bM tok Tryz.call346 Tryz.func346 Tryz.results346 rfl rfl<|fun hF=>aWM rfl rfl rfl rfl<|wi hF<|CH 6 [0,1,2] [0,2,3,4,5,6,7,8,1] Out.brk [0,1] [0,2,3,4,5,6,7,8,1] rfl rfl (fun hF1 x2 hr1=>mP mI 6 rfl rfl rfl fun x4 h1 s8 h2=>fun hG1=>dT 2 h2 h1 rfl rfl rfl rfl rfl<|wi hG1<|aV [23] rfl rfl (fun hG1=>dT 2 h2 h1 rfl rfl rfl rfl rfl<|wi hG1<|mP kK 12 rfl rfl rfl fun x5 h3 _ h4=>fun hG1=>dT 3 h4 h3 rfl rfl rfl rfl rfl<|wi hG1<|jP aL [0,8,11,15,16] rfl<|c0 rfl (fun _=>aLV) fun x6=>aV [42] rfl rfl (jP aL [8,11,15,16] rfl<|fun hG1=>sR rfl<|tZ kK 13 [] h3 () rfl rfl rfl rfl rfl rfl rfl<|tZ mI 9 [17] h1 s8 rfl rfl rfl rfl rfl rfl rfl<|nB (hT:=tok) () [0,8,1,2,3,4,5,18,7] (re hG1 rfl hr1 hF1) rfl Tryz.results346 rfl rfl rfl rfl)<|fun hG1=>sF rfl<|tZ kK 13 [] h3 () rfl rfl rfl rfl rfl rfl rfl<|tZ mI 9 [17] h1 s8 rfl rfl rfl rfl rfl rfl rfl<|EY () [0,1,2,3,4,5,18,7,8] hG1 rfl)<|fun hG1=>sX rfl<|tZ mI 9 [12] h1 s8 rfl rfl rfl rfl rfl rfl rfl<|bkR () [0,1,2,3,4,5,13,7,8] hG1 hr1 rfl)<|wm (F:=TV s b) rfl<|pG 0 0 0 10 [] rfl rfl rfl rfl rfl (fun _=>iT) fun x3 _=>Z4 () [0,8,1,2,3,4,5,6,7] rfl rfl
theorem aET{s:List bP}{i j:Int}{s1:AC}:VS Tryz.prog κ 380 (N2 s i j) [.h s1 s.length,I i,I j] [] [ow s1 (s:List bP)] (fun(r:(List bP)) (y:AC)=>.h y r.length) (fun(r:(List bP)) (y:AC)=>[ow y r]):=
 bM tok Tryz.call380 Tryz.func380 Tryz.results380 rfl rfl<|fun hF=>cpc 0 rfl rfl fun hc1=>a1V hc1 rfl rfl rfl rfl rfl rfl rfl rfl hF fun hF h1=>wi hF<|aV [16] rfl rfl (gL s1 [0] rfl rfl)<|jP aL [] rfl<|fun hF=>aTK hc1 rfl rfl rfl rfl rfl rfl hF fun hF h2=>aKM hc1 rfl rfl rfl rfl rfl rfl hF fun hF h3=>nd hF fun hab hF=>ap2 0 i.toNat j.toNat ⟨hab,h3.1⟩ rfl rfl rfl rfl rfl rfl rfl rfl rfl fun h4=>a44 0 (i.toNat+(s.length - j.toNat)) h4.2 (O1 h4.1 h4.2) rfl rfl rfl rfl rfl rfl rfl rfl rfl hF fun hF h5=>clr 0 (((((fD s i.toNat (s.drop j.toNat)).take (i.toNat+(s.length - j.toNat))).drop 0).length:Int).toNat) ((s.length:Int).toNat) ((⟨0,0⟩:bP):bP) h5 pJ rfl (fun _=>(aIZ (⟨0,0⟩:bP))) rfl rfl rfl rfl rfl rfl rfl rfl<|sR rfl<|poR 0 0 (i.toNat+(s.length - j.toNat)) rfl rfl (a1U h4 (Nat.le_trans h5.1 h5.2)) (aYA (Nat.le_of_eq (by rw [Int.toNat_natCast,O1 h4.1 h4.2];rfl)) (Nat.le_trans h5.1 h5.2))<|nB (hT:=tok) (AC.sub s1 2 0) [0] hF rfl Tryz.results380 rfl rfl rfl rfl
theorem aPP{l:List aP}{w_ i:Int}{s1:AC}(h1:aQ κ s1 l):VS Tryz.prog κ 348 (VM l w_ i) [.h s1 l.length,I w_,I i] [] [] (fun r (y:AC)=>.t [.h y r.1.length,.b r.2]) (fun r y=>[ow y r.1]):=
 bM tok Tryz.call348 Tryz.func348 Tryz.results348 rfl rfl<|c1 rfl (fun h=>FM (h.a h1)) fun x1 s2=>fS 0 0 (NJ w_ i x1) [1,2,8] 20 [0] rfl (c0 rfl (fun h=>xQ (h.a h1)) fun x5=>fN [13,14] rfl rfl (cR [0] rfl rfl)<|c0 rfl (fun h=>aG4 (h.a h1)) fun x6=>cR [0] rfl rfl) fun x2=>aV [20] rfl rfl (gL s2 [0] rfl rfl)<|mP mI 0 rfl rfl rfl fun x3 h2 s3 h3=>fun hF=>dT 0 h3 h2 rfl rfl rfl rfl rfl<|wi hF<|fZ [4] rfl rfl rfl rfl (fun _=>aET) fun x4 s4=>fun hF=>dT 0 h3 h2 rfl rfl rfl rfl rfl<|sR rfl<|nD mI 1 [5] [6,8,22,24,35] (⟨x4⟩:aP) s4 rfl rfl rfl rfl rfl rfl rfl rfl<|nB (hT:=tok) s2 [6] hF rfl Tryz.results348 rfl rfl rfl rfl
theorem aRO{h:aC}{slot gen:Int}{s1 s2:AC}(h1:aQ κ s1 h.Bytes)(h2:aQ κ s2 h.Class):VS Tryz.prog κ 381 (aEI h slot gen) [.g [.h s1 h.Bytes.length,.h s2 h.Class.length],I slot,I gen] [] [] (fun r (y:AC×AC)=>.t [.g [.h y.1 r.1.Bytes.length,.h y.2 r.1.Class.length],.b r.2]) (fun r y=>[ow y.1 r.1.Bytes,ow y.2 r.1.Class]):=
 bM tok Tryz.call381 Tryz.func381 Tryz.results381 rfl rfl<|mH 0 3 (fun(p:Int×(List Int)×(List Int))=>WM slot gen p.1 p.2.1 p.2.2) [1,2,6] (fun(p:Int×(List Int)×(List Int)) (u:AC×AC)=>[(8,.p 2 0),(9,I p.1)]) [1] (fun p u=>[ow u.1 (p.2.1:List Int),ow u.2 (p.2.2:List Int),.box 2 [.h u.1 p.2.1.length,.h u.2 p.2.2.length]]) rfl (jP aL [0,1] rfl<|fun hF=>bd hF fun x10 hA4 hF=>bd hF fun x11 hA5 hF=>kS rfl rfl (have hq9:=rb hA4;wi hq9<|c1 rfl (fun h=>NM (h.a h1) (h.a h2)) fun u9 s6=>fun hq9=>match u9,hq9 with | _,rfl=>kS rfl rfl (have hq10:=rb hA5;wi hq10<|c0 rfl (fun h=>JZ (h.a h1) (h.a h2)) fun u10=>fun hq10=>match u10,hq10 with | _,rfl=>wi hF<|pE (p:=(x11,x10.Bytes,x10.Class)) (s6.1,s6.2) [2,3,4,1] rfl rfl) (have hq11:=rb hA5;wi hq11<|c0 rfl (fun h=>JZ (h.a h1) (h.a h2)) fun u11=>fun hq11=>match u11,hq11 with | _,rfl=>wi hF<|pE (p:=(x11,x10.Bytes,x10.Class)) (s6.1,s6.2) [2,3,4,1] rfl rfl)) (have hq12:=rb hA4;wi hq12<|c1 rfl (fun h=>NM (h.a h1) (h.a h2)) fun u12 s7=>fun hq12=>match u12,hq12 with | _,rfl=>have hq13:=rb hA5;wi hq13<|c0 rfl (fun h=>JZ (h.a h1) (h.a h2)) fun u13=>fun hq13=>match u13,hq13 with | _,rfl=>wi hF<|pE (p:=(x11,x10.Bytes,x10.Class)) (s7.1,s7.2) [3,4,2,1] rfl rfl)) fun⟨x1,x2,x3⟩ ⟨s3,s4⟩=>fS 0 3 (P8 slot gen x1 x2 x3) [1,2,6,8,9] 21 [3,0,1,2] rfl (fN [16,17] rfl rfl (cR [3,0,1,2] rfl rfl)<|c0 rfl (fun _=>fJ) fun x9=>cR [3,0,1,2] rfl rfl) fun x4=>aV [21] rfl rfl (gL (s3,s4) [1,2] rfl rfl)<|mH 0 3 (WL x3) [6,8] (fun(x5:(List Int)) (_:Unit)=>[]) [0,2] (fun x5 _=>[ow s3 (x5:List Int),.box 2 [.h s3 x5.length,.h s4 x3.length]]) rfl (jP aL [0] rfl<|fun hF=>bd hF fun x6 hA1 hF=>bd hF fun x7 hA2 hF=>bd hF fun x8 hA3 hF=>kS rfl rfl (have hq1:=rb hA1;wi hq1<|c0 rfl (fun _=>G3) fun u1=>fun hq1=>match u1,hq1 with | _,rfl=>have hq2:=rb hA2;wi hq2<|c0 rfl (fun _=>G5) fun u2=>fun hq2=>match u2,hq2 with | _,rfl=>have hq3:=rb hA3;wi hq3<|fZ [1] rfl rfl rfl rfl (fun _=>AP) fun u3 _=>fun hq3=>un 4 [24] [] [(3,0)] rfl rfl rfl rfl rfl rfl fun hl2=>match u3,hq3 with | _,rfl=>wi hF<|cR (p:=(x8)) [4,3,0,2] rfl rfl) (have hq4:=rb hA1;wi hq4<|c0 rfl (fun _=>G3) fun u4=>fun hq4=>match u4,hq4 with | _,rfl=>kS rfl rfl (have hq5:=rb hA2;wi hq5<|c0 rfl (fun _=>G5) fun u5=>fun hq5=>match u5,hq5 with | _,rfl=>have hq6:=rb hA3;wi hq6<|fZ [1] rfl rfl rfl rfl (fun _=>AP) fun u6 _=>fun hq6=>un 4 [24] [] [(3,0)] rfl rfl rfl rfl rfl rfl fun hl3=>match u6,hq6 with | _,rfl=>wi hF<|cR (p:=(x8)) [4,3,0,2] rfl rfl) (have hq7:=rb hA2;wi hq7<|c0 rfl (fun _=>G5) fun u7=>fun hq7=>match u7,hq7 with | _,rfl=>have hq8:=rb hA3;wi hq8<|fZ [1] rfl rfl rfl rfl (fun _=>AP) fun u8 _=>fun hq8=>un 4 [24] [] [(3,0)] rfl rfl rfl rfl rfl rfl fun hl4=>match u8,hq8 with | _,rfl=>wi hF<|cR (p:=(x8)) [4,3,0,2] rfl rfl))) fun x5 _=>gL (s3,s4) [0,3] rfl rfl
theorem aVH{l:aB}{w_ c slot:Int}{s1 s2:AC}(h1:aQ κ s1 l.Global)(h2:aQ κ s2 l.bA):VS Tryz.prog κ 382 (aKT l w_ c slot) [.g [.h s1 l.Global.length,.h s2 l.bA.length],I w_,I c,I slot] [] [] (fun r (y:AC×AC)=>.t [.g [.h y.1 r.1.Global.length,.h y.2 r.1.bA.length],.b r.2]) (fun r y=>[ow y.1 r.1.Global,ow y.2 r.1.bA]):=
 bM tok Tryz.call382 Tryz.func382 Tryz.results382 rfl rfl<|c1 rfl (fun h=>uD (h.a h1) (h.a h2)) fun x1 s3=>c0 rfl (fun _=>aJH) fun x2=>fS 0 3 (K3 c slot x1 x2) [2,3,8,10,11] 34 [1,2,3,4] rfl (c0 rfl (fun h=>QL (h.a h1) (h.a h2)) fun x6=>fN [20,21] rfl rfl (cR [1,2,3,4] rfl rfl)<|fN [23,24,25] rfl rfl (cR [1,2,3,4] rfl rfl)<|c0 rfl (fun _=>TB) fun x7=>fN [28,29,30] rfl rfl (cR [1,2,3,4] rfl rfl)<|c0 rfl (fun h=>aG3 (h.a h1) (h.a h2)) fun x8=>cR [1,2,3,4] rfl rfl) fun x3=>aV [34] rfl rfl (gL (s3.1,s3.2) [1,2] rfl rfl)<|mP kZ 2 rfl rfl rfl fun x4 h3 s4 h4=>fun hF=>dT 3 h4 h3 rfl rfl rfl rfl rfl<|wi hF<|aV [45] rfl rfl (mP kZ 1 rfl rfl rfl fun x5 h5 s5 h6=>fun hF=>dT 4 h6 h5 rfl rfl rfl rfl rfl<|lt1 rfl bD rfl rfl rfl rfl fun s6=>ap 11 bD rfl rfl rfl rfl rfl rfl rfl (fun h=>(h.o 12 rfl)) rfl rfl hF fun hF s7=>sR rfl<|nD kZ 8 [11] [47] (⟨x5.bB++([slot])⟩:aG) s7 rfl rfl rfl rfl rfl rfl rfl rfl<|CD s3.1 List.length_set.symm [(60,0)] [(0,0),(3,0)] rfl rfl rfl<|tZ kZ 4 [7] h3 s4 rfl rfl rfl rfl rfl rfl rfl<|fR rfl rfl<|nB (hT:=tok) (s3.1,s3.2) [13,14] hF rfl Tryz.results382 rfl rfl rfl rfl)<|fun hF=>lt1 rfl bD rfl rfl rfl rfl fun s8=>ap 7 bD rfl rfl rfl rfl rfl rfl rfl (fun h=>(h.o 8 rfl)) rfl rfl hF fun hF s9=>sR rfl<|nD kZ 4 [7] [37] (⟨x4.bB++([slot])⟩:aG) s9 rfl rfl rfl rfl rfl rfl rfl rfl<|CD s3.2 List.length_set.symm [(60,1)] [(0,1),(3,1)] rfl rfl rfl<|fR rfl rfl<|nB (hT:=tok) (s3.1,s3.2) [1,9] hF rfl Tryz.results382 rfl rfl rfl rfl
theorem aTR{m:Mem}{w_ h:Int}{s1 s2 s3 s4:AC}(h1:aQ κ s1 m.aC.Bytes)(h2:aQ κ s2 m.aC.Class)(h3:aQ κ s3 m.aB.Global)(h4:aQ κ s4 m.aB.bA):VS Tryz.prog κ 349 (aBU m w_ h) [.g [.h s1 m.aC.Bytes.length,.h s2 m.aC.Class.length,.h s3 m.aB.Global.length,.h s4 m.aB.bA.length],I w_,I h] [] [] (fun r (y:AC×AC×AC×AC)=>.g [.h y.1 r.aC.Bytes.length,.h y.2.1 r.aC.Class.length,.h y.2.2.1 r.aB.Global.length,.h y.2.2.2 r.aB.bA.length]) (fun r y=>[ow y.1 r.aC.Bytes,ow y.2.1 r.aC.Class,ow y.2.2.1 r.aB.Global,ow y.2.2.2 r.aB.bA]):=
 bM tok Tryz.call349 Tryz.func349 Tryz.results349 rfl rfl<|c1 rfl (fun h=>aRO (h.a h1) (h.a h2)) fun x1 s5=>mH 0 4 (ZL m w_ h) [1,3,6,7,8] (fun(x2:Mem) (u:AC×AC)=>[(11,.p 3 0)]) [0,1] (fun x2 u=>[ow s5.1 (x2.aC.Bytes:List Int),ow s5.2 (x2.aC.Class:List Int),ow u.1 (x2.aB.Global:List aG),ow u.2 (x2.aB.bA:List aG),.box 3 [.h s5.1 x2.aC.Bytes.length,.h s5.2 x2.aC.Class.length,.h u.1 x2.aB.Global.length,.h u.2 x2.aB.bA.length]]) rfl (jP aL [0,1,4] rfl<|fun hF=>bd hF fun x6 hA1 hF=>kS rfl rfl (have hq1:=rb hA1;wi hq1<|c1 rfl (fun h=>uD (h.a h3) (h.a h4)) fun u1 s12=>fun hq1=>match u1,hq1 with | _,rfl=>wi hF<|pE (p:=((⟨x1.1,x6⟩:Mem))) (s12.1,s12.2) [2,3,5,6,7,0,1] rfl rfl) (have hq2:=rb hA1;wi hq2<|c1 rfl (fun h=>uD (h.a h3) (h.a h4)) fun u2 s13=>fun hq2=>match u2,hq2 with | _,rfl=>wi hF<|pE (p:=((⟨x1.1,x6⟩:Mem))) (s13.1,s13.2) [2,3,6,7,5,0,1] rfl rfl)) fun x2 ⟨s6,s7⟩=>mH 0 4 ZK [6,11] (fun(x3:Mem) (u:AC×AC)=>[]) [6] (fun x3 u=>[ow s5.1 (x3.aC.Bytes:List Int),ow s5.2 (x3.aC.Class:List Int),ow u.1 (x3.aB.Global:List aG),ow u.2 (x3.aB.bA:List aG),.box 3 [.h s5.1 x3.aC.Bytes.length,.h s5.2 x3.aC.Class.length,.h u.1 x3.aB.Global.length,.h u.2 x3.aB.bA.length]]) rfl (aV [31] rfl rfl (jP aL [5,6] rfl<|c0 rfl (fun h=>JY (h.a h1) (h.a h2)) fun x4=>c1 rfl (fun h=>aVH (h.a h3) (h.a h4)) fun x5 s10=>pE (s10.1,s10.2) [0,1,7,8,4,6] rfl rfl)<|pE (s6,s7) [0,1,2,3,4,6] rfl rfl) fun x3 ⟨s8,s9⟩=>gL (s5.1,s5.2,s8,s9) [0,1,2,3] rfl rfl
theorem aB4{s:Sub}{b:aA}{w_:Int}{s1 s2 s3 s4 s5 s6 s7:AC}{b0 b1:Nat×Nat}:VS Tryz.prog κ 283 (DE s b w_) [.p 0 0,.p 1 0,I w_] [b0,b1] [.box 0 [I s.Kind,I s.A,I s.Pc,I s.E,I s.Row,I s.B,I s.H,I s.Out,I s.Code,.b s.dW],.box 1 [.h s1 b.Mem.aC.Bytes.length,.h s2 b.Mem.aC.Class.length,.h s3 b.Mem.aB.Global.length,.h s4 b.Mem.aB.bA.length,I b.aD.aJ,.h s5 b.aD.aM.length,.h s6 b.aH.length,.h s7 b.bO.length],ow s1 (b.Mem.aC.Bytes:List Int),ow s2 (b.Mem.aC.Class:List Int),ow s3 (b.Mem.aB.Global:List aG),ow s4 (b.Mem.aB.bA:List aG),ow s5 (b.aD.aM:List cQ),ow s6 (b.aH:List aP),ow s7 (b.bO:List Int)] (fun(r:Sub×aA) (y:AC×AC×AC×AC×AC)=>.t []) (fun(r:Sub×aA) (y:AC×AC×AC×AC×AC)=>[.box 0 [I r.1.Kind,I r.1.A,I r.1.Pc,I r.1.E,I r.1.Row,I r.1.B,I r.1.H,I r.1.Out,I r.1.Code,.b r.1.dW],.box 1 [.h y.1 r.2.Mem.aC.Bytes.length,.h y.2.1 r.2.Mem.aC.Class.length,.h y.2.2.1 r.2.Mem.aB.Global.length,.h y.2.2.2.1 r.2.Mem.aB.bA.length,I r.2.aD.aJ,.h s5 r.2.aD.aM.length,.h y.2.2.2.2 r.2.aH.length,.h s7 r.2.bO.length],ow y.1 r.2.Mem.aC.Bytes,ow y.2.1 r.2.Mem.aC.Class,ow y.2.2.1 r.2.Mem.aB.Global,ow y.2.2.2.1 r.2.Mem.aB.bA,ow s5 r.2.aD.aM,ow y.2.2.2.2 r.2.aH,ow s7 r.2.bO]):=
 bM tok Tryz.call283 Tryz.func283 Tryz.results283 rfl rfl<|fS 0 2 (oA s b w_) [0,1,2] 6 [0,2,3,4,5,6,7,8,1] rfl (jP aL [0,1] rfl<|c0 rfl (fun h=>aG4 (h.o 7 rfl)) fun x13=>fN [16,17] rfl rfl (mP mI 7 rfl rfl rfl fun x14 h7 s11 h8=>fun hF=>dT 2 h8 h7 rfl rfl rfl rfl rfl<|wi hF<|mP kK 12 rfl rfl rfl fun x15 h9 _ h10=>fun hF=>dT 3 h10 h9 rfl rfl rfl rfl rfl<|sF rfl<|tZ kK 13 [] h9 () rfl rfl rfl rfl rfl rfl rfl<|tZ mI 9 [16] h7 s11 rfl rfl rfl rfl rfl rfl rfl<|wY () [0,2,3,4,5,6,17,8,1] hF rfl)<|cR [0,2,3,4,5,6,7,8,1] rfl rfl) fun x1=>aV [41,46] rfl rfl (Z4 (s1,s2,s3,s4,s6) [0,8,1,2,3,4,5,6,7] rfl rfl)<|aV [61,66] rfl rfl (aL0 0 0 0 10 8 1 0 8 [1,2,3,4,5,6,7] rfl rfl rfl rfl rfl (fun _=>aGA) fun x2 _=>Z4 (s1,s2,s3,s4,s6) [0,8,9,10,11,12,13,14,15] rfl rfl)<|fS 0 2 (mF s b w_ x1) [0,1,2,6] 71 [0,1,2,3,4,5,6,7,8] rfl (fN [76,77] rfl rfl (c0 rfl (fun _=>mA) fun x12=>fN [82,83,84] rfl rfl (cR [0,1,2,3,4,5,6,7,8] rfl rfl)<|cR [0,1,2,3,4,5,6,7,8] rfl rfl)<|cR [0,1,2,3,4,5,6,7,8] rfl rfl) fun x3=>aV [71] rfl rfl (jP aL [0,8] rfl<|mP oI 7 rfl rfl rfl fun x4 h1 _ h2=>fun hF=>dT 2 h2 h1 rfl rfl rfl rfl rfl<|wi hF<|aV [101] rfl rfl (fun hF=>sR rfl<|tZ oI 9 [] h1 () rfl rfl rfl rfl rfl rfl rfl<|nB (hT:=tok) (s1,s2,s3,s4,s6) [0,8,1,2,3,4,5,6,12] hF rfl Tryz.results283 rfl rfl rfl rfl)<|aV [124] rfl rfl (fun hF=>sF rfl<|tZ oI 9 [] h1 () rfl rfl rfl rfl rfl rfl rfl<|nB (hT:=tok) (s1,s2,s3,s4,s6) [0,8,1,2,3,4,5,6,12] hF rfl Tryz.results283 rfl rfl rfl rfl)<|fun hF=>sF rfl<|tZ oI 9 [] h1 () rfl rfl rfl rfl rfl rfl rfl<|nB (hT:=tok) (s1,s2,s3,s4,s6) [0,8,1,2,3,4,5,6,12] hF rfl Tryz.results283 rfl rfl rfl rfl)<|fS 0 2 (jY s b w_) [0,1,2] 128 [0,1,2,3,4,5,6,7,8] rfl (jP aL [0,8] rfl<|fN [133,134] rfl rfl (fN [6,135,136,137] rfl rfl (mP mI 6 rfl rfl rfl fun x9 h3 s10 h4=>fun hF=>dT 2 h4 h3 rfl rfl rfl rfl rfl<|wi hF<|mP kK 12 rfl rfl rfl fun x10 h5 _ h6=>fun hF=>dT 3 h6 h5 rfl rfl rfl rfl rfl<|wi hF<|c0 rfl (fun _=>aLV) fun x11=>fun hF=>sF rfl<|tZ kK 13 [] h5 () rfl rfl rfl rfl rfl rfl rfl<|tZ mI 9 [16] h3 s10 rfl rfl rfl rfl rfl rfl rfl<|wY () [0,1,2,3,4,5,17,7,8] hF rfl)<|cR [0,1,2,3,4,5,6,7,8] rfl rfl)<|cR [0,1,2,3,4,5,6,7,8] rfl rfl) fun x5=>aV [128] rfl rfl (jP aL [0] rfl<|c1 rfl (fun h=>aPP (h.o 6 rfl)) fun x6 s8=>jP aL [0] rfl<|c1 rfl (fun h=>aTR (h.o 1 rfl) (h.o 2 rfl) (h.o 3 rfl) (h.o 4 rfl)) fun x7 s9=>Z4 (s9.1,s9.2.1,s9.2.2.1,s9.2.2.2,s8) [0,8,10,11,12,13,5,9,7] rfl rfl)<|pG 0 0 0 10 [] rfl rfl rfl rfl rfl (fun _=>iT) fun x8 _=>Z4 (s1,s2,s3,s4,s6) [0,8,1,2,3,4,5,6,7] rfl rfl
theorem aJJ{c:aD}{w_ e_:Int}{s1:AC}(h1:aQ κ s1 c.aM):VS Tryz.prog κ 350 (aBV c w_ e_) [.g [I c.aJ,.h s1 c.aM.length],I w_,I e_] [] [] (fun r (y:AC)=>.t [.g [I r.1.aJ,.h y r.1.aM.length],.b r.2]) (fun r y=>[ow y r.1.aM]):=
 bM tok Tryz.call350 Tryz.func350 Tryz.results350 rfl rfl<|c1 rfl (fun h=>FL (h.a h1)) fun x1 s2=>fS 0 3 (MH w_ e_ x1) [1,2,6,8] 25 [1,2,3] rfl (c0 rfl (fun h=>uR (h.a h1)) fun x4=>fN [13,14] rfl rfl (cR [1,2,3] rfl rfl)<|c0 rfl (fun _=>mA) fun x5=>fN [17,18,19] rfl rfl (cR [1,2,3] rfl rfl)<|c0 rfl (fun _=>fJ) fun x6=>cR [1,2,3] rfl rfl) fun x2=>aV [25] rfl rfl (gL s2 [1] rfl rfl)<|mP wG 1 rfl rfl rfl fun x3 h2 _ h3=>fun hF=>dT 3 h3 h2 rfl rfl rfl rfl rfl<|sR rfl<|nD wG 3 [] [28] (⟨true,e_,false,0⟩:cQ) () rfl rfl rfl rfl rfl rfl rfl rfl<|CD s2 List.length_set.symm [(33,1)] [(0,1),(2,1)] rfl rfl rfl<|fR rfl rfl<|nB (hT:=tok) s2 [6] hF rfl Tryz.results350 rfl rfl rfl rfl
theorem aH0{s:Sub}{b:aA}{w_:Int}{s1 s2 s3 s4 s5 s6 s7:AC}{b0 b1:Nat×Nat}:VS Tryz.prog κ 284 (K4 s b w_) [.p 0 0,.p 1 0,I w_] [b0,b1] [.box 0 [I s.Kind,I s.A,I s.Pc,I s.E,I s.Row,I s.B,I s.H,I s.Out,I s.Code,.b s.dW],.box 1 [.h s1 b.Mem.aC.Bytes.length,.h s2 b.Mem.aC.Class.length,.h s3 b.Mem.aB.Global.length,.h s4 b.Mem.aB.bA.length,I b.aD.aJ,.h s5 b.aD.aM.length,.h s6 b.aH.length,.h s7 b.bO.length],ow s1 (b.Mem.aC.Bytes:List Int),ow s2 (b.Mem.aC.Class:List Int),ow s3 (b.Mem.aB.Global:List aG),ow s4 (b.Mem.aB.bA:List aG),ow s5 (b.aD.aM:List cQ),ow s6 (b.aH:List aP),ow s7 (b.bO:List Int)] (fun(r:Sub×aA) (y:AC)=>.t []) (fun(r:Sub×aA) (y:AC)=>[.box 0 [I r.1.Kind,I r.1.A,I r.1.Pc,I r.1.E,I r.1.Row,I r.1.B,I r.1.H,I r.1.Out,I r.1.Code,.b r.1.dW],.box 1 [.h s1 r.2.Mem.aC.Bytes.length,.h s2 r.2.Mem.aC.Class.length,.h s3 r.2.Mem.aB.Global.length,.h s4 r.2.Mem.aB.bA.length,I r.2.aD.aJ,.h y r.2.aD.aM.length,.h s6 r.2.aH.length,.h s7 r.2.bO.length],ow s1 r.2.Mem.aC.Bytes,ow s2 r.2.Mem.aC.Class,ow s3 r.2.Mem.aB.Global,ow s4 r.2.Mem.aB.bA,ow y r.2.aD.aM,ow s6 r.2.aH,ow s7 r.2.bO]):=
 bM tok Tryz.call284 Tryz.func284 Tryz.results284 rfl rfl<|aV [14,15] rfl rfl (Z4 s5 [0,1,2,3,4,5,6,7,8] rfl rfl)<|aV [27,28] rfl rfl (mH 0 3 (fun(p:Bool×Int×(List cQ))=>LP s b p.1 p.2.1 p.2.2) [0,1] (fun(p:Bool×Int×(List cQ)) (s8:AC)=>[(6,.p 2 0),(7,.b p.1)]) [0,2,3,4,5,6,7,8,1] (fun p s8=>[ow s8 (p.2.2:List cQ),.box 2 [I p.2.1,.h s8 p.2.2.length]]) rfl (jP aL [0,1] rfl<|fun hF=>bd hF fun x5 hA1 hF=>kS rfl rfl (have hq1:=rb hA1;wi hq1<|c1 rfl (fun h=>aJJ (h.o 6 rfl)) fun u1 s10=>fun hq1=>match u1,hq1 with | _,rfl=>wi hF<|pE (p:=(x5.2,x5.1.aJ,x5.1.aM)) s10 [9,10,0,2,3,4,5,6,7,8,1] rfl rfl) (have hq2:=rb hA1;wi hq2<|c1 rfl (fun h=>aJJ (h.o 6 rfl)) fun u2 s11=>fun hq2=>match u2,hq2 with | _,rfl=>wi hF<|pE (p:=(x5.2,x5.1.aJ,x5.1.aM)) s11 [10,9,0,2,3,4,5,6,7,8,1] rfl rfl)) fun⟨x1,x2,x3⟩ s8=>aV [43] rfl rfl (pG 2 0 0 10 [] rfl rfl rfl rfl rfl (fun _=>iT) fun x4 _=>gL s5 [2,10,3,4,5,6,7,8,9] rfl rfl)<|Z4 s8 [2,10,3,4,5,6,0,8,9] rfl rfl)<|aV [53,54] rfl rfl (jP aL [0,1] rfl<|aV [64] rfl rfl (pG 0 0 0 10 [] rfl rfl rfl rfl rfl (fun _=>iT) fun x6 _=>Z4 s5 [0,1,2,3,4,5,6,7,8] rfl rfl)<|Z4 s5 [0,1,2,3,4,5,6,7,8] rfl rfl)<|pG 0 0 0 10 [] rfl rfl rfl rfl rfl (fun _=>iT) fun x7 _=>Z4 s5 [0,1,2,3,4,5,6,7,8] rfl rfl
theorem C1{s:Sub}{b:aA}{w_:Int}{s1 s2 s3 s4 s5 s6 s7:AC}{b0 b1:Nat×Nat}:VS Tryz.prog κ 207 (w9 s b w_) [.p 0 0,.p 1 0,I w_] [b0,b1] [.box 0 [I s.Kind,I s.A,I s.Pc,I s.E,I s.Row,I s.B,I s.H,I s.Out,I s.Code,.b s.dW],.box 1 [.h s1 b.Mem.aC.Bytes.length,.h s2 b.Mem.aC.Class.length,.h s3 b.Mem.aB.Global.length,.h s4 b.Mem.aB.bA.length,I b.aD.aJ,.h s5 b.aD.aM.length,.h s6 b.aH.length,.h s7 b.bO.length],ow s1 (b.Mem.aC.Bytes:List Int),ow s2 (b.Mem.aC.Class:List Int),ow s3 (b.Mem.aB.Global:List aG),ow s4 (b.Mem.aB.bA:List aG),ow s5 (b.aD.aM:List cQ),ow s6 (b.aH:List aP),ow s7 (b.bO:List Int)] (fun(r:Sub×aA) (y:AC×AC×AC×AC×AC×AC)=>.t []) (fun(r:Sub×aA) (y:AC×AC×AC×AC×AC×AC)=>[.box 0 [I r.1.Kind,I r.1.A,I r.1.Pc,I r.1.E,I r.1.Row,I r.1.B,I r.1.H,I r.1.Out,I r.1.Code,.b r.1.dW],.box 1 [.h y.1 r.2.Mem.aC.Bytes.length,.h y.2.1 r.2.Mem.aC.Class.length,.h y.2.2.1 r.2.Mem.aB.Global.length,.h y.2.2.2.1 r.2.Mem.aB.bA.length,I r.2.aD.aJ,.h y.2.2.2.2.1 r.2.aD.aM.length,.h y.2.2.2.2.2 r.2.aH.length,.h s7 r.2.bO.length],ow y.1 r.2.Mem.aC.Bytes,ow y.2.1 r.2.Mem.aC.Class,ow y.2.2.1 r.2.Mem.aB.Global,ow y.2.2.2.1 r.2.Mem.aB.bA,ow y.2.2.2.2.1 r.2.aD.aM,ow y.2.2.2.2.2 r.2.aH,ow s7 r.2.bO]):=
 bM tok Tryz.call207 Tryz.func207 Tryz.results207 rfl rfl<|aV [9] rfl rfl (gL (s1,s2,s3,s4,s5,s6) [0,1,2,3,4,5,6,7,8] rfl rfl)<|aV [16,17] rfl rfl (aL0 0 0 0 10 1 1 0 8 [2,3,4,5,6,7,8] rfl rfl rfl rfl rfl (fun _=>aER) fun x1 s8=>Z4 (s8.1,s8.2.1,s8.2.2.1,s8.2.2.2,s5,s6) [0,1,9,10,11,12,13,14,15] rfl rfl)<|aV [22,23] rfl rfl (aL0 0 0 0 10 1 1 0 8 [2,3,4,5,6,7,8] rfl rfl rfl rfl rfl (fun _=>aDT) fun x2 s9=>Z4 (s1,s2,s3,s4,s5,s9) [0,1,9,10,11,12,13,14,15] rfl rfl)<|aV [28,29] rfl rfl (aL0 0 0 0 10 1 1 0 8 [2,3,4,5,6,7,8] rfl rfl rfl rfl rfl (fun _=>aB3) fun x3 s10=>Z4 (s1,s2,s3,s4,s10,s6) [0,1,9,10,11,12,13,14,15] rfl rfl)<|aV [33,34] rfl rfl (aL0 0 0 0 10 1 1 0 8 [2,3,4,5,6,7,8] rfl rfl rfl rfl rfl (fun _=>aB4) fun x4 s11=>Z4 (s11.1,s11.2.1,s11.2.2.1,s11.2.2.2.1,s5,s11.2.2.2.2) [0,1,9,10,11,12,13,14,15] rfl rfl)<|aV [39,40] rfl rfl (aL0 0 0 0 10 1 1 0 8 [2,3,4,5,6,7,8] rfl rfl rfl rfl rfl (fun _=>aH0) fun x5 s12=>Z4 (s1,s2,s3,s4,s12,s6) [0,1,9,10,11,12,13,14,15] rfl rfl)<|pG 0 0 0 10 [] rfl rfl rfl rfl rfl (fun _=>iT) fun x6 _=>Z4 (s1,s2,s3,s4,s5,s6) [0,1,2,3,4,5,6,7,8] rfl rfl
theorem nI{j:bG}{pc:Int}{b0:Nat×Nat}:VS Tryz.prog κ 208 (jR j pc) [.p 0 0,I pc] [b0] [.box 0 [.b j.g7,I j.Op.Kind,I j.Op.Cell,I j.Op.gD,I j.Op.eY,I j.aK,I j.Pc,I j.Sub.Kind,I j.Sub.A,I j.Sub.Pc,I j.Sub.E,I j.Sub.Row,I j.Sub.B,I j.Sub.H,I j.Sub.Out,I j.Sub.Code,.b j.Sub.dW,I j.H,I j.Old,I j.eY,I j.Code]] (fun(r:bG) (y:Unit)=>.t []) (fun(r:bG) (y:Unit)=>[.box 0 [.b r.g7,I r.Op.Kind,I r.Op.Cell,I r.Op.gD,I r.Op.eY,I r.aK,I r.Pc,I r.Sub.Kind,I r.Sub.A,I r.Sub.Pc,I r.Sub.E,I r.Sub.Row,I r.Sub.B,I r.Sub.H,I r.Sub.Out,I r.Sub.Code,.b r.Sub.dW,I r.H,I r.Old,I r.eY,I r.Code]]):=
 bM tok Tryz.call208 Tryz.func208 Tryz.results208 rfl rfl<|Z4 () [0] rfl rfl
theorem aPQ{slot c:Int}:V0 Tryz.prog κ 383 (VN slot c) [I slot,I c] I:=
 bM tok Tryz.call383 Tryz.func383 Tryz.results383 rfl rfl<|c0 rfl (fun _=>G3) fun x1=>aV [10] rfl rfl (aY rfl rfl)<|aY rfl rfl
theorem aPR{slot c:Int}:V0 Tryz.prog κ 352 (aBW slot c) [I slot,I c] (fun r=>.g [I r.a15,I r.To]):=
 bM tok Tryz.call352 Tryz.func352 Tryz.results352 rfl rfl<|c0 rfl (fun _=>aPQ) fun x1=>aV [10] rfl rfl (aY rfl rfl)<|c0 rfl (fun _=>ZP) fun x2=>aY rfl rfl
theorem QM{h:aC}{slot at_ width:Int}{s1 s2:AC}(h1:aQ κ s1 h.Bytes)(h2:aQ κ s2 h.Class):V0 Tryz.prog κ 289 (K5 h slot at_ width) [.g [.h s1 h.Bytes.length,.h s2 h.Class.length],I slot,I at_,I width] I:=
 bM tok Tryz.call289 Tryz.func289 Tryz.results289 rfl rfl<|c0 rfl (fun h=>JY (h.a h1) (h.a h2)) fun x1=>c0 rfl (fun _=>aPR) fun x2=>c0 rfl (fun _=>fJ) fun x3=>aV [24] rfl rfl (aY rfl rfl)<|aY rfl rfl
theorem aRP{m:Mem}{h at_ width:Int}{s1 s2 s3 s4:AC}(h1:aQ κ s1 m.aC.Bytes)(h2:aQ κ s2 m.aC.Class)(h3:aQ κ s3 m.aB.Global)(h4:aQ κ s4 m.aB.bA):V0 Tryz.prog κ 287 (aEJ m h at_ width) [.g [.h s1 m.aC.Bytes.length,.h s2 m.aC.Class.length,.h s3 m.aB.Global.length,.h s4 m.aB.bA.length],I h,I at_,I width] (fun r=>.t [I r.1,I r.2]):=
 bM tok Tryz.call287 Tryz.func287 Tryz.results287 rfl rfl<|fS 0 1 (P9 m h at_ width) [1,2,3,4] 11 [0] rfl (c0 rfl (fun h=>K8 (h.a h1) (h.a h2) (h.a h3) (h.a h4)) fun x5=>fN [14,15] rfl rfl (cR [0] rfl rfl)<|c0 rfl (fun _=>WR) fun x6=>cR [0] rfl rfl) fun x1=>aV [11] rfl rfl (aY rfl rfl)<|c0 rfl (fun h=>DZ (h.a h1) (h.a h2) (h.a h3) (h.a h4)) fun x2=>aV [20,24] rfl rfl (aY rfl rfl)<|c0 rfl (fun h=>QM (h.a h1) (h.a h2)) fun x3=>aV [33] rfl rfl (aY rfl rfl)<|c0 rfl (fun h=>QK (h.a h1)) fun x4=>aY rfl rfl
theorem xR{m:Mem}{h at_ width n:Int}{s1 s2 s3 s4:AC}(h1:aQ κ s1 m.aC.Bytes)(h2:aQ κ s2 m.aC.Class)(h3:aQ κ s3 m.aB.Global)(h4:aQ κ s4 m.aB.bA):VS Tryz.prog κ 209 (VO m h at_ width n) [.g [.h s1 m.aC.Bytes.length,.h s2 m.aC.Class.length,.h s3 m.aB.Global.length,.h s4 m.aB.bA.length],I h,I at_,I width,I n] [] [] (fun r (y:AC×AC×AC×AC)=>.t [.g [.h y.1 r.1.aC.Bytes.length,.h y.2.1 r.1.aC.Class.length,.h y.2.2.1 r.1.aB.Global.length,.h y.2.2.2 r.1.aB.bA.length],I r.2]) (fun r y=>[ow y.1 r.1.aC.Bytes,ow y.2.1 r.1.aC.Class,ow y.2.2.1 r.1.aB.Global,ow y.2.2.2 r.1.aB.bA]):=
 bM tok Tryz.call209 Tryz.func209 Tryz.results209 rfl rfl<|c1 rfl (fun h=>aEP (h.a h1) (h.a h2) (h.a h3) (h.a h4)) fun x1 s5=>c0 rfl (fun _=>G5) fun x2=>c0 rfl (fun h=>aRP (h.a h1) (h.a h2) (h.a h3) (h.a h4)) fun x3=>aV [30] rfl rfl (gL (s5.1,s5.2.1,s5.2.2.1,s5.2.2.2) [2,3,4,5] rfl rfl)<|aV [34] rfl rfl (gL (s5.1,s5.2.1,s5.2.2.1,s5.2.2.2) [2,3,4,5] rfl rfl)<|mH 0 3 aC9 [10,12] (fun(x4:Mem) (_:Unit)=>[]) [1] (fun x4 _=>[ow s5.1 (x4.aC.Bytes:List Int),ow s5.2.1 (x4.aC.Class:List Int),ow s5.2.2.1 (x4.aB.Global:List aG),ow s5.2.2.2 (x4.aB.bA:List aG),.box 2 [.h s5.1 x4.aC.Bytes.length,.h s5.2.1 x4.aC.Class.length,.h s5.2.2.1 x4.aB.Global.length,.h s5.2.2.2 x4.aB.bA.length]]) rfl (jP aL [0,1] rfl<|fun hF=>bd hF fun x5 hA1 hF=>bd hF fun x6 hA2 hF=>kS rfl rfl (have hq1:=rb hA1;wi hq1<|c0 rfl (fun h=>QM (h.a h1) (h.a h2)) fun u1=>fun hq1=>match u1,hq1 with | _,rfl=>have hq2:=rb hA2;wi hq2<|fZ [2] rfl rfl rfl rfl (fun _=>AP) fun u2 _=>fun hq2=>un 7 [38] [(17,0)] [(6,0)] rfl rfl rfl rfl rfl rfl fun hl2=>match u2,hq2 with | _,rfl=>wi hF<|cR (p:=((⟨(⟨x6,x1.aC.Class⟩:aC),x1.aB⟩:Mem))) [7,3,4,5,6,1] rfl rfl) (have hq3:=rb hA1;wi hq3<|c0 rfl (fun h=>QM (h.a h1) (h.a h2)) fun u3=>fun hq3=>match u3,hq3 with | _,rfl=>have hq4:=rb hA2;wi hq4<|fZ [2] rfl rfl rfl rfl (fun _=>AP) fun u4 _=>fun hq4=>un 7 [38] [(17,0)] [(6,0)] rfl rfl rfl rfl rfl rfl fun hl3=>match u4,hq4 with | _,rfl=>wi hF<|cR (p:=((⟨(⟨x6,x1.aC.Class⟩:aC),x1.aB⟩:Mem))) [7,3,4,5,6,1] rfl rfl)) fun x4 _=>gL (s5.1,s5.2.1,s5.2.2.1,s5.2.2.2) [0,1,2,3] rfl rfl
theorem aK7{s:aE}{w_:Int}{s1 s2 s3 s4 s5 s6 s7 s8 s9 s10 s11:AC}{b0:Nat×Nat}:VS Tryz.prog κ 124 (QD s w_) [.p 0 0,I w_] [b0] [.box 0 [.h s1 s.aA.Mem.aC.Bytes.length,.h s2 s.aA.Mem.aC.Class.length,.h s3 s.aA.Mem.aB.Global.length,.h s4 s.aA.Mem.aB.bA.length,I s.aA.aD.aJ,.h s5 s.aA.aD.aM.length,.h s6 s.aA.aH.length,.h s7 s.aA.bO.length,.h s8 s.Cells.length,.h s9 s.aR.length,.h s10 s.aU.length,.h s11 s.Log.length,I s.aK],ow s1 (s.aA.Mem.aC.Bytes:List Int),ow s2 (s.aA.Mem.aC.Class:List Int),ow s3 (s.aA.Mem.aB.Global:List aG),ow s4 (s.aA.Mem.aB.bA:List aG),ow s5 (s.aA.aD.aM:List cQ),ow s6 (s.aA.aH:List aP),ow s7 (s.aA.bO:List Int),ow s8 (s.Cells:List Int),ow s9 (s.aR:List bG),ow s10 (s.aU:List Queue),ow s11 (s.Log:List Ev)] (fun(r:aE) (y:AC×AC×AC×AC×AC×AC×AC)=>.t []) (fun(r:aE) (y:AC×AC×AC×AC×AC×AC×AC)=>[.box 0 [.h y.1 r.aA.Mem.aC.Bytes.length,.h y.2.1 r.aA.Mem.aC.Class.length,.h y.2.2.1 r.aA.Mem.aB.Global.length,.h y.2.2.2.1 r.aA.Mem.aB.bA.length,I r.aA.aD.aJ,.h y.2.2.2.2.1 r.aA.aD.aM.length,.h y.2.2.2.2.2.1 r.aA.aH.length,.h s7 r.aA.bO.length,.h s8 r.Cells.length,.h s9 r.aR.length,.h s10 r.aU.length,.h y.2.2.2.2.2.2 r.Log.length,I r.aK],ow y.1 r.aA.Mem.aC.Bytes,ow y.2.1 r.aA.Mem.aC.Class,ow y.2.2.1 r.aA.Mem.aB.Global,ow y.2.2.2.1 r.aA.Mem.aB.bA,ow y.2.2.2.2.1 r.aA.aD.aM,ow y.2.2.2.2.2.1 r.aA.aH,ow s7 r.aA.bO,ow s8 r.Cells,ow s9 r.aR,ow s10 r.aU,ow y.2.2.2.2.2.2 r.Log]):=
 bM tok Tryz.call124 Tryz.func124 Tryz.results124 rfl rfl<|mP eO 9 rfl rfl rfl fun x1 h1 _ h2=>fun hF=>dT 1 h2 h1 rfl rfl rfl rfl rfl<|wi hF<|aV [19,20] rfl rfl (jP aL [14] rfl<|aL0 13 1 7 10 0 0 0 8 [1,2,3,4,5,6,7] rfl rfl rfl rfl rfl (fun _=>C1) fun x2 s12=>aV [39,45] rfl rfl (fun hF=>sF rfl<|nD eO 12 [] [10] ({x1 with Sub:=x2.1}:bG) () rfl rfl rfl rfl rfl rfl rfl rfl<|CD s9 List.length_set.symm [] [(0,9)] rfl rfl rfl<|fR rfl rfl<|nB (hT:=tok) (s12.1,s12.2.1,s12.2.2.1,s12.2.2.2.1,s12.2.2.2.2.1,s12.2.2.2.2.2,s11) [0,15,16,17,18,19,20,21,8,22,10,11] hF rfl Tryz.results124 rfl rfl rfl rfl)<|aV [46,52] rfl rfl (pG 13 1 0 21 [] rfl rfl rfl rfl rfl (fun _=>gE (j:=({x1 with Sub:=x2.1}:bG))) fun x3 _=>fun hF=>sF rfl<|nD eO 12 [] [10] x3 () rfl rfl rfl rfl rfl rfl rfl rfl<|CD s9 List.length_set.symm [] [(0,9)] rfl rfl rfl<|fR rfl rfl<|nB (hT:=tok) (s12.1,s12.2.1,s12.2.2.1,s12.2.2.2.1,s12.2.2.2.2.1,s12.2.2.2.2.2,s11) [0,15,16,17,18,19,20,21,8,22,10,11] hF rfl Tryz.results124 rfl rfl rfl rfl)<|c0 rfl (fun _=>C0) fun x4=>aV [60,67] rfl rfl (pG 13 1 0 21 [] rfl rfl rfl rfl rfl (fun _=>gE (j:=({x1 with Sub:=x2.1}:bG))) fun x5 _=>fun hF=>sF rfl<|nD eO 12 [] [10] x5 () rfl rfl rfl rfl rfl rfl rfl rfl<|CD s9 List.length_set.symm [] [(0,9)] rfl rfl rfl<|fR rfl rfl<|nB (hT:=tok) (s12.1,s12.2.1,s12.2.2.1,s12.2.2.2.1,s12.2.2.2.2.1,s12.2.2.2.2.2,s11) [0,15,16,17,18,19,20,21,8,22,10,11] hF rfl Tryz.results124 rfl rfl rfl rfl)<|pG 13 1 0 21 [] rfl rfl rfl rfl rfl (fun _=>nI (j:=({x1 with Sub:=x2.1,H:=x2.1.Out}:bG))) fun x6 _=>fun hF=>sF rfl<|nD eO 12 [] [10] x6 () rfl rfl rfl rfl rfl rfl rfl rfl<|CD s9 List.length_set.symm [] [(0,9)] rfl rfl rfl<|fR rfl rfl<|nB (hT:=tok) (s12.1,s12.2.1,s12.2.2.1,s12.2.2.2.1,s12.2.2.2.2.1,s12.2.2.2.2.2,s11) [0,15,16,17,18,19,20,21,8,22,10,11] hF rfl Tryz.results124 rfl rfl rfl rfl)<|aV [70,71] rfl rfl (mH 0 3 (fun(p:Int×Mem)=>QA s w_ p.1 p.2) [0,4] (fun(p:Int×Mem) (u:AC×AC×AC×AC)=>[(5,.p 2 0),(6,I p.1)]) [1,2,3,4,5,6,7,8,10,11,0,14] (fun p u=>[ow s9 (s.aR:List bG),ow u.1 (p.2.aC.Bytes:List Int),ow u.2.1 (p.2.aC.Class:List Int),ow u.2.2.1 (p.2.aB.Global:List aG),ow u.2.2.2 (p.2.aB.bA:List aG),.box 2 [.h u.1 p.2.aC.Bytes.length,.h u.2.1 p.2.aC.Class.length,.h u.2.2.1 p.2.aB.Global.length,.h u.2.2.2 p.2.aB.bA.length]]) rfl (jP aL [0,14] rfl<|fun hF=>bd hF fun x13 hA1 hF=>aHL rfl rfl (kS rfl rfl (kS rfl rfl (have hq1:=rb hA1;wi hq1<|c1 rfl (fun h=>xR (h.o 1 rfl) (h.o 2 rfl) (h.o 3 rfl) (h.o 4 rfl)) fun u1 s18=>fun hq1=>match u1,hq1 with | _,rfl=>sF rfl<|tZ eO 12 [] h1 () rfl rfl rfl rfl rfl rfl rfl<|wY (p:=(x13.2,x13.1)) (s18.1,s18.2.1,s18.2.2.1,s18.2.2.2) [20,15,16,17,18,19,1,2,3,4,5,6,7,8,10,11,0,14] hF rfl) (have hq2:=rb hA1;wi hq2<|c1 rfl (fun h=>xR (h.o 1 rfl) (h.o 2 rfl) (h.o 3 rfl) (h.o 4 rfl)) fun u2 s19=>fun hq2=>match u2,hq2 with | _,rfl=>sF rfl<|tZ eO 12 [] h1 () rfl rfl rfl rfl rfl rfl rfl<|wY (p:=(x13.2,x13.1)) (s19.1,s19.2.1,s19.2.2.1,s19.2.2.2) [20,16,17,18,19,15,1,2,3,4,5,6,7,8,10,11,0,14] hF rfl)) (have hq3:=rb hA1;wi hq3<|c1 rfl (fun h=>xR (h.o 1 rfl) (h.o 2 rfl) (h.o 3 rfl) (h.o 4 rfl)) fun u3 s20=>fun hq3=>match u3,hq3 with | _,rfl=>sF rfl<|tZ eO 12 [] h1 () rfl rfl rfl rfl rfl rfl rfl<|wY (p:=(x13.2,x13.1)) (s20.1,s20.2.1,s20.2.2.1,s20.2.2.2) [20,16,17,18,19,15,1,2,3,4,5,6,7,8,10,11,0,14] hF rfl)) (kS rfl rfl (kS rfl rfl (have hq4:=rb hA1;wi hq4<|c1 rfl (fun h=>xR (h.o 1 rfl) (h.o 2 rfl) (h.o 3 rfl) (h.o 4 rfl)) fun u4 s21=>fun hq4=>match u4,hq4 with | _,rfl=>sF rfl<|tZ eO 12 [] h1 () rfl rfl rfl rfl rfl rfl rfl<|wY (p:=(x13.2,x13.1)) (s21.1,s21.2.1,s21.2.2.1,s21.2.2.2) [20,15,16,17,18,19,1,2,3,4,5,6,7,8,10,11,0,14] hF rfl) (have hq5:=rb hA1;wi hq5<|c1 rfl (fun h=>xR (h.o 1 rfl) (h.o 2 rfl) (h.o 3 rfl) (h.o 4 rfl)) fun u5 s22=>fun hq5=>match u5,hq5 with | _,rfl=>sF rfl<|tZ eO 12 [] h1 () rfl rfl rfl rfl rfl rfl rfl<|wY (p:=(x13.2,x13.1)) (s22.1,s22.2.1,s22.2.2.1,s22.2.2.2) [20,16,17,18,19,15,1,2,3,4,5,6,7,8,10,11,0,14] hF rfl)) (have hq6:=rb hA1;wi hq6<|c1 rfl (fun h=>xR (h.o 1 rfl) (h.o 2 rfl) (h.o 3 rfl) (h.o 4 rfl)) fun u6 s23=>fun hq6=>match u6,hq6 with | _,rfl=>sF rfl<|tZ eO 12 [] h1 () rfl rfl rfl rfl rfl rfl rfl<|wY (p:=(x13.2,x13.1)) (s23.1,s23.2.1,s23.2.2.1,s23.2.2.2) [20,16,17,18,19,15,1,2,3,4,5,6,7,8,10,11,0,14] hF rfl)) (kS rfl rfl (have hq7:=rb hA1;wi hq7<|c1 rfl (fun h=>xR (h.o 1 rfl) (h.o 2 rfl) (h.o 3 rfl) (h.o 4 rfl)) fun u7 s24=>fun hq7=>match u7,hq7 with | _,rfl=>sF rfl<|tZ eO 12 [] h1 () rfl rfl rfl rfl rfl rfl rfl<|wY (p:=(x13.2,x13.1)) (s24.1,s24.2.1,s24.2.2.1,s24.2.2.2) [20,16,17,18,19,15,1,2,3,4,5,6,7,8,10,11,0,14] hF rfl) (have hq8:=rb hA1;wi hq8<|c1 rfl (fun h=>xR (h.o 1 rfl) (h.o 2 rfl) (h.o 3 rfl) (h.o 4 rfl)) fun u8 s25=>fun hq8=>match u8,hq8 with | _,rfl=>sF rfl<|tZ eO 12 [] h1 () rfl rfl rfl rfl rfl rfl rfl<|wY (p:=(x13.2,x13.1)) (s25.1,s25.2.1,s25.2.2.1,s25.2.2.2) [20,16,17,18,19,15,1,2,3,4,5,6,7,8,10,11,0,14] hF rfl))) fun⟨x7,x8⟩ ⟨s13,s14,s15,s16⟩=>aV [91] rfl rfl (fun hF=>ro eO 0 17 1 rfl rfl rfl rfl hF fun x9 h3 hF _=>wi hF<|pG 19 1 0 21 [] rfl rfl rfl rfl rfl (fun _=>gE) fun x10 _=>fun hF=>sR rfl<|nD eO 18 [] [] x10 () rfl rfl rfl rfl rfl rfl rfl rfl<|CD s9 List.length_set.symm [] [(16,9)] rfl rfl rfl<|fR rfl rfl<|nB (hT:=tok) (s1,s2,s3,s4,s5,s6,s11) [16,6,7,8,9,10,11,12,13,21,14,15] hF rfl Tryz.results124 rfl rfl rfl rfl)<|fun hF=>ro eO 0 17 1 rfl rfl rfl rfl hF fun x11 h5 hF _=>wi hF<|pG 19 1 0 21 [] rfl rfl rfl rfl rfl (fun _=>nI) fun x12 _=>fun hF=>sF rfl<|nD eO 18 [] [] x12 () rfl rfl rfl rfl rfl rfl rfl rfl<|CD s9 List.length_set.symm [] [(16,9)] rfl rfl rfl<|fR rfl rfl<|nB (hT:=tok) (s13,s14,s15,s16,s5,s6,s11) [16,1,2,3,4,10,11,12,13,21,14,15] hF rfl Tryz.results124 rfl rfl rfl rfl)<|aV [102,103] rfl rfl (fun hF=>Z3 eO 12 [] h1 () rfl rfl rfl rfl rfl rfl rfl rfl rfl<|wi hF<|jP aL [0,14] rfl<|fun hF=>ro eO 15 14 1 rfl rfl rfl rfl hF fun x14 h7 hF _=>wi hF<|mP oI 8 rfl rfl rfl fun x15 h9 _ h10=>fun hF=>dT 2 h10 h9 rfl rfl rfl rfl rfl<|wi hF<|mH 0 3 (QC s w_ x14 x15) [0,1,4] (fun(x16:(List Int)) (_:Unit)=>[]) [1,2,3,4,5,6,7,10,11,14] (fun x16 _=>[ow s8 (x16:List Int),ow s9 (s.aR.set w_.toNat ({x14 with Old:=x15}:bG):List bG),.box 0 [.h s1 s.aA.Mem.aC.Bytes.length,.h s2 s.aA.Mem.aC.Class.length,.h s3 s.aA.Mem.aB.Global.length,.h s4 s.aA.Mem.aB.bA.length,I s.aA.aD.aJ,.h s5 s.aA.aD.aM.length,.h s6 s.aA.aH.length,.h s7 s.aA.bO.length,.h s8 x16.length,.h s9 (s.aR.set w_.toNat ({x14 with Old:=x15}:bG)).length,.h s10 s.aU.length,.h s11 s.Log.length,I s.aK]]) rfl (fun hF=>Z3 oI 19 [] h9 () rfl rfl rfl rfl rfl rfl rfl rfl rfl<|ceS eO 16 [] [10] ({x14 with Old:=x15}:bG) () rfl rfl rfl rfl rfl rfl rfl rfl rfl rfl<|rh s9 List.length_set.symm [] [(0,9)] rfl rfl rfl<|wi hF<|jP aL [0,14,18,21] rfl<|fun hF=>bd hF fun x24 hA4 hF=>bd hF fun x25 hA5 hF=>kS rfl rfl (have hq13:=rb hA4;ro eO 23 14 1 rfl rfl rfl rfl hq13 fun u13 h23 hq13 _=>match u13,hq13 with | _,rfl=>have hq14:=rb hA5;wi hq14<|mP oI 22 rfl rfl rfl fun u14 h25 _ h26=>fun hq14=>dT 3 h26 h25 rfl rfl rfl rfl rfl<|match u14,hq14 with | _,rfl=>sF rfl<|nD oI 27 [] [108,121] x24.H () rfl rfl rfl rfl rfl rfl rfl rfl<|CD s8 List.length_set.symm [] [(0,8)] rfl rfl rfl<|tZ eO 24 [] h23 () rfl rfl rfl rfl rfl rfl rfl<|fR rfl rfl<|wY (p:=(s.Cells.set x24.Op.Cell.toNat x24.H)) () [30,31,0,1,2,3,4,5,6,7,10,11,14] hF rfl) (have hq15:=rb hA4;ro eO 23 14 1 rfl rfl rfl rfl hq15 fun u15 h27 hq15 _=>match u15,hq15 with | _,rfl=>have hq16:=rb hA5;wi hq16<|mP oI 22 rfl rfl rfl fun u16 h29 _ h30=>fun hq16=>dT 3 h30 h29 rfl rfl rfl rfl rfl<|match u16,hq16 with | _,rfl=>sF rfl<|nD oI 27 [] [108,121] x24.H () rfl rfl rfl rfl rfl rfl rfl rfl<|CD s8 List.length_set.symm [] [(0,8)] rfl rfl rfl<|tZ eO 24 [] h27 () rfl rfl rfl rfl rfl rfl rfl<|fR rfl rfl<|wY (p:=(s.Cells.set x24.Op.Cell.toNat x24.H)) () [30,31,0,1,2,3,4,5,6,7,10,11,14] hF rfl)) fun x16 _=>mH 0 3 (QB w_) [0,4] (fun(x17:aE) (s26:AC)=>[]) [12] (fun x17 s26=>[ow s1 (x17.aA.Mem.aC.Bytes:List Int),ow s2 (x17.aA.Mem.aC.Class:List Int),ow s3 (x17.aA.Mem.aB.Global:List aG),ow s4 (x17.aA.Mem.aB.bA:List aG),ow s5 (x17.aA.aD.aM:List cQ),ow s6 (x17.aA.aH:List aP),ow s7 (x17.aA.bO:List Int),ow s8 (x17.Cells:List Int),ow s9 (x17.aR:List bG),ow s10 (x17.aU:List Queue),ow s26 (x17.Log:List Ev),.box 0 [.h s1 x17.aA.Mem.aC.Bytes.length,.h s2 x17.aA.Mem.aC.Class.length,.h s3 x17.aA.Mem.aB.Global.length,.h s4 x17.aA.Mem.aB.bA.length,I x17.aA.aD.aJ,.h s5 x17.aA.aD.aM.length,.h s6 x17.aA.aH.length,.h s7 x17.aA.bO.length,.h s8 x17.Cells.length,.h s9 x17.aR.length,.h s10 x17.aU.length,.h s26 x17.Log.length,I x17.aK]]) rfl (jP aL [12] rfl<|fun hF=>bd hF fun x22 hA2 hF=>bd hF fun x23 hA3 hF=>kS rfl rfl (have hq9:=rb hA2;ro eO 1 12 1 rfl rfl rfl rfl hq9 fun u9 h15 hq9 _=>match u9,hq9 with | _,rfl=>Z3 eO 13 [] h15 () rfl rfl rfl rfl rfl rfl rfl rfl rfl<|have hq10:=rb hA3;wi hq10<|pG 2 0 0 13 [3,4,5,6,7,8,9,0,16,10,11] rfl rfl rfl rfl rfl (fun _=>uS (s:=({s with Cells:=x16,aR:=s.aR.set w_.toNat ({x14 with Old:=x15}:bG)}:aE))) fun u10 s28=>fun hq10=>match u10,hq10 with | _,rfl=>wi hF<|pE (p:=(x23)) s28 [17,18,19,20,21,22,23,24,25,26,27,2,12] rfl rfl) (have hq11:=rb hA2;ro eO 1 12 1 rfl rfl rfl rfl hq11 fun u11 h17 hq11 _=>match u11,hq11 with | _,rfl=>Z3 eO 13 [] h17 () rfl rfl rfl rfl rfl rfl rfl rfl rfl<|have hq12:=rb hA3;wi hq12<|pG 2 0 0 13 [3,4,5,6,7,8,9,0,16,10,11] rfl rfl rfl rfl rfl (fun _=>uS (s:=({s with Cells:=x16,aR:=s.aR.set w_.toNat ({x14 with Old:=x15}:bG)}:aE))) fun u12 s29=>fun hq12=>match u12,hq12 with | _,rfl=>wi hF<|pE (p:=(x23)) s29 [17,18,19,20,21,22,23,24,25,26,27,2,12] rfl rfl)) fun x17 s26=>fun hF=>ro eO 8 12 1 rfl rfl rfl rfl hF fun x18 h11 hF _=>wi hF<|aV [148] rfl rfl (pG 14 1 0 21 [] rfl rfl rfl rfl rfl (fun _=>gE) fun x19 _=>fun hF=>sR rfl<|nD eO 13 [] [] x19 () rfl rfl rfl rfl rfl rfl rfl rfl<|CD s9 List.length_set.symm [] [(11,9)] rfl rfl rfl<|fR rfl rfl<|nB (hT:=tok) (s1,s2,s3,s4,s5,s6,s26) [11,0,1,2,3,4,5,6,7,16,9,10] hF rfl Tryz.results124 rfl rfl rfl rfl)<|c0 rfl (fun _=>MM) fun x20=>pG 14 1 0 21 [] rfl rfl rfl rfl rfl (fun _=>nI (j:=({x18 with Sub:=x20}:bG))) fun x21 _=>fun hF=>sF rfl<|nD eO 13 [] [] x21 () rfl rfl rfl rfl rfl rfl rfl rfl<|CD s9 List.length_set.symm [] [(11,9)] rfl rfl rfl<|fR rfl rfl<|nB (hT:=tok) (s1,s2,s3,s4,s5,s6,s26) [11,0,1,2,3,4,5,6,7,16,9,10] hF rfl Tryz.results124 rfl rfl rfl rfl)<|aV [161,162] rfl rfl (jP aL [14] rfl<|aL0 13 1 7 10 0 0 0 8 [1,2,3,4,5,6,7] rfl rfl rfl rfl rfl (fun _=>C1) fun x26 s30=>aV [175] rfl rfl (pG 13 1 0 21 [] rfl rfl rfl rfl rfl (fun _=>gE (j:=({x1 with Sub:=x26.1}:bG))) fun x27 _=>fun hF=>sF rfl<|nD eO 12 [] [10] x27 () rfl rfl rfl rfl rfl rfl rfl rfl<|CD s9 List.length_set.symm [] [(0,9)] rfl rfl rfl<|fR rfl rfl<|nB (hT:=tok) (s30.1,s30.2.1,s30.2.2.1,s30.2.2.2.1,s30.2.2.2.2.1,s30.2.2.2.2.2,s11) [0,15,16,17,18,19,20,21,8,22,10,11] hF rfl Tryz.results124 rfl rfl rfl rfl)<|fun hF=>sF rfl<|nD eO 12 [] [10] ({x1 with Sub:=x26.1}:bG) () rfl rfl rfl rfl rfl rfl rfl rfl<|CD s9 List.length_set.symm [] [(0,9)] rfl rfl rfl<|fR rfl rfl<|nB (hT:=tok) (s30.1,s30.2.1,s30.2.2.1,s30.2.2.2.1,s30.2.2.2.2.1,s30.2.2.2.2.2,s11) [0,15,16,17,18,19,20,21,8,22,10,11] hF rfl Tryz.results124 rfl rfl rfl rfl)<|pG 13 1 0 21 [] rfl rfl rfl rfl rfl (fun _=>gE) fun x28 _=>fun hF=>sF rfl<|nD eO 12 [] [10] x28 () rfl rfl rfl rfl rfl rfl rfl rfl<|CD s9 List.length_set.symm [] [(0,9)] rfl rfl rfl<|fR rfl rfl<|nB (hT:=tok) (s1,s2,s3,s4,s5,s6,s11) [0,1,2,3,4,5,6,7,8,15,10,11] hF rfl Tryz.results124 rfl rfl rfl rfl
theorem aAS{s:aE}{w_:Int}{s1 s2 s3 s4 s5 s6 s7 s8 s9 s10 s11:AC}{b0:Nat×Nat}:VS Tryz.prog κ 210 (JT s w_) [.p 0 0,I w_] [b0] [.box 0 [.h s1 s.aA.Mem.aC.Bytes.length,.h s2 s.aA.Mem.aC.Class.length,.h s3 s.aA.Mem.aB.Global.length,.h s4 s.aA.Mem.aB.bA.length,I s.aA.aD.aJ,.h s5 s.aA.aD.aM.length,.h s6 s.aA.aH.length,.h s7 s.aA.bO.length,.h s8 s.Cells.length,.h s9 s.aR.length,.h s10 s.aU.length,.h s11 s.Log.length,I s.aK],ow s1 (s.aA.Mem.aC.Bytes:List Int),ow s2 (s.aA.Mem.aC.Class:List Int),ow s3 (s.aA.Mem.aB.Global:List aG),ow s4 (s.aA.Mem.aB.bA:List aG),ow s5 (s.aA.aD.aM:List cQ),ow s6 (s.aA.aH:List aP),ow s7 (s.aA.bO:List Int),ow s8 (s.Cells:List Int),ow s9 (s.aR:List bG),ow s10 (s.aU:List Queue),ow s11 (s.Log:List Ev)] (fun(r:aE) (y:AC)=>.t []) (fun(r:aE) (y:AC)=>[.box 0 [.h s1 r.aA.Mem.aC.Bytes.length,.h s2 r.aA.Mem.aC.Class.length,.h s3 r.aA.Mem.aB.Global.length,.h s4 r.aA.Mem.aB.bA.length,I r.aA.aD.aJ,.h s5 r.aA.aD.aM.length,.h s6 r.aA.aH.length,.h s7 r.aA.bO.length,.h s8 r.Cells.length,.h s9 r.aR.length,.h s10 r.aU.length,.h y r.Log.length,I r.aK],ow s1 r.aA.Mem.aC.Bytes,ow s2 r.aA.Mem.aC.Class,ow s3 r.aA.Mem.aB.Global,ow s4 r.aA.Mem.aB.bA,ow s5 r.aA.aD.aM,ow s6 r.aA.aH,ow s7 r.aA.bO,ow s8 r.Cells,ow s9 r.aR,ow s10 r.aU,ow y r.Log]):=
 bM tok Tryz.call210 Tryz.func210 Tryz.results210 rfl rfl<|mP eO 9 rfl rfl rfl fun x1 h1 _ h2=>fun hF=>dT 1 h2 h1 rfl rfl rfl rfl rfl<|Z3 eO 12 [] h1 () rfl rfl rfl rfl rfl rfl rfl rfl rfl<|wi hF<|jP aL [0,14] rfl<|fun hF=>ro eO 15 14 1 rfl rfl rfl rfl hF fun x2 h3 hF _=>wi hF<|mP oI 8 rfl rfl rfl fun x3 h5 _ h6=>fun hF=>dT 2 h6 h5 rfl rfl rfl rfl rfl<|Z3 oI 19 [] h5 () rfl rfl rfl rfl rfl rfl rfl rfl rfl<|ceS eO 16 [] [8] ({x2 with H:=x3}:bG) () rfl rfl rfl rfl rfl rfl rfl rfl rfl rfl<|rh s9 List.length_set.symm [] [(0,9)] rfl rfl rfl<|wi hF<|pG 0 0 0 13 [1,2,3,4,5,6,7,22,23,10,11] rfl rfl rfl rfl rfl (fun _=>uS (s:=({s with aR:=s.aR.set w_.toNat ({x2 with H:=x3}:bG)}:aE))) fun x4 s12=>Z4 s12 [0,24,25,26,27,28,29,30,31,32,33,34] rfl rfl
theorem aPS{b:aA}{h at_ width:Int}{s1 s2 s3 s4 s5 s6 s7:AC}(h1:aQ κ s1 b.Mem.aC.Bytes)(h2:aQ κ s2 b.Mem.aC.Class)(h3:aQ κ s3 b.Mem.aB.Global)(h4:aQ κ s4 b.Mem.aB.bA)(h5:aQ κ s5 b.aD.aM)(h6:aQ κ s6 b.aH)(h7:aQ κ s7 b.bO):V0 Tryz.prog κ 290 (VP b h at_ width) [.g [.h s1 b.Mem.aC.Bytes.length,.h s2 b.Mem.aC.Class.length,.h s3 b.Mem.aB.Global.length,.h s4 b.Mem.aB.bA.length,I b.aD.aJ,.h s5 b.aD.aM.length,.h s6 b.aH.length,.h s7 b.bO.length],I h,I at_,I width] (fun r=>.t [I r.1,.b r.2]):=
 bM tok Tryz.call290 Tryz.func290 Tryz.results290 rfl rfl<|fS 0 2 (HX b h at_ width) [1,2,3,10] 29 [1] rfl (c0 rfl (fun _=>C0) fun x4=>fN [17,18] rfl rfl (cR [1] rfl rfl)<|c0 rfl (fun h=>JZ (h.a h1) (h.a h2)) fun x5=>fN [23,24,25] rfl rfl (cR [1] rfl rfl)<|c0 rfl (fun _=>WR) fun x6=>cR [1] rfl rfl) fun x1=>aV [29] rfl rfl (aY rfl rfl)<|c0 rfl (fun h=>QM (h.a h1) (h.a h2)) fun x2=>aV [37] rfl rfl (aY rfl rfl)<|c0 rfl (fun h=>QK (h.a h1)) fun x3=>aY rfl rfl
theorem QN{s:aE}{w_:Int}{s1 s2 s3 s4 s5 s6 s7 s8 s9 s10 s11:AC}{b0:Nat×Nat}:VS Tryz.prog κ 211 (y5 s w_) [.p 0 0,I w_] [b0] [.box 0 [.h s1 s.aA.Mem.aC.Bytes.length,.h s2 s.aA.Mem.aC.Class.length,.h s3 s.aA.Mem.aB.Global.length,.h s4 s.aA.Mem.aB.bA.length,I s.aA.aD.aJ,.h s5 s.aA.aD.aM.length,.h s6 s.aA.aH.length,.h s7 s.aA.bO.length,.h s8 s.Cells.length,.h s9 s.aR.length,.h s10 s.aU.length,.h s11 s.Log.length,I s.aK],ow s1 (s.aA.Mem.aC.Bytes:List Int),ow s2 (s.aA.Mem.aC.Class:List Int),ow s3 (s.aA.Mem.aB.Global:List aG),ow s4 (s.aA.Mem.aB.bA:List aG),ow s5 (s.aA.aD.aM:List cQ),ow s6 (s.aA.aH:List aP),ow s7 (s.aA.bO:List Int),ow s8 (s.Cells:List Int),ow s9 (s.aR:List bG),ow s10 (s.aU:List Queue),ow s11 (s.Log:List Ev)] (fun(r:aE) (y:Unit)=>.t []) (fun(r:aE) (y:Unit)=>[.box 0 [.h s1 r.aA.Mem.aC.Bytes.length,.h s2 r.aA.Mem.aC.Class.length,.h s3 r.aA.Mem.aB.Global.length,.h s4 r.aA.Mem.aB.bA.length,I r.aA.aD.aJ,.h s5 r.aA.aD.aM.length,.h s6 r.aA.aH.length,.h s7 r.aA.bO.length,.h s8 r.Cells.length,.h s9 r.aR.length,.h s10 r.aU.length,.h s11 r.Log.length,I r.aK],ow s1 r.aA.Mem.aC.Bytes,ow s2 r.aA.Mem.aC.Class,ow s3 r.aA.Mem.aB.Global,ow s4 r.aA.Mem.aB.bA,ow s5 r.aA.aD.aM,ow s6 r.aA.aH,ow s7 r.aA.bO,ow s8 r.Cells,ow s9 r.aR,ow s10 r.aU,ow s11 r.Log]):=
 bM tok Tryz.call211 Tryz.func211 Tryz.results211 rfl rfl<|jP aL [0] rfl<|mP eO 9 rfl rfl rfl fun x1 h1 _ h2=>fun hF=>dT 1 h2 h1 rfl rfl rfl rfl rfl<|wi hF<|c0 rfl (fun h=>aPS (h.o 1 rfl) (h.o 2 rfl) (h.o 3 rfl) (h.o 4 rfl) (h.o 5 rfl) (h.o 6 rfl) (h.o 7 rfl)) fun x2=>fun hF=>dT 1 h2 h1 rfl rfl rfl rfl rfl<|sF rfl<|nD eO 12 [] [8,17] ({x1 with eY:=x2.1}:bG) () rfl rfl rfl rfl rfl rfl rfl rfl<|CD s9 List.length_set.symm [] [(0,9)] rfl rfl rfl<|fR rfl rfl<|nB (hT:=tok) () [0,1,2,3,4,5,6,7,8,15,10,11] hF rfl Tryz.results211 rfl rfl rfl rfl
theorem aEU{p:cQ}:V0 Tryz.prog κ 291 (GV p) [.g [.b p.On,I p.aJ,.b p.jD,I p.Seen]] .b:=
 bM tok Tryz.call291 Tryz.func291 Tryz.results291 rfl rfl<|fS 0 1 wF [] 2 [] rfl (fN [4,5] rfl rfl (cR [] rfl rfl)<|cR [] rfl rfl) fun x1=>aY rfl rfl
theorem RH{s:aE}{w_ pc:Int}{s1 s2 s3 s4 s5 s6 s7 s8 s9 s10 s11:AC}{b0:Nat×Nat}:VS Tryz.prog κ 212 (zS s w_ pc) [.p 0 0,I w_,I pc] [b0] [.box 0 [.h s1 s.aA.Mem.aC.Bytes.length,.h s2 s.aA.Mem.aC.Class.length,.h s3 s.aA.Mem.aB.Global.length,.h s4 s.aA.Mem.aB.bA.length,I s.aA.aD.aJ,.h s5 s.aA.aD.aM.length,.h s6 s.aA.aH.length,.h s7 s.aA.bO.length,.h s8 s.Cells.length,.h s9 s.aR.length,.h s10 s.aU.length,.h s11 s.Log.length,I s.aK],ow s1 (s.aA.Mem.aC.Bytes:List Int),ow s2 (s.aA.Mem.aC.Class:List Int),ow s3 (s.aA.Mem.aB.Global:List aG),ow s4 (s.aA.Mem.aB.bA:List aG),ow s5 (s.aA.aD.aM:List cQ),ow s6 (s.aA.aH:List aP),ow s7 (s.aA.bO:List Int),ow s8 (s.Cells:List Int),ow s9 (s.aR:List bG),ow s10 (s.aU:List Queue),ow s11 (s.Log:List Ev)] (fun(r:aE) (y:Unit)=>.t []) (fun(r:aE) (y:Unit)=>[.box 0 [.h s1 r.aA.Mem.aC.Bytes.length,.h s2 r.aA.Mem.aC.Class.length,.h s3 r.aA.Mem.aB.Global.length,.h s4 r.aA.Mem.aB.bA.length,I r.aA.aD.aJ,.h s5 r.aA.aD.aM.length,.h s6 r.aA.aH.length,.h s7 r.aA.bO.length,.h s8 r.Cells.length,.h s9 r.aR.length,.h s10 r.aU.length,.h s11 r.Log.length,I r.aK],ow s1 r.aA.Mem.aC.Bytes,ow s2 r.aA.Mem.aC.Class,ow s3 r.aA.Mem.aB.Global,ow s4 r.aA.Mem.aB.bA,ow s5 r.aA.aD.aM,ow s6 r.aA.aH,ow s7 r.aA.bO,ow s8 r.Cells,ow s9 r.aR,ow s10 r.aU,ow s11 r.Log]):=
 bM tok Tryz.call212 Tryz.func212 Tryz.results212 rfl rfl<|mP eO 9 rfl rfl rfl fun x1 h1 _ h2=>fun hF=>dT 1 h2 h1 rfl rfl rfl rfl rfl<|wi hF<|pG 13 1 0 21 [] rfl rfl rfl rfl rfl (fun _=>nI) fun x2 _=>mP wG 5 rfl rfl rfl fun x3 h3 _ h4=>fun hF=>dT 2 h4 h3 rfl rfl rfl rfl rfl<|wi hF<|c0 rfl (fun _=>aEU) fun x4=>aV [26] rfl rfl (fun hF=>sF rfl<|tZ wG 15 [] h3 () rfl rfl rfl rfl rfl rfl rfl<|nD eO 12 [] [10] ({x2 with eY:=0,Code:=6}:bG) () rfl rfl rfl rfl rfl rfl rfl rfl<|CD s9 List.length_set.symm [] [(0,9)] rfl rfl rfl<|fR rfl rfl<|nB (hT:=tok) () [0,1,2,3,4,18,6,7,8,19,10,11] hF rfl Tryz.results212 rfl rfl rfl rfl)<|fun hF=>sF rfl<|tZ wG 15 [] h3 () rfl rfl rfl rfl rfl rfl rfl<|nD eO 12 [] [10] x2 () rfl rfl rfl rfl rfl rfl rfl rfl<|CD s9 List.length_set.symm [] [(0,9)] rfl rfl rfl<|fR rfl rfl<|nB (hT:=tok) () [0,1,2,3,4,18,6,7,8,19,10,11] hF rfl Tryz.results212 rfl rfl rfl rfl
theorem aTS{c:aD}{w_:Int}{s1:AC}(h1:aQ κ s1 c.aM):VS Tryz.prog κ 292 (aBX c w_) [.g [I c.aJ,.h s1 c.aM.length],I w_] [] [] (fun r (y:AC)=>.t [.g [I r.1.aJ,.h y r.1.aM.length],.b r.2]) (fun r y=>[ow y r.1.aM]):=
 bM tok Tryz.call292 Tryz.func292 Tryz.results292 rfl rfl<|c1 rfl (fun h=>FL (h.a h1)) fun x1 s2=>fS 0 3 (MI w_ x1) [1,4,6] 25 [1,2,3] rfl (c0 rfl (fun h=>uR (h.a h1)) fun x4=>fN [11,12] rfl rfl (cR [1,2,3] rfl rfl)<|c0 rfl (fun _=>mA) fun x5=>fN [15,16,17] rfl rfl (cR [1,2,3] rfl rfl)<|eG DY rfl h1 rfl fun x6 _ _=>cR [1,2,3] rfl rfl) fun x2=>aV [25] rfl rfl (gL s2 [1] rfl rfl)<|mP wG 1 rfl rfl rfl fun x3 h2 _ h3=>fun hF=>dT 3 h3 h2 rfl rfl rfl rfl rfl<|sR rfl<|nD wG 3 [] [28] (⟨false,0,false,0⟩:cQ) () rfl rfl rfl rfl rfl rfl rfl rfl<|CD s2 List.length_set.symm [(32,1)] [(0,1),(2,1)] rfl rfl rfl<|fR rfl rfl<|nB (hT:=tok) s2 [6] hF rfl Tryz.results292 rfl rfl rfl rfl
theorem YW{b:aA}{w_:Int}{s1 s2 s3 s4 s5 s6 s7:AC}{b0:Nat×Nat}:VS Tryz.prog κ 213 (HY b w_) [.p 0 0,I w_] [b0] [.box 0 [.h s1 b.Mem.aC.Bytes.length,.h s2 b.Mem.aC.Class.length,.h s3 b.Mem.aB.Global.length,.h s4 b.Mem.aB.bA.length,I b.aD.aJ,.h s5 b.aD.aM.length,.h s6 b.aH.length,.h s7 b.bO.length],ow s1 (b.Mem.aC.Bytes:List Int),ow s2 (b.Mem.aC.Class:List Int),ow s3 (b.Mem.aB.Global:List aG),ow s4 (b.Mem.aB.bA:List aG),ow s5 (b.aD.aM:List cQ),ow s6 (b.aH:List aP),ow s7 (b.bO:List Int)] (fun(r:Bool×aA) (y:AC)=>.b r.1) (fun(r:Bool×aA) (y:AC)=>[.box 0 [.h s1 r.2.Mem.aC.Bytes.length,.h s2 r.2.Mem.aC.Class.length,.h s3 r.2.Mem.aB.Global.length,.h s4 r.2.Mem.aB.bA.length,I r.2.aD.aJ,.h y r.2.aD.aM.length,.h s6 r.2.aH.length,.h s7 r.2.bO.length],ow s1 r.2.Mem.aC.Bytes,ow s2 r.2.Mem.aC.Class,ow s3 r.2.Mem.aB.Global,ow s4 r.2.Mem.aB.bA,ow y r.2.aD.aM,ow s6 r.2.aH,ow s7 r.2.bO]):=
 bM tok Tryz.call213 Tryz.func213 Tryz.results213 rfl rfl<|c1 rfl (fun h=>aTS (h.o 5 rfl)) fun x1 s8=>gL s8 [0,1,2,3,4,8,6,7] rfl rfl
theorem aK8{s:aE}{w_:Int}{s1 s2 s3 s4 s5 s6 s7 s8 s9 s10 s11:AC}{b0:Nat×Nat}:VS Tryz.prog κ 125 (QE s w_) [.p 0 0,I w_] [b0] [.box 0 [.h s1 s.aA.Mem.aC.Bytes.length,.h s2 s.aA.Mem.aC.Class.length,.h s3 s.aA.Mem.aB.Global.length,.h s4 s.aA.Mem.aB.bA.length,I s.aA.aD.aJ,.h s5 s.aA.aD.aM.length,.h s6 s.aA.aH.length,.h s7 s.aA.bO.length,.h s8 s.Cells.length,.h s9 s.aR.length,.h s10 s.aU.length,.h s11 s.Log.length,I s.aK],ow s1 (s.aA.Mem.aC.Bytes:List Int),ow s2 (s.aA.Mem.aC.Class:List Int),ow s3 (s.aA.Mem.aB.Global:List aG),ow s4 (s.aA.Mem.aB.bA:List aG),ow s5 (s.aA.aD.aM:List cQ),ow s6 (s.aA.aH:List aP),ow s7 (s.aA.bO:List Int),ow s8 (s.Cells:List Int),ow s9 (s.aR:List bG),ow s10 (s.aU:List Queue),ow s11 (s.Log:List Ev)] (fun(r:aE) (y:AC×AC×AC×AC×AC×AC×AC)=>.t []) (fun(r:aE) (y:AC×AC×AC×AC×AC×AC×AC)=>[.box 0 [.h y.1 r.aA.Mem.aC.Bytes.length,.h y.2.1 r.aA.Mem.aC.Class.length,.h y.2.2.1 r.aA.Mem.aB.Global.length,.h y.2.2.2.1 r.aA.Mem.aB.bA.length,I r.aA.aD.aJ,.h y.2.2.2.2.1 r.aA.aD.aM.length,.h y.2.2.2.2.2.1 r.aA.aH.length,.h s7 r.aA.bO.length,.h s8 r.Cells.length,.h s9 r.aR.length,.h s10 r.aU.length,.h y.2.2.2.2.2.2 r.Log.length,I r.aK],ow y.1 r.aA.Mem.aC.Bytes,ow y.2.1 r.aA.Mem.aC.Class,ow y.2.2.1 r.aA.Mem.aB.Global,ow y.2.2.2.1 r.aA.Mem.aB.bA,ow y.2.2.2.2.1 r.aA.aD.aM,ow y.2.2.2.2.2.1 r.aA.aH,ow s7 r.aA.bO,ow s8 r.Cells,ow s9 r.aR,ow s10 r.aU,ow y.2.2.2.2.2.2 r.Log]):=
 bM tok Tryz.call125 Tryz.func125 Tryz.results125 rfl rfl<|mP eO 9 rfl rfl rfl fun x1 h1 _ h2=>fun hF=>dT 1 h2 h1 rfl rfl rfl rfl rfl<|wi hF<|aV [17,18] rfl rfl (jP aL [14] rfl<|aL0 13 1 7 10 0 0 0 8 [1,2,3,4,5,6,7] rfl rfl rfl rfl rfl (fun _=>C1) fun x2 s12=>aV [31] rfl rfl (pG 13 1 0 21 [] rfl rfl rfl rfl rfl (fun _=>nI (j:=({x1 with Sub:=x2.1}:bG))) fun x3 _=>fun hF=>sF rfl<|nD eO 12 [] [8] x3 () rfl rfl rfl rfl rfl rfl rfl rfl<|CD s9 List.length_set.symm [] [(0,9)] rfl rfl rfl<|fR rfl rfl<|nB (hT:=tok) (s12.1,s12.2.1,s12.2.2.1,s12.2.2.2.1,s12.2.2.2.2.1,s12.2.2.2.2.2,s11) [0,15,16,17,18,19,20,21,8,22,10,11] hF rfl Tryz.results125 rfl rfl rfl rfl)<|fun hF=>sF rfl<|nD eO 12 [] [8] ({x1 with Sub:=x2.1}:bG) () rfl rfl rfl rfl rfl rfl rfl rfl<|CD s9 List.length_set.symm [] [(0,9)] rfl rfl rfl<|fR rfl rfl<|nB (hT:=tok) (s12.1,s12.2.1,s12.2.2.1,s12.2.2.2.1,s12.2.2.2.2.1,s12.2.2.2.2.2,s11) [0,15,16,17,18,19,20,21,8,22,10,11] hF rfl Tryz.results125 rfl rfl rfl rfl)<|aV [34,35] rfl rfl (fun hF=>Z3 eO 12 [] h1 () rfl rfl rfl rfl rfl rfl rfl rfl rfl<|wi hF<|pG 0 0 0 13 [1,2,3,4,5,6,7,8,15,10,11] rfl rfl rfl rfl rfl (fun _=>aAS) fun x4 s13=>fun hF=>ro eO 24 14 1 rfl rfl rfl rfl hF fun x5 h3 hF _=>wi hF<|pG 28 1 0 21 [] rfl rfl rfl rfl rfl (fun _=>nI) fun x6 _=>aV [45] rfl rfl (fun hF=>sF rfl<|nD eO 27 [] [] ({x6 with Pc:=4,Code:=8}:bG) () rfl rfl rfl rfl rfl rfl rfl rfl<|CD s9 List.length_set.symm [] [(0,9)] rfl rfl rfl<|fR rfl rfl<|nB (hT:=tok) (s1,s2,s3,s4,s5,s6,s13) [0,16,17,18,19,20,21,22,23,30,25,26] hF rfl Tryz.results125 rfl rfl rfl rfl)<|fun hF=>sF rfl<|nD eO 27 [] [] x6 () rfl rfl rfl rfl rfl rfl rfl rfl<|CD s9 List.length_set.symm [] [(0,9)] rfl rfl rfl<|fR rfl rfl<|nB (hT:=tok) (s1,s2,s3,s4,s5,s6,s13) [0,16,17,18,19,20,21,22,23,30,25,26] hF rfl Tryz.results125 rfl rfl rfl rfl)<|aV [52,53] rfl rfl (fun hF=>Z3 eO 12 [] h1 () rfl rfl rfl rfl rfl rfl rfl rfl rfl<|wi hF<|pG 0 0 0 13 [1,2,3,4,5,6,7,8,15,10,11] rfl rfl rfl rfl rfl (fun _=>QN) fun x7 _=>fun hF=>ro eO 24 14 1 rfl rfl rfl rfl hF fun x8 h5 hF _=>wi hF<|pG 28 1 0 21 [] rfl rfl rfl rfl rfl (fun _=>nI) fun x9 _=>fun hF=>sF rfl<|nD eO 27 [] [] x9 () rfl rfl rfl rfl rfl rfl rfl rfl<|CD s9 List.length_set.symm [] [(0,9)] rfl rfl rfl<|fR rfl rfl<|nB (hT:=tok) (s1,s2,s3,s4,s5,s6,s11) [0,16,17,18,19,20,21,22,23,30,25,26] hF rfl Tryz.results125 rfl rfl rfl rfl)<|aV [59,60] rfl rfl (fun hF=>Z3 eO 12 [] h1 () rfl rfl rfl rfl rfl rfl rfl rfl rfl<|wi hF<|pG 0 0 0 13 [1,2,3,4,5,6,7,8,15,10,11] rfl rfl rfl rfl rfl (fun _=>RH) fun x10 _=>Z4 (s1,s2,s3,s4,s5,s6,s11) [0,16,17,18,19,20,21,22,23,24,25,26] rfl rfl)<|aV [64,65] rfl rfl (pG 0 0 0 8 [1,2,3,4,5,6,7] rfl rfl rfl rfl rfl (fun _=>YW) fun x11 s14=>pG 13 1 0 21 [] rfl rfl rfl rfl rfl (fun _=>gE) fun x12 _=>fun hF=>sF rfl<|nD eO 12 [] [8] x12 () rfl rfl rfl rfl rfl rfl rfl rfl<|CD s9 List.length_set.symm [] [(0,9)] rfl rfl rfl<|fR rfl rfl<|nB (hT:=tok) (s1,s2,s3,s4,s14,s6,s11) [0,15,16,17,18,19,20,21,8,22,10,11] hF rfl Tryz.results125 rfl rfl rfl rfl)<|pG 13 1 0 21 [] rfl rfl rfl rfl rfl (fun _=>gE) fun x13 _=>fun hF=>sF rfl<|nD eO 12 [] [8] x13 () rfl rfl rfl rfl rfl rfl rfl rfl<|CD s9 List.length_set.symm [] [(0,9)] rfl rfl rfl<|fR rfl rfl<|nB (hT:=tok) (s1,s2,s3,s4,s5,s6,s11) [0,1,2,3,4,5,6,7,8,15,10,11] hF rfl Tryz.results125 rfl rfl rfl rfl
theorem aEV{z:List Int}{w_ h:Int}{s1:AC}(h1:aQ κ s1 z):VS Tryz.prog κ 214 (VQ z w_ h) [.h s1 z.length,I w_,I h] [] [] (fun r (y:AC)=>.t [.h y r.1.length,.b r.2]) (fun r y=>[ow y r.1]):=
 bM tok Tryz.call214 Tryz.func214 Tryz.results214 rfl rfl<|c1 rfl (fun h=>nH (h.a h1)) fun x1 s2=>fS 0 0 (HZ w_ h x1) [1,2,8] 23 [0] rfl (c0 rfl (fun h=>G4 (h.a h1)) fun x4=>fN [13,14] rfl rfl (cR [0] rfl rfl)<|c0 rfl (fun _=>mA) fun x5=>fN [17,18,19] rfl rfl (cR [0] rfl rfl)<|c0 rfl (fun _=>C0) fun x6=>cR [0] rfl rfl) fun x2=>aV [23] rfl rfl (gL s2 [0] rfl rfl)<|mP oI 0 rfl rfl rfl fun x3 h2 _ h3=>fun hF=>dT 0 h3 h2 rfl rfl rfl rfl rfl<|sR rfl<|nD oI 1 [] [6,8,25,29] h () rfl rfl rfl rfl rfl rfl rfl rfl<|nB (hT:=tok) s2 [4] hF rfl Tryz.results214 rfl rfl rfl rfl
theorem aTT{z:List Int}{w_:Int}{s1:AC}(h1:aQ κ s1 z):VS Tryz.prog κ 215 (aBY z w_) [.h s1 z.length,I w_] [] [] (fun r (y:AC)=>.t [.h y r.1.length,.b r.2]) (fun r y=>[ow y r.1]):=
 bM tok Tryz.call215 Tryz.func215 Tryz.results215 rfl rfl<|c1 rfl (fun h=>nH (h.a h1)) fun x1 s2=>fS 0 0 (MJ w_ x1) [1,6] 23 [0] rfl (c0 rfl (fun h=>G4 (h.a h1)) fun x4=>fN [11,12] rfl rfl (cR [0] rfl rfl)<|c0 rfl (fun _=>mA) fun x5=>fN [15,16,17] rfl rfl (cR [0] rfl rfl)<|UT rfl h1 rfl fun x6=>cR [0] rfl rfl) fun x2=>aV [23] rfl rfl (gL s2 [0] rfl rfl)<|mP oI 0 rfl rfl rfl fun x3 h2 _ h3=>fun hF=>dT 0 h3 h2 rfl rfl rfl rfl rfl<|sR rfl<|nD oI 1 [] [4,6,25,28] 0 () rfl rfl rfl rfl rfl rfl rfl rfl<|nB (hT:=tok) s2 [4] hF rfl Tryz.results215 rfl rfl rfl rfl
theorem aK9{s:aE}{w_:Int}{s1 s2 s3 s4 s5 s6 s7 s8 s9 s10 s11:AC}{b0:Nat×Nat}:VS Tryz.prog κ 126 (QH s w_) [.p 0 0,I w_] [b0] [.box 0 [.h s1 s.aA.Mem.aC.Bytes.length,.h s2 s.aA.Mem.aC.Class.length,.h s3 s.aA.Mem.aB.Global.length,.h s4 s.aA.Mem.aB.bA.length,I s.aA.aD.aJ,.h s5 s.aA.aD.aM.length,.h s6 s.aA.aH.length,.h s7 s.aA.bO.length,.h s8 s.Cells.length,.h s9 s.aR.length,.h s10 s.aU.length,.h s11 s.Log.length,I s.aK],ow s1 (s.aA.Mem.aC.Bytes:List Int),ow s2 (s.aA.Mem.aC.Class:List Int),ow s3 (s.aA.Mem.aB.Global:List aG),ow s4 (s.aA.Mem.aB.bA:List aG),ow s5 (s.aA.aD.aM:List cQ),ow s6 (s.aA.aH:List aP),ow s7 (s.aA.bO:List Int),ow s8 (s.Cells:List Int),ow s9 (s.aR:List bG),ow s10 (s.aU:List Queue),ow s11 (s.Log:List Ev)] (fun(r:aE) (y:AC×AC)=>.t []) (fun(r:aE) (y:AC×AC)=>[.box 0 [.h s1 r.aA.Mem.aC.Bytes.length,.h s2 r.aA.Mem.aC.Class.length,.h s3 r.aA.Mem.aB.Global.length,.h s4 r.aA.Mem.aB.bA.length,I r.aA.aD.aJ,.h s5 r.aA.aD.aM.length,.h s6 r.aA.aH.length,.h y.1 r.aA.bO.length,.h s8 r.Cells.length,.h s9 r.aR.length,.h s10 r.aU.length,.h y.2 r.Log.length,I r.aK],ow s1 r.aA.Mem.aC.Bytes,ow s2 r.aA.Mem.aC.Class,ow s3 r.aA.Mem.aB.Global,ow s4 r.aA.Mem.aB.bA,ow s5 r.aA.aD.aM,ow s6 r.aA.aH,ow y.1 r.aA.bO,ow s8 r.Cells,ow s9 r.aR,ow s10 r.aU,ow y.2 r.Log]):=
 bM tok Tryz.call126 Tryz.func126 Tryz.results126 rfl rfl<|mP eO 9 rfl rfl rfl fun x1 h1 _ h2=>fun hF=>dT 1 h2 h1 rfl rfl rfl rfl rfl<|wi hF<|aV [17,18] rfl rfl (fun hF=>Z3 eO 12 [] h1 () rfl rfl rfl rfl rfl rfl rfl rfl rfl<|wi hF<|jP aL [0,14] rfl<|fun hF=>ro eO 15 14 1 rfl rfl rfl rfl hF fun x2 h3 hF _=>wi hF<|mP oI 8 rfl rfl rfl fun x3 h5 _ h6=>fun hF=>dT 2 h6 h5 rfl rfl rfl rfl rfl<|wi hF<|pG 17 1 0 21 [] rfl rfl rfl rfl rfl (fun _=>nI (j:=({x2 with H:=x3}:bG))) fun x4 _=>aV [39] rfl rfl (fun hF=>Z3 oI 19 [] h5 () rfl rfl rfl rfl rfl rfl rfl rfl rfl<|ceS eO 16 [] [8] x4 () rfl rfl rfl rfl rfl rfl rfl rfl rfl rfl<|rh s9 List.length_set.symm [] [(0,9)] rfl rfl rfl<|wi hF<|pG 0 0 0 13 [1,2,3,4,5,6,7,22,23,10,11] rfl rfl rfl rfl rfl (fun _=>uS (s:=({s with aR:=s.aR.set w_.toNat x4}:aE))) fun x5 s12=>fun hF=>ro eO 32 14 1 rfl rfl rfl rfl hF fun x6 h7 hF _=>sF rfl<|nD eO 35 [] [] ({x6 with Pc:=4,Code:=8}:bG) () rfl rfl rfl rfl rfl rfl rfl rfl<|CD s9 List.length_set.symm [] [(0,9)] rfl rfl rfl<|fR rfl rfl<|nB (hT:=tok) (s7,s12) [0,24,25,26,27,28,29,30,31,38,33,34] hF rfl Tryz.results126 rfl rfl rfl rfl)<|fun hF=>sF rfl<|tZ oI 19 [] h5 () rfl rfl rfl rfl rfl rfl rfl<|nD eO 16 [] [8] x4 () rfl rfl rfl rfl rfl rfl rfl rfl<|CD s9 List.length_set.symm [] [(0,9)] rfl rfl rfl<|fR rfl rfl<|nB (hT:=tok) (s7,s11) [0,1,2,3,4,5,6,7,22,23,10,11] hF rfl Tryz.results126 rfl rfl rfl rfl)<|aV [49,50] rfl rfl (mH 0 2 (QF s w_) [0,4] (fun(x7:(List Int)) (s13:AC)=>[]) [1,2,3,4,5,6,8,10,11,14] (fun x7 s13=>[ow s13 (x7:List Int),ow s9 (s.aR:List bG),.box 0 [.h s1 s.aA.Mem.aC.Bytes.length,.h s2 s.aA.Mem.aC.Class.length,.h s3 s.aA.Mem.aB.Global.length,.h s4 s.aA.Mem.aB.bA.length,I s.aA.aD.aJ,.h s5 s.aA.aD.aM.length,.h s6 s.aA.aH.length,.h s13 x7.length,.h s8 s.Cells.length,.h s9 s.aR.length,.h s10 s.aU.length,.h s11 s.Log.length,I s.aK]]) rfl (jP aL [14] rfl<|fun hF=>bd hF fun x10 hA1 hF=>kS rfl rfl (have hq1:=rb hA1;wi hq1<|c1 rfl (fun h=>aEV (h.o 7 rfl)) fun u1 s15=>fun hq1=>match u1,hq1 with | _,rfl=>sF rfl<|tZ eO 12 [] h1 () rfl rfl rfl rfl rfl rfl rfl<|wY (p:=(x10.1)) s15 [15,16,0,1,2,3,4,5,6,8,10,11,14] hF rfl) (have hq2:=rb hA1;wi hq2<|c1 rfl (fun h=>aEV (h.o 7 rfl)) fun u2 s16=>fun hq2=>match u2,hq2 with | _,rfl=>sF rfl<|tZ eO 12 [] h1 () rfl rfl rfl rfl rfl rfl rfl<|wY (p:=(x10.1)) s16 [15,16,0,1,2,3,4,5,6,8,10,11,14] hF rfl)) fun x7 s13=>fun hF=>ro eO 1 12 1 rfl rfl rfl rfl hF fun x8 h9 hF _=>wi hF<|pG 14 1 0 21 [] rfl rfl rfl rfl rfl (fun _=>nI) fun x9 _=>fun hF=>sF rfl<|nD eO 13 [] [] x9 () rfl rfl rfl rfl rfl rfl rfl rfl<|CD s9 List.length_set.symm [] [(2,9)] rfl rfl rfl<|fR rfl rfl<|nB (hT:=tok) (s13,s11) [2,3,4,5,6,7,8,0,9,16,10,11] hF rfl Tryz.results126 rfl rfl rfl rfl)<|aV [71,72] rfl rfl (mH 0 2 (QG s w_) [0,1,4] (fun(x11:Bool) (_:Unit)=>[(88,.b x11)]) [1,2,3,4,5,6,7,8,10,11,0,14] (fun x11 _=>[ow s9 (s.aR:List bG)]) rfl (fun hF=>Z3 eO 12 [] h1 () rfl rfl rfl rfl rfl rfl rfl rfl rfl<|wi hF<|jP aL [0,14] rfl<|fun hF=>bd hF fun x18 hA2 hF=>bd hF fun x19 hA3 hF=>kS rfl rfl (have hq3:=rb hA2;ro eO 15 14 1 rfl rfl rfl rfl hq3 fun u3 h21 hq3 _=>match u3,hq3 with | _,rfl=>have hq4:=rb hA3;wi hq4<|mP oI 8 rfl rfl rfl fun u4 h23 _ h24=>fun hq4=>dT 2 h24 h23 rfl rfl rfl rfl rfl<|match u4,hq4 with | _,rfl=>kS rfl rfl (sF rfl<|tZ oI 19 [] h23 () rfl rfl rfl rfl rfl rfl rfl<|tZ eO 16 [] h21 () rfl rfl rfl rfl rfl rfl rfl<|wY (p:=(x19 != x18.H)) () [23,1,2,3,4,5,6,7,22,10,11,0,14] hF rfl) (sF rfl<|tZ oI 19 [] h23 () rfl rfl rfl rfl rfl rfl rfl<|tZ eO 16 [] h21 () rfl rfl rfl rfl rfl rfl rfl<|wY (p:=(x19 != x18.H)) () [23,1,2,3,4,5,6,7,22,10,11,0,14] hF rfl)) (have hq5:=rb hA2;ro eO 15 14 1 rfl rfl rfl rfl hq5 fun u5 h25 hq5 _=>match u5,hq5 with | _,rfl=>have hq6:=rb hA3;wi hq6<|mP oI 8 rfl rfl rfl fun u6 h27 _ h28=>fun hq6=>dT 2 h28 h27 rfl rfl rfl rfl rfl<|match u6,hq6 with | _,rfl=>sF rfl<|tZ oI 19 [] h27 () rfl rfl rfl rfl rfl rfl rfl<|tZ eO 16 [] h25 () rfl rfl rfl rfl rfl rfl rfl<|wY (p:=(x19 != x18.H)) () [23,1,2,3,4,5,6,7,22,10,11,0,14] hF rfl)) fun x11 _=>aV [88] rfl rfl (fun hF=>ro eO 0 12 1 rfl rfl rfl rfl hF fun x12 h11 hF _=>wi hF<|pG 14 1 0 21 [] rfl rfl rfl rfl rfl (fun _=>nI) fun x13 _=>fun hF=>sR rfl<|nD eO 13 [] [] x13 () rfl rfl rfl rfl rfl rfl rfl rfl<|CD s9 List.length_set.symm [] [(11,9)] rfl rfl rfl<|fR rfl rfl<|nB (hT:=tok) (s7,s11) [11,1,2,3,4,5,6,7,8,16,9,10] hF rfl Tryz.results126 rfl rfl rfl rfl)<|fun hF=>ro eO 0 12 1 rfl rfl rfl rfl hF fun x14 h13 hF _=>Z3 eO 13 [] h13 () rfl rfl rfl rfl rfl rfl rfl rfl rfl<|wi hF<|pG 11 0 0 13 [1,2,3,4,5,6,7,8,16,9,10] rfl rfl rfl rfl rfl (fun _=>uS) fun x15 s17=>fun hF=>ro eO 25 12 1 rfl rfl rfl rfl hF fun x16 h15 hF _=>wi hF<|pG 29 1 0 21 [] rfl rfl rfl rfl rfl (fun _=>nI) fun x17 _=>fun hF=>sF rfl<|nD eO 28 [] [] x17 () rfl rfl rfl rfl rfl rfl rfl rfl<|CD s9 List.length_set.symm [] [(11,9)] rfl rfl rfl<|fR rfl rfl<|nB (hT:=tok) (s7,s17) [11,17,18,19,20,21,22,23,24,31,26,27] hF rfl Tryz.results126 rfl rfl rfl rfl)<|aV [100,101] rfl rfl (fun hF=>Z3 eO 12 [] h1 () rfl rfl rfl rfl rfl rfl rfl rfl rfl<|wi hF<|pG 0 0 0 13 [1,2,3,4,5,6,7,8,15,10,11] rfl rfl rfl rfl rfl (fun _=>QN) fun x20 _=>fun hF=>ro eO 24 14 1 rfl rfl rfl rfl hF fun x21 h29 hF _=>wi hF<|pG 28 1 0 21 [] rfl rfl rfl rfl rfl (fun _=>nI) fun x22 _=>fun hF=>sF rfl<|nD eO 27 [] [] x22 () rfl rfl rfl rfl rfl rfl rfl rfl<|CD s9 List.length_set.symm [] [(0,9)] rfl rfl rfl<|fR rfl rfl<|nB (hT:=tok) (s7,s11) [0,16,17,18,19,20,21,22,23,30,25,26] hF rfl Tryz.results126 rfl rfl rfl rfl)<|aV [107,108] rfl rfl (c1 rfl (fun h=>aTT (h.o 7 rfl)) fun x23 s18=>pG 13 1 0 21 [] rfl rfl rfl rfl rfl (fun _=>gE) fun x24 _=>fun hF=>sF rfl<|nD eO 12 [] [8] x24 () rfl rfl rfl rfl rfl rfl rfl rfl<|CD s9 List.length_set.symm [] [(0,9)] rfl rfl rfl<|fR rfl rfl<|nB (hT:=tok) (s18,s11) [0,1,2,3,4,5,6,15,8,16,10,11] hF rfl Tryz.results126 rfl rfl rfl rfl)<|pG 13 1 0 21 [] rfl rfl rfl rfl rfl (fun _=>gE) fun x25 _=>fun hF=>sF rfl<|nD eO 12 [] [8] x25 () rfl rfl rfl rfl rfl rfl rfl rfl<|CD s9 List.length_set.symm [] [(0,9)] rfl rfl rfl<|fR rfl rfl<|nB (hT:=tok) (s7,s11) [0,1,2,3,4,5,6,7,8,15,10,11] hF rfl Tryz.results126 rfl rfl rfl rfl
theorem aJK{s:aE}{w_:Int}{s1 s2 s3 s4 s5 s6 s7 s8 s9 s10 s11:AC}{b0:Nat×Nat}:VS Tryz.prog κ 127 (NL s w_) [.p 0 0,I w_] [b0] [.box 0 [.h s1 s.aA.Mem.aC.Bytes.length,.h s2 s.aA.Mem.aC.Class.length,.h s3 s.aA.Mem.aB.Global.length,.h s4 s.aA.Mem.aB.bA.length,I s.aA.aD.aJ,.h s5 s.aA.aD.aM.length,.h s6 s.aA.aH.length,.h s7 s.aA.bO.length,.h s8 s.Cells.length,.h s9 s.aR.length,.h s10 s.aU.length,.h s11 s.Log.length,I s.aK],ow s1 (s.aA.Mem.aC.Bytes:List Int),ow s2 (s.aA.Mem.aC.Class:List Int),ow s3 (s.aA.Mem.aB.Global:List aG),ow s4 (s.aA.Mem.aB.bA:List aG),ow s5 (s.aA.aD.aM:List cQ),ow s6 (s.aA.aH:List aP),ow s7 (s.aA.bO:List Int),ow s8 (s.Cells:List Int),ow s9 (s.aR:List bG),ow s10 (s.aU:List Queue),ow s11 (s.Log:List Ev)] (fun(r:aE) (y:AC)=>.t []) (fun(r:aE) (y:AC)=>[.box 0 [.h s1 r.aA.Mem.aC.Bytes.length,.h s2 r.aA.Mem.aC.Class.length,.h s3 r.aA.Mem.aB.Global.length,.h s4 r.aA.Mem.aB.bA.length,I r.aA.aD.aJ,.h s5 r.aA.aD.aM.length,.h s6 r.aA.aH.length,.h s7 r.aA.bO.length,.h s8 r.Cells.length,.h s9 r.aR.length,.h s10 r.aU.length,.h y r.Log.length,I r.aK],ow s1 r.aA.Mem.aC.Bytes,ow s2 r.aA.Mem.aC.Class,ow s3 r.aA.Mem.aB.Global,ow s4 r.aA.Mem.aB.bA,ow s5 r.aA.aD.aM,ow s6 r.aA.aH,ow s7 r.aA.bO,ow s8 r.Cells,ow s9 r.aR,ow s10 r.aU,ow y r.Log]):=
 bM tok Tryz.call127 Tryz.func127 Tryz.results127 rfl rfl<|mH 0 4 (N3 s w_) [0,1] (fun(x1:cQ) (_:Unit)=>[(4,.p 1 0),(5,.p 3 0)]) [1,2,3,4,5,6,7,8,9,10,11,0] (fun x1 _=>[wOf bG 1 s9 s.aR.length w_.toNat,.box 3 [.b x1.On,I x1.aJ,.b x1.jD,I x1.Seen]]) rfl (jP aL [0] rfl<|mP eO 9 rfl rfl rfl fun x20 h15 _ h16=>fun hF=>dT 1 h16 h15 rfl rfl rfl rfl rfl<|wi hF<|mP wG 5 rfl rfl rfl fun x21 h17 _ h18=>fun hF=>dT 2 h18 h17 rfl rfl rfl rfl rfl<|kS rfl rfl (sF rfl<|tZ wG 15 [] h17 () rfl rfl rfl rfl rfl rfl rfl<|tZ eO 12 [] h15 () rfl rfl rfl rfl rfl rfl rfl<|wY (p:=(x21)) () [14,18,1,2,3,4,19,6,7,8,20,10,11,0] hF rfl) (sF rfl<|tZ wG 15 [] h17 () rfl rfl rfl rfl rfl rfl rfl<|tZ eO 12 [] h15 () rfl rfl rfl rfl rfl rfl rfl<|wY (p:=(x21)) () [14,18,1,2,3,4,19,6,7,8,20,10,11,0] hF rfl)) fun x1 _=>fS 0 4 (GX s w_ x1) [0,1,4,5] 23 [2,3,4,5,6,7,8,9,10,11,12,13,0,1] rfl (fun hF=>ro eO 10 0 1 rfl rfl rfl rfl hF fun x19 h13 hF _=>wi hF<|fN [28,29] rfl rfl (fun hF=>sF rfl<|tZ eO 14 [] h13 () rfl rfl rfl rfl rfl rfl rfl<|wY () [2,3,4,5,6,7,8,9,17,11,12,13,0,1] hF rfl)<|fun hF=>sF rfl<|tZ eO 14 [] h13 () rfl rfl rfl rfl rfl rfl rfl<|wY () [2,3,4,5,6,7,8,9,17,11,12,13,0,1] hF rfl) fun x2=>aV [23] rfl rfl (fun hF=>ro eO 8 12 1 rfl rfl rfl rfl hF fun x3 h1 hF _=>wi hF<|pG 15 1 0 21 [] rfl rfl rfl rfl rfl (fun _=>gE) fun x4 _=>fun hF=>sF rfl<|nD eO 14 [] [] x4 () rfl rfl rfl rfl rfl rfl rfl rfl<|CD s9 List.length_set.symm [] [(11,9)] rfl rfl rfl<|fR rfl rfl<|nB (hT:=tok) s11 [11,0,1,2,3,4,5,6,7,17,9,10] hF rfl Tryz.results127 rfl rfl rfl rfl)<|fS 0 4 (GW s w_) [0,1,4] 36 [0,1,2,3,4,5,6,7,8,9,10,11,12] rfl (fun hF=>ro eO 8 12 1 rfl rfl rfl rfl hF fun x18 h11 hF _=>wi hF<|fN [41,42] rfl rfl (fun hF=>sF rfl<|tZ eO 14 [] h11 () rfl rfl rfl rfl rfl rfl rfl<|wY () [0,1,2,3,4,5,6,7,17,9,10,11,12] hF rfl)<|fun hF=>sF rfl<|tZ eO 14 [] h11 () rfl rfl rfl rfl rfl rfl rfl<|wY () [0,1,2,3,4,5,6,7,17,9,10,11,12] hF rfl) fun x5=>aV [36] rfl rfl (fun hF=>ro eO 8 12 1 rfl rfl rfl rfl hF fun x6 h3 hF _=>wi hF<|pG 14 1 0 21 [] rfl rfl rfl rfl rfl (fun _=>gE) fun x7 _=>fun hF=>sF rfl<|nD eO 13 [] [] x7 () rfl rfl rfl rfl rfl rfl rfl rfl<|CD s9 List.length_set.symm [] [(11,9)] rfl rfl rfl<|fR rfl rfl<|nB (hT:=tok) s11 [11,0,1,2,3,4,5,6,7,16,9,10] hF rfl Tryz.results127 rfl rfl rfl rfl)<|fun hF=>ro eO 8 12 1 rfl rfl rfl rfl hF fun x8 h5 hF _=>wi hF<|aV [48,53] rfl rfl (fun hF=>Z3 eO 13 [] h5 () rfl rfl rfl rfl rfl rfl rfl rfl rfl<|wi hF<|pG 11 0 0 13 [0,1,2,3,4,5,6,7,16,9,10] rfl rfl rfl rfl rfl (fun _=>aAS) fun x9 s12=>fun hF=>ro eO 25 12 1 rfl rfl rfl rfl hF fun x10 h7 hF _=>wi hF<|pG 29 1 0 21 [] rfl rfl rfl rfl rfl (fun _=>nI) fun x11 _=>aV [63] rfl rfl (pG 29 1 0 21 [] rfl rfl rfl rfl rfl (fun _=>gE) fun x12 _=>fun hF=>sF rfl<|nD eO 28 [] [] x12 () rfl rfl rfl rfl rfl rfl rfl rfl<|CD s9 List.length_set.symm [] [(11,9)] rfl rfl rfl<|fR rfl rfl<|nB (hT:=tok) s12 [11,17,18,19,20,21,22,23,24,31,26,27] hF rfl Tryz.results127 rfl rfl rfl rfl)<|fun hF=>sF rfl<|nD eO 28 [] [] x11 () rfl rfl rfl rfl rfl rfl rfl rfl<|CD s9 List.length_set.symm [] [(11,9)] rfl rfl rfl<|fR rfl rfl<|nB (hT:=tok) s12 [11,17,18,19,20,21,22,23,24,31,26,27] hF rfl Tryz.results127 rfl rfl rfl rfl)<|aV [66,71] rfl rfl (fun hF=>Z3 eO 13 [] h5 () rfl rfl rfl rfl rfl rfl rfl rfl rfl<|wi hF<|pG 11 0 0 13 [0,1,2,3,4,5,6,7,16,9,10] rfl rfl rfl rfl rfl (fun _=>QN) fun x13 _=>fun hF=>ro eO 25 12 1 rfl rfl rfl rfl hF fun x14 h9 hF _=>wi hF<|pG 29 1 0 21 [] rfl rfl rfl rfl rfl (fun _=>nI) fun x15 _=>fun hF=>sF rfl<|nD eO 28 [] [] x15 () rfl rfl rfl rfl rfl rfl rfl rfl<|CD s9 List.length_set.symm [] [(11,9)] rfl rfl rfl<|fR rfl rfl<|nB (hT:=tok) s11 [11,17,18,19,20,21,22,23,24,31,26,27] hF rfl Tryz.results127 rfl rfl rfl rfl)<|aV [77,82] rfl rfl (fun hF=>Z3 eO 13 [] h5 () rfl rfl rfl rfl rfl rfl rfl rfl rfl<|wi hF<|pG 11 0 0 13 [0,1,2,3,4,5,6,7,16,9,10] rfl rfl rfl rfl rfl (fun _=>RH) fun x16 _=>Z4 s11 [11,17,18,19,20,21,22,23,24,25,26,27] rfl rfl)<|pG 14 1 0 21 [] rfl rfl rfl rfl rfl (fun _=>gE) fun x17 _=>fun hF=>sF rfl<|nD eO 13 [] [] x17 () rfl rfl rfl rfl rfl rfl rfl rfl<|CD s9 List.length_set.symm [] [(11,9)] rfl rfl rfl<|fR rfl rfl<|nB (hT:=tok) s11 [11,0,1,2,3,4,5,6,7,16,9,10] hF rfl Tryz.results127 rfl rfl rfl rfl
theorem aH1{s:aE}{w_:Int}{s1 s2 s3 s4 s5 s6 s7 s8 s9 s10 s11:AC}{b0:Nat×Nat}:VS Tryz.prog κ 128 (K6 s w_) [.p 0 0,I w_] [b0] [.box 0 [.h s1 s.aA.Mem.aC.Bytes.length,.h s2 s.aA.Mem.aC.Class.length,.h s3 s.aA.Mem.aB.Global.length,.h s4 s.aA.Mem.aB.bA.length,I s.aA.aD.aJ,.h s5 s.aA.aD.aM.length,.h s6 s.aA.aH.length,.h s7 s.aA.bO.length,.h s8 s.Cells.length,.h s9 s.aR.length,.h s10 s.aU.length,.h s11 s.Log.length,I s.aK],ow s1 (s.aA.Mem.aC.Bytes:List Int),ow s2 (s.aA.Mem.aC.Class:List Int),ow s3 (s.aA.Mem.aB.Global:List aG),ow s4 (s.aA.Mem.aB.bA:List aG),ow s5 (s.aA.aD.aM:List cQ),ow s6 (s.aA.aH:List aP),ow s7 (s.aA.bO:List Int),ow s8 (s.Cells:List Int),ow s9 (s.aR:List bG),ow s10 (s.aU:List Queue),ow s11 (s.Log:List Ev)] (fun(r:aE) (y:AC×AC×AC×AC×AC×AC)=>.t []) (fun(r:aE) (y:AC×AC×AC×AC×AC×AC)=>[.box 0 [.h y.1 r.aA.Mem.aC.Bytes.length,.h y.2.1 r.aA.Mem.aC.Class.length,.h y.2.2.1 r.aA.Mem.aB.Global.length,.h y.2.2.2.1 r.aA.Mem.aB.bA.length,I r.aA.aD.aJ,.h y.2.2.2.2.1 r.aA.aD.aM.length,.h y.2.2.2.2.2 r.aA.aH.length,.h s7 r.aA.bO.length,.h s8 r.Cells.length,.h s9 r.aR.length,.h s10 r.aU.length,.h s11 r.Log.length,I r.aK],ow y.1 r.aA.Mem.aC.Bytes,ow y.2.1 r.aA.Mem.aC.Class,ow y.2.2.1 r.aA.Mem.aB.Global,ow y.2.2.2.1 r.aA.Mem.aB.bA,ow y.2.2.2.2.1 r.aA.aD.aM,ow y.2.2.2.2.2 r.aA.aH,ow s7 r.aA.bO,ow s8 r.Cells,ow s9 r.aR,ow s10 r.aU,ow s11 r.Log]):=
 bM tok Tryz.call128 Tryz.func128 Tryz.results128 rfl rfl<|mP eO 9 rfl rfl rfl fun x1 h1 _ h2=>fun hF=>dT 1 h2 h1 rfl rfl rfl rfl rfl<|wi hF<|mH 0 2 (ET s w_) [0,1,4] (fun(x2:Bool) (_:Unit)=>[(14,.b x2)]) [1,2,3,4,5,6,7,8,10,11,0,14] (fun x2 _=>[ow s9 (s.aR:List bG)]) rfl (fN [20,21] rfl rfl (fun hF=>sF rfl<|tZ eO 12 [] h1 () rfl rfl rfl rfl rfl rfl rfl<|wY () [15,1,2,3,4,5,6,7,8,10,11,0,14] hF rfl)<|fun hF=>sF rfl<|tZ eO 12 [] h1 () rfl rfl rfl rfl rfl rfl rfl<|wY () [15,1,2,3,4,5,6,7,8,10,11,0,14] hF rfl) fun x2 _=>aV [14] rfl rfl (mH 1 2 (fun(p:Int×aE)=>EO w_ p.1 p.2) [0,4] (fun(p:Int×aE) (s12:AC)=>[(5,I p.1)]) [12] (fun p s12=>[ow s1 (p.2.aA.Mem.aC.Bytes:List Int),ow s2 (p.2.aA.Mem.aC.Class:List Int),ow s3 (p.2.aA.Mem.aB.Global:List aG),ow s4 (p.2.aA.Mem.aB.bA:List aG),ow s12 (p.2.aA.aD.aM:List cQ),ow s6 (p.2.aA.aH:List aP),ow s7 (p.2.aA.bO:List Int),ow s8 (p.2.Cells:List Int),ow s9 (p.2.aR:List bG),ow s10 (p.2.aU:List Queue),ow s11 (p.2.Log:List Ev),.box 0 [.h s1 p.2.aA.Mem.aC.Bytes.length,.h s2 p.2.aA.Mem.aC.Class.length,.h s3 p.2.aA.Mem.aB.Global.length,.h s4 p.2.aA.Mem.aB.bA.length,I p.2.aA.aD.aJ,.h s12 p.2.aA.aD.aM.length,.h s6 p.2.aA.aH.length,.h s7 p.2.aA.bO.length,.h s8 p.2.Cells.length,.h s9 p.2.aR.length,.h s10 p.2.aU.length,.h s11 p.2.Log.length,I p.2.aK]]) rfl (pG 11 0 0 8 [1,2,3,4,5,6,7] rfl rfl rfl rfl rfl (fun _=>YW) fun x7 s13=>aV [33] rfl rfl (pE (p:=(5,({s with aA:=x7.2}:aE))) s13 [13,14,15,16,17,18,19,8,0,9,10,11,12] rfl rfl)<|pE (p:=(0,({s with aA:=x7.2}:aE))) s13 [13,14,15,16,17,18,19,8,0,9,10,11,12] rfl rfl) fun⟨x3,x4⟩ s12=>fun hF=>ro eO 8 12 1 rfl rfl rfl rfl hF fun x5 h3 hF _=>wi hF<|pG 14 1 0 21 [] rfl rfl rfl rfl rfl (fun _=>gE) fun x6 _=>fun hF=>sF rfl<|nD eO 13 [] [] x6 () rfl rfl rfl rfl rfl rfl rfl rfl<|CD s9 List.length_set.symm [] [(11,9)] rfl rfl rfl<|fR rfl rfl<|nB (hT:=tok) (s1,s2,s3,s4,s12,s6) [11,0,1,2,3,4,5,6,7,16,9,10] hF rfl Tryz.results128 rfl rfl rfl rfl)<|fS 0 2 (ES s w_) [0,1,4] 37 [1,2,3,4,5,6,7,8,0,9,10,11,12] rfl (fun hF=>ro eO 0 12 1 rfl rfl rfl rfl hF fun x25 h17 hF _=>wi hF<|fN [43,44] rfl rfl (fun hF=>sF rfl<|tZ eO 13 [] h17 () rfl rfl rfl rfl rfl rfl rfl<|wY () [1,2,3,4,5,6,7,8,16,9,10,11,12] hF rfl)<|fun hF=>sF rfl<|tZ eO 13 [] h17 () rfl rfl rfl rfl rfl rfl rfl<|wY () [1,2,3,4,5,6,7,8,16,9,10,11,12] hF rfl) fun x8=>aV [37] rfl rfl (jP aL [12] rfl<|fun hF=>ro eO 8 12 1 rfl rfl rfl rfl hF fun x9 h5 hF _=>wi hF<|aL0 14 1 7 10 11 0 0 8 [0,1,2,3,4,5,6] rfl rfl rfl rfl rfl (fun _=>C1) fun x10 s14=>aV [63] rfl rfl (pG 14 1 0 21 [] rfl rfl rfl rfl rfl (fun _=>gE (j:=({x9 with Sub:=x10.1}:bG))) fun x11 _=>fun hF=>sF rfl<|nD eO 13 [] [] x11 () rfl rfl rfl rfl rfl rfl rfl rfl<|CD s9 List.length_set.symm [] [(11,9)] rfl rfl rfl<|fR rfl rfl<|nB (hT:=tok) (s14.1,s14.2.1,s14.2.2.1,s14.2.2.2.1,s14.2.2.2.2.1,s14.2.2.2.2.2) [11,16,17,18,19,20,21,22,7,23,9,10] hF rfl Tryz.results128 rfl rfl rfl rfl)<|fun hF=>sF rfl<|nD eO 13 [] [] ({x9 with Sub:=x10.1}:bG) () rfl rfl rfl rfl rfl rfl rfl rfl<|CD s9 List.length_set.symm [] [(11,9)] rfl rfl rfl<|fR rfl rfl<|nB (hT:=tok) (s14.1,s14.2.1,s14.2.2.1,s14.2.2.2.1,s14.2.2.2.2.1,s14.2.2.2.2.2) [11,16,17,18,19,20,21,22,7,23,9,10] hF rfl Tryz.results128 rfl rfl rfl rfl)<|fS 0 2 (ER s w_) [0,1,4] 71 [0,1,2,3,4,5,6,7,8,9,10,11,12] rfl (fun hF=>ro eO 8 12 1 rfl rfl rfl rfl hF fun x24 h15 hF _=>wi hF<|fN [77,78] rfl rfl (fun hF=>sF rfl<|tZ eO 13 [] h15 () rfl rfl rfl rfl rfl rfl rfl<|wY () [0,1,2,3,4,5,6,7,16,9,10,11,12] hF rfl)<|fun hF=>sF rfl<|tZ eO 13 [] h15 () rfl rfl rfl rfl rfl rfl rfl<|wY () [0,1,2,3,4,5,6,7,16,9,10,11,12] hF rfl) fun x12=>aV [71] rfl rfl (jP aL [12] rfl<|fun hF=>ro eO 8 12 1 rfl rfl rfl rfl hF fun x13 h7 hF _=>wi hF<|aL0 14 1 7 10 11 0 0 8 [0,1,2,3,4,5,6] rfl rfl rfl rfl rfl (fun _=>C1) fun x14 s15=>aV [97] rfl rfl (c0 rfl (fun _=>MM) fun x15=>pG 14 1 0 21 [] rfl rfl rfl rfl rfl (fun _=>nI (j:=({x13 with Sub:=x15}:bG))) fun x16 _=>fun hF=>sF rfl<|nD eO 13 [] [] x16 () rfl rfl rfl rfl rfl rfl rfl rfl<|CD s9 List.length_set.symm [] [(11,9)] rfl rfl rfl<|fR rfl rfl<|nB (hT:=tok) (s15.1,s15.2.1,s15.2.2.1,s15.2.2.2.1,s15.2.2.2.2.1,s15.2.2.2.2.2) [11,16,17,18,19,20,21,22,7,23,9,10] hF rfl Tryz.results128 rfl rfl rfl rfl)<|fun hF=>sF rfl<|nD eO 13 [] [] ({x13 with Sub:=x14.1}:bG) () rfl rfl rfl rfl rfl rfl rfl rfl<|CD s9 List.length_set.symm [] [(11,9)] rfl rfl rfl<|fR rfl rfl<|nB (hT:=tok) (s15.1,s15.2.1,s15.2.2.1,s15.2.2.2.1,s15.2.2.2.2.1,s15.2.2.2.2.2) [11,16,17,18,19,20,21,22,7,23,9,10] hF rfl Tryz.results128 rfl rfl rfl rfl)<|fS 0 2 (EP s w_) [0,1,4] 104 [0,1,2,3,4,5,6,7,8,9,10,11,12] rfl (fun hF=>ro eO 8 12 1 rfl rfl rfl rfl hF fun x23 h13 hF _=>wi hF<|fN [110,111] rfl rfl (fun hF=>sF rfl<|tZ eO 13 [] h13 () rfl rfl rfl rfl rfl rfl rfl<|wY () [0,1,2,3,4,5,6,7,16,9,10,11,12] hF rfl)<|fun hF=>sF rfl<|tZ eO 13 [] h13 () rfl rfl rfl rfl rfl rfl rfl<|wY () [0,1,2,3,4,5,6,7,16,9,10,11,12] hF rfl) fun x17=>aV [104] rfl rfl (jP aL [12] rfl<|fun hF=>ro eO 8 12 1 rfl rfl rfl rfl hF fun x18 h9 hF _=>wi hF<|aL0 14 1 7 10 11 0 0 8 [0,1,2,3,4,5,6] rfl rfl rfl rfl rfl (fun _=>C1) fun x19 s16=>aV [130] rfl rfl (pG 14 1 0 21 [] rfl rfl rfl rfl rfl (fun _=>gE (j:=({x18 with Sub:=x19.1,eY:=x19.1.Out}:bG))) fun x20 _=>fun hF=>sF rfl<|nD eO 13 [] [] x20 () rfl rfl rfl rfl rfl rfl rfl rfl<|CD s9 List.length_set.symm [] [(11,9)] rfl rfl rfl<|fR rfl rfl<|nB (hT:=tok) (s16.1,s16.2.1,s16.2.2.1,s16.2.2.2.1,s16.2.2.2.2.1,s16.2.2.2.2.2) [11,16,17,18,19,20,21,22,7,23,9,10] hF rfl Tryz.results128 rfl rfl rfl rfl)<|fun hF=>sF rfl<|nD eO 13 [] [] ({x18 with Sub:=x19.1}:bG) () rfl rfl rfl rfl rfl rfl rfl rfl<|CD s9 List.length_set.symm [] [(11,9)] rfl rfl rfl<|fR rfl rfl<|nB (hT:=tok) (s16.1,s16.2.1,s16.2.2.1,s16.2.2.2.1,s16.2.2.2.2.1,s16.2.2.2.2.2) [11,16,17,18,19,20,21,22,7,23,9,10] hF rfl Tryz.results128 rfl rfl rfl rfl)<|fun hF=>ro eO 8 12 1 rfl rfl rfl rfl hF fun x21 h11 hF _=>wi hF<|pG 14 1 0 21 [] rfl rfl rfl rfl rfl (fun _=>gE) fun x22 _=>fun hF=>sF rfl<|nD eO 13 [] [] x22 () rfl rfl rfl rfl rfl rfl rfl rfl<|CD s9 List.length_set.symm [] [(11,9)] rfl rfl rfl<|fR rfl rfl<|nB (hT:=tok) (s1,s2,s3,s4,s5,s6) [11,0,1,2,3,4,5,6,7,16,9,10] hF rfl Tryz.results128 rfl rfl rfl rfl
theorem uT{s:aE}{w_:Int}{s1 s2 s3 s4 s5 s6 s7 s8 s9 s10 s11:AC}{b0:Nat×Nat}:VS Tryz.prog κ 53 (rV s w_) [.p 0 0,I w_] [b0] [.box 0 [.h s1 s.aA.Mem.aC.Bytes.length,.h s2 s.aA.Mem.aC.Class.length,.h s3 s.aA.Mem.aB.Global.length,.h s4 s.aA.Mem.aB.bA.length,I s.aA.aD.aJ,.h s5 s.aA.aD.aM.length,.h s6 s.aA.aH.length,.h s7 s.aA.bO.length,.h s8 s.Cells.length,.h s9 s.aR.length,.h s10 s.aU.length,.h s11 s.Log.length,I s.aK],ow s1 (s.aA.Mem.aC.Bytes:List Int),ow s2 (s.aA.Mem.aC.Class:List Int),ow s3 (s.aA.Mem.aB.Global:List aG),ow s4 (s.aA.Mem.aB.bA:List aG),ow s5 (s.aA.aD.aM:List cQ),ow s6 (s.aA.aH:List aP),ow s7 (s.aA.bO:List Int),ow s8 (s.Cells:List Int),ow s9 (s.aR:List bG),ow s10 (s.aU:List Queue),ow s11 (s.Log:List Ev)] (fun(r:aE) (y:AC×AC×AC×AC×AC×AC×AC×AC)=>.t []) (fun(r:aE) (y:AC×AC×AC×AC×AC×AC×AC×AC)=>[.box 0 [.h y.1 r.aA.Mem.aC.Bytes.length,.h y.2.1 r.aA.Mem.aC.Class.length,.h y.2.2.1 r.aA.Mem.aB.Global.length,.h y.2.2.2.1 r.aA.Mem.aB.bA.length,I r.aA.aD.aJ,.h y.2.2.2.2.1 r.aA.aD.aM.length,.h y.2.2.2.2.2.1 r.aA.aH.length,.h y.2.2.2.2.2.2.1 r.aA.bO.length,.h s8 r.Cells.length,.h s9 r.aR.length,.h s10 r.aU.length,.h y.2.2.2.2.2.2.2 r.Log.length,I r.aK],ow y.1 r.aA.Mem.aC.Bytes,ow y.2.1 r.aA.Mem.aC.Class,ow y.2.2.1 r.aA.Mem.aB.Global,ow y.2.2.2.1 r.aA.Mem.aB.bA,ow y.2.2.2.2.1 r.aA.aD.aM,ow y.2.2.2.2.2.1 r.aA.aH,ow y.2.2.2.2.2.2.1 r.aA.bO,ow s8 r.Cells,ow s9 r.aR,ow s10 r.aU,ow y.2.2.2.2.2.2.2 r.Log]):=
 bM tok Tryz.call53 Tryz.func53 Tryz.results53 rfl rfl<|mP eO 9 rfl rfl rfl fun x1 h1 _ h2=>fun hF=>dT 1 h2 h1 rfl rfl rfl rfl rfl<|wi hF<|aV [15,18] rfl rfl (fun hF=>Z3 eO 12 [] h1 () rfl rfl rfl rfl rfl rfl rfl rfl rfl<|wi hF<|pG 0 0 0 13 [1,2,3,4,5,6,7,8,16,10,11] rfl rfl rfl rfl rfl (fun _=>aHY) fun x2 s12=>Z4 (s1,s2,s3,s4,s5,s6,s7,s12) [0,17,18,19,20,21,22,23,24,25,26,27] rfl rfl)<|aV [22,25] rfl rfl (fun hF=>Z3 eO 12 [] h1 () rfl rfl rfl rfl rfl rfl rfl rfl rfl<|wi hF<|pG 0 0 0 13 [1,2,3,4,5,6,7,8,16,10,11] rfl rfl rfl rfl rfl (fun _=>uS) fun x3 s13=>mP eO 25 rfl rfl rfl fun x4 h3 _ h4=>fun hF=>dT 3 h4 h3 rfl rfl rfl rfl rfl<|sF rfl<|nD eO 28 [] [38] (⟨false,(⟨0,0,0,0⟩:cM),0,0,(⟨0,0,0,0,0,0,0,0,0,false⟩:Sub),0,0,0,0⟩:bG) () rfl rfl rfl rfl rfl rfl rfl rfl<|CD s9 List.length_set.symm [] [(0,9)] rfl rfl rfl<|fR rfl rfl<|nB (hT:=tok) (s1,s2,s3,s4,s5,s6,s7,s13) [0,17,18,19,20,21,22,23,24,31,26,27] hF rfl Tryz.results53 rfl rfl rfl rfl)<|aV [42,46] rfl rfl (fun hF=>Z3 eO 12 [] h1 () rfl rfl rfl rfl rfl rfl rfl rfl rfl<|wi hF<|pG 0 0 0 13 [1,2,3,4,5,6,7,8,16,10,11] rfl rfl rfl rfl rfl (fun _=>aK7) fun x5 s14=>Z4 (s14.1,s14.2.1,s14.2.2.1,s14.2.2.2.1,s14.2.2.2.2.1,s14.2.2.2.2.2.1,s7,s14.2.2.2.2.2.2) [0,17,18,19,20,21,22,23,24,25,26,27] rfl rfl)<|aV [50,54] rfl rfl (fun hF=>Z3 eO 12 [] h1 () rfl rfl rfl rfl rfl rfl rfl rfl rfl<|wi hF<|pG 0 0 0 13 [1,2,3,4,5,6,7,8,16,10,11] rfl rfl rfl rfl rfl (fun _=>aK8) fun x6 s15=>Z4 (s15.1,s15.2.1,s15.2.2.1,s15.2.2.2.1,s15.2.2.2.2.1,s15.2.2.2.2.2.1,s7,s15.2.2.2.2.2.2) [0,17,18,19,20,21,22,23,24,25,26,27] rfl rfl)<|aV [58,62] rfl rfl (fun hF=>Z3 eO 12 [] h1 () rfl rfl rfl rfl rfl rfl rfl rfl rfl<|wi hF<|pG 0 0 0 13 [1,2,3,4,5,6,7,8,16,10,11] rfl rfl rfl rfl rfl (fun _=>aK9) fun x7 s16=>Z4 (s1,s2,s3,s4,s5,s6,s16.1,s16.2) [0,17,18,19,20,21,22,23,24,25,26,27] rfl rfl)<|aV [66,70] rfl rfl (fun hF=>Z3 eO 12 [] h1 () rfl rfl rfl rfl rfl rfl rfl rfl rfl<|wi hF<|pG 0 0 0 13 [1,2,3,4,5,6,7,8,16,10,11] rfl rfl rfl rfl rfl (fun _=>aJK) fun x8 s17=>Z4 (s1,s2,s3,s4,s5,s6,s7,s17) [0,17,18,19,20,21,22,23,24,25,26,27] rfl rfl)<|fun hF=>Z3 eO 12 [] h1 () rfl rfl rfl rfl rfl rfl rfl rfl rfl<|wi hF<|pG 0 0 0 13 [1,2,3,4,5,6,7,8,16,10,11] rfl rfl rfl rfl rfl (fun _=>aH1) fun x9 s18=>Z4 (s18.1,s18.2.1,s18.2.2.1,s18.2.2.2.1,s18.2.2.2.2.1,s18.2.2.2.2.2,s7,s11) [0,17,18,19,20,21,22,23,24,25,26,27] rfl rfl
theorem fK{a_ b:List Int}{s1:AC}{s2:AC}(h1:aQ κ s1 a_)(h2:aQ κ s2 b):V0 Tryz.prog κ 55 (xP a_ b) [.h s1 a_.length,.h s2 b.length] .b:=
 bM tok Tryz.call55 Tryz.func55 Tryz.results55 rfl rfl<|aV [10] rfl rfl (aY rfl rfl)<|CH 5 [0,1] [] Out.brk [] [] rfl rfl (fun hF1 x2 hr1=>aV [14] rfl rfl (jP aL [] rfl<|UT rfl h1 rfl fun x3=>UT rfl h2 rfl fun x4=>aV [25] rfl rfl (eX hr1 hF1<|aY rfl rfl)<|pX [] rfl)<|jE [] rfl)<|aY rfl rfl
theorem OU{a_ b:cM}:V0 Tryz.prog κ 220 (aAL a_ b) [.g [I a_.Kind,I a_.Cell,I a_.gD,I a_.eY],.g [I b.Kind,I b.Cell,I b.gD,I b.eY]] .b:=
 bM tok Tryz.call220 Tryz.func220 Tryz.results220 rfl rfl<|aV [9] rfl rfl (aY rfl rfl)<|aV [14] rfl rfl (aY rfl rfl)<|aV [19] rfl rfl (aY rfl rfl)<|aV [24] rfl rfl (aY rfl rfl)<|aY rfl rfl
theorem aTU{a_ b:List cM}{s1:AC}{s2:AC}(h1:aQ κ s1 a_)(h2:aQ κ s2 b):V0 Tryz.prog κ 222 (aBZ a_ b) [.h s1 a_.length,.h s2 b.length] .b:=
 bM tok Tryz.call222 Tryz.func222 Tryz.results222 rfl rfl<|aV [10] rfl rfl (aY rfl rfl)<|CH 5 [0,1] [] Out.brk [] [] rfl rfl (fun hF1 x2 hr1=>aV [14] rfl rfl (jP aL [] rfl<|eG RG rfl h1 rfl fun x3 _ _=>eG RG rfl h2 rfl fun x4 _ _=>c0 rfl (fun _=>OU) fun x5=>aV [26] rfl rfl (eX hr1 hF1<|aY rfl rfl)<|pX [] rfl)<|jE [] rfl)<|aY rfl rfl
theorem aPT{a_ b:Queue}{s1:AC}{s2:AC}(h1:aQ κ s1 a_.kJ)(h2:aQ κ s2 b.kJ):V0 Tryz.prog κ 133 (VR a_ b) [.g [.h s1 a_.kJ.length],.g [.h s2 b.kJ.length]] .b:=
 bM tok Tryz.call133 Tryz.func133 Tryz.results133 rfl rfl<|c0 rfl (fun h=>aTU (h.a h1) (h.a h2)) fun x1=>aV [10] rfl rfl (aY rfl rfl)<|aY rfl rfl
theorem vV{a_ b:List Queue}{s1:AC}{s2:AC}(h1:aQ κ s1 a_)(h2:aQ κ s2 b):V0 Tryz.prog κ 57 (DX a_ b) [.h s1 a_.length,.h s2 b.length] .b:=
 bM tok Tryz.call57 Tryz.func57 Tryz.results57 rfl rfl<|aV [10] rfl rfl (aY rfl rfl)<|CH 5 [0,1] [] Out.brk [] [] rfl rfl (fun hF1 x2 hr1=>aV [14] rfl rfl (jP aL [] rfl<|eG FH rfl h1 rfl fun x3 s3 h3=>eG FH rfl h2 rfl fun x4 s4 h4=>c0 rfl (fun h=>aPT (h.a h3) (h.a h4)) fun x5=>aV [26] rfl rfl (eX hr1 hF1<|aY rfl rfl)<|pX [] rfl)<|jE [] rfl)<|aY rfl rfl
end
end Go.Proofs.YtgboekoingacfaaGreat
end
noncomputable section
set_option linter.unusedVariables false
set_option linter.unusedSimpArgs false
namespace Go.Gv
theorem fI{σ ρ:Type}{f:σ→Option (Step σ ρ)}(n:Nat)(S:Nat→σ)(r:ρ)(hs:∀k,k < n→f (S k)=some (.next (S (k+1))))(he:f (S n)=some (.stop r)):loop f (S 0)=some r:=by
  have key:∀d k,k+d=n→loop f (S k)=some r:=by
    intro d
    induction d with
    | zero => intro k hk; obtain rfl : k = n := by omega
              exact cX he
    | succ d ih=>intro k hk;rw [cO (hs k (by omega))];exact ih (k+1) (by omega)
  exact key n 0 (by omega)
theorem aYZ{σ ρ:Type}{f:σ→Option (Step σ ρ)}(n:Nat)(S:Nat→σ)(g:Nat→ρ)
    (h:∀k,k≤n→f (S k)=some (.stop (g k))∨(k < n∧f (S k)=some (.next (S (k+1)))∧g k=g (k+1))):∀k,k≤n→loop f (S k)=some (g k):=by
  have key:∀d k,k+d=n→loop f (S k)=some (g k):=by
    intro d
    induction d with
    | zero =>
      intro k hk
      rcases h k (by omega) with h1 | ⟨h1,_⟩
      · exact cX h1
      · omega
    | succ d ih =>
      intro k hk
      rcases h k (by omega) with h1 | ⟨_,h2,h3⟩
      · exact cX h1
      · rw [cO h2,h3];exact ih (k+1) (by omega)
  intro k hk
  exact key (n - k) k (by omega)
theorem BI{σ ρ:Type}{f:σ→Option (Step σ ρ)}(n:Nat)(S:Nat→σ)(p:Nat→Prop)[DecidablePred p](yes no:ρ)
    (h1:∀k,k < n→p k→f (S k)=some (.next (S (k+1)))) (h2:∀k,k < n→¬p k→f (S k)=some (.stop no)) (h3:f (S n)=some (.stop yes)) :
    loop f (S 0)=some (if ∀k,k < n→p k then yes else no):=by
  classical
  have key:∀d k,k+d=n→loop f (S k)=some (if ∀j,k≤j→j < n→p j then yes else no):=by
    intro d
    induction d with
    | zero =>
      intro k hk;obtain rfl:k=n:=by omega
      rw [cX h3,if_pos (fun j a b=>by omega)]
    | succ d ih =>
      intro k hk
      by_cases hp:p k
      · rw [cO (h1 k (by omega) hp),ih (k+1) (by omega)]
        by_cases h:∀j,k+1≤j→j < n→p j
        · rw [if_pos h,if_pos]
          intro j a b
          by_cases e:j=k
          · subst e;exact hp
          · exact h j (by omega) b
        · rw [if_neg h,if_neg]
          exact fun q=>h fun j a b=>q j (by omega) b
      · rw [cX (h2 k (by omega) hp),if_neg]
        exact fun q=>hp (q k (Nat.le_refl _) (by omega))
  have:=key n 0 (by omega)
  rw [this]
  by_cases h:∀k,k < n→p k
  · rw [if_pos h,if_pos (fun j _ b=>h j b)]
  · rw [if_neg h,if_neg (fun q=>h fun k a=>q k (Nat.zero_le _) a)]
theorem lA{α σ ρ:Type}{f:σ→Option (Step σ ρ)}(l:List α)(S:Nat→σ)(p:α→Prop)[DecidablePred p](yes no:ρ)
    (h1:∀k (h:k < l.length),p l[k]→f (S k)=some (.next (S (k+1)))) (h2:∀k (h:k < l.length),¬p l[k]→f (S k)=some (.stop no)) (h3:f (S l.length)=some (.stop yes)) :
    loop f (S 0)=some (if ∀x∈l,p x then yes else no):=by
  classical
  have:=BI (f:=f) l.length S (fun k=>∀h:k < l.length,p l[k]) yes no (fun k h hp=>h1 k h (hp h)) (fun k h hp=>h2 k h (fun q=>hp fun _=>q)) h3
  rw [this]
  by_cases h:∀x∈l,p x
  · rw [if_pos h,if_pos (fun k hk _=>h _ (List.getElem_mem hk))]
  · rw [if_neg h,if_neg]
    intro q
    refine h fun x hx=>?_
    obtain⟨k,hk,rfl⟩:=List.mem_iff_getElem.1 hx
    exact q k hk hk
theorem aZ{x:Int}(h1:-9223372036854775808≤x)(h2:x≤9223372036854775807):aI x=x:=O2 ⟨h1,h2⟩
theorem FO{α:Type}{l:List α}{i:Int}(h0:0≤i)(h1:i < l.length):idx l i=some (l[i.toNat]'(by omega)):=idx_eq h0 h1
theorem TY{x y:Int}(h1:0≤x):x.tdiv y=x / y:=Int.tdiv_eq_ediv_of_nonneg h1
theorem J0{x y:Int}(h1:0≤x):x.tmod y=x % y:=Int.tmod_eq_emod_of_nonneg h1
theorem a4B{x:Int}{k:Nat}(h1:0≤x)(hk:k≤63):tV .i64 x k=x / 2 ^ k:=by
  unfold tV
  have:min ((k:Int).toNat) IntKind.i64.bits=k:=by simp [IntKind.bits];omega
  rw [this,Int.fdiv_eq_ediv_of_nonneg _ (by exact Int.le_of_lt (Int.pow_pos (by omega)))]
end Go.Gv
end
noncomputable section
set_option linter.unusedVariables false
set_option linter.unusedSimpArgs false
namespace Go.Gv
theorem kD(n a b:Int):fO n a b=some (decide (a≤n∧n≤b)):=by
  unfold fO E6
  by_cases h:a≤n <;> simp [h]
theorem fP(n a b:Int):dD n a b=some (decide (a≤n∧n≤b)):=by
  unfold dD U1
  by_cases h:a≤n <;> simp [h]
end Go.Gv
end
noncomputable section
set_option linter.unusedVariables false
set_option linter.unusedSimpArgs false
namespace Go.Gv
def BJ(c:Int):Int:=if c=0 then 8 else if c=1 then 16 else if c=2 then 40 else 0
def cK(c:Int):Int:=if c=0 then 12 else if c=1 then 20 else if c=2 then 44 else 0
def iV(c:Int):Int:=if c=0 then 4 else if c=1 then 2 else if c=2 then 1 else 0
theorem sS{c:Int}(h:0≤c∧c≤2):c=0∨c=1∨c=2:=by omega
theorem a16{c:Int}(h:¬(0≤c∧c≤2)):BJ c=0:=by unfold BJ;rw [if_neg (by omega),if_neg (by omega),if_neg (by omega)]
theorem aPU{c:Int}(h:¬(0≤c∧c≤2)):cK c=0:=by unfold cK;rw [if_neg (by omega),if_neg (by omega),if_neg (by omega)]
theorem aTV{c:Int}(h:¬(0≤c∧c≤2)):iV c=0:=by unfold iV;rw [if_neg (by omega),if_neg (by omega),if_neg (by omega)]
theorem DI(c:Int):0≤iV c∧iV c≤4:=by unfold iV;split <;> (try split) <;> (try split) <;> omega
theorem aH2(c:Int):0≤cK c∧cK c≤44:=by unfold cK;split <;> (try split) <;> (try split) <;> omega
theorem DJ{c:Int}:0 < iV c↔0≤c∧c≤2:=by
  unfold iV;constructor
  · intro h;split at h <;> (try split at h) <;> (try split at h) <;> omega
  · intro h;rcases sS h with rfl | rfl | rfl <;> decide
theorem WS(c:Int):C8 c=some (BJ c):=by
  unfold C8 BJ
  by_cases h0:c=0 <;> by_cases h1:c=1 <;> by_cases h2:c=2 <;> simp [h0,h1,h2]
theorem vW(c:Int):w5 c=some (decide (0≤c∧c≤2)):=by simp [w5,kD]
theorem aEW(c:Int):OS c=some (BJ c):=by
  unfold OS
  rw [vW]
  by_cases h:0≤c∧c≤2
  · rcases sS h with rfl | rfl | rfl <;> rfl
  · simp [h,a16 h]
theorem aLA(c:Int):LW c=some (cK c):=by
  unfold LW
  rw [fP]
  by_cases h:0≤c∧c≤2
  · rcases sS h with rfl | rfl | rfl <;> rfl
  · simp [h,aPU h]
theorem aAT(c:Int):IN c=some (cK c):=by
  unfold IN
  rw [vW]
  by_cases h:0≤c∧c≤2
  · rcases sS h with rfl | rfl | rfl <;> rfl
  · simp [h,aPU h]
theorem tJ(c:Int):zX c=some (iV c):=by
  unfold zX
  rw [fP]
  by_cases h:0≤c∧c≤2
  · rcases sS h with rfl | rfl | rfl <;> rfl
  · simp [h,aTV h]
theorem NN(c:Int):C9 c=some (iV c):=by
  unfold C9
  rw [vW]
  by_cases h:0≤c∧c≤2
  · rcases sS h with rfl | rfl | rfl <;> rfl
  · simp [h,aTV h]
theorem aEX(s:Int):OQ s=some (if 0≤s∧s≤23 then s / 4 else -1):=by
  unfold OQ
  rw [fP]
  by_cases h:0≤s∧s≤23
  · simp [h,TY h.1];rw [aZ (by omega) (by omega)]
  · simp [h]
theorem aDF(s:Int):KM s=some (if 0≤s∧s≤23 then s % 4 else -1):=by
  unfold KM
  rw [fP]
  by_cases h:0≤s∧s≤23
  · simp [h,J0 h.1]
  · simp [h]
def sI(s c:Int):Int:=if (0≤s∧s≤23)∧s % 4 < iV c then s / 4 * 64+8+s % 4 * cK c else -1
theorem WT{i c:Int}(h0:0≤i)(h1:i < iV c):0≤i * cK c∧i * cK c+cK c≤56:=by
  unfold iV at h1;unfold cK
  split at h1
  · rw [if_pos ‹_›];omega
  · split at h1
    · rw [if_neg ‹_›,if_pos ‹_›];omega
    · split at h1
      · rw [if_neg ‹_›,if_neg ‹_›,if_pos ‹_›];omega
      · omega
theorem MN(s c:Int):JF s c=some (sI s c):=by
  unfold JF SN sI
  rw [aEX,aDF,tJ,aLA]
  by_cases h:0≤s∧s≤23
  · have hp:=DI c
    have h1:¬s / 4 < 0:=by omega
    have h2:aI (iV c - 1)=iV c - 1:=aZ (by omega) (by omega)
    by_cases h3:s % 4 < iV c
    · have hm:=WT (by omega) h3
      have hs:=aH2 c
      have h4:0≤s % 4∧s % 4≤iV c - 1:=by omega
      have h5:¬iV c - 1 < s % 4:=by omega
      have e1:aI (s / 4 * 64)=s / 4 * 64:=aZ (by omega) (by omega)
      have e2:aI (s / 4 * 64+8)=s / 4 * 64+8:=aZ (by omega) (by omega)
      have e3:aI (s % 4 * cK c)=s % 4 * cK c:=aZ (by omega) (by omega)
      have e4:aI (s / 4 * 64+8+s % 4 * cK c)=s / 4 * 64+8+s % 4 * cK c:=aZ (by omega) (by omega)
      simp [h,h1,h2,h3,h4,h5,fP,e1,e2,e3,e4]
    · have h4:¬s % 4≤iV c - 1:=by omega
      simp [h,h1,h2,h3,h4,fP]
  · simp [h]
theorem J1(s:Int):AM s=some (decide (0≤s∧s≤23)):=by simp [AM,kD]
theorem MO(s c:Int):JM s c=some (sI s c):=by
  unfold JM MC sI
  rw [J1,vW,NN,aAT]
  by_cases h:0≤s∧s≤23
  · have hp:=DI c
    rw [J0 h.1,TY h.1]
    by_cases h3:s % 4 < iV c
    · have hm:=WT (by omega) h3
      have hs:=aH2 c
      have hc:0≤c∧c≤2:=DJ.1 (by omega)
      have e0:aI (s / 4)=s / 4:=aZ (by omega) (by omega)
      have e1:aI (s / 4 * 64)=s / 4 * 64:=aZ (by omega) (by omega)
      have e2:aI (s / 4 * 64+8)=s / 4 * 64+8:=aZ (by omega) (by omega)
      have e3:aI (s % 4 * cK c)=s % 4 * cK c:=aZ (by omega) (by omega)
      have e4:aI (s / 4 * 64+8+s % 4 * cK c)=s / 4 * 64+8+s % 4 * cK c:=aZ (by omega) (by omega)
      have h5:¬iV c≤s % 4:=by omega
      simp [h,hc,h3,h5,e0,e1,e2,e3,e4]
    · have h5:iV c≤s % 4:=by omega
      by_cases hc:0≤c∧c≤2 <;> simp [h,hc,h3,h5]
  · simp [h]
end Go.Gv
end
noncomputable section
set_option linter.unusedVariables false
set_option linter.unusedSimpArgs false
namespace Go.Gv
def ldF(l:List Int):Int:=l.foldl (fun n x=>n * 256+x) 0
def I7(l:List Int):Prop:=∀x∈l,0≤x∧x≤255
instance (l:List Int):Decidable (I7 l):=by unfold I7;infer_instance
theorem aPV{l:List Int}{k:Nat}(h:k < l.length):ldF (l.take (k+1))=ldF (l.take k) * 256+l[k]:=by
  unfold ldF
  rw [List.take_succ_eq_append_getElem h,List.foldl_append];rfl
theorem aSI{l:List Int}(h:I7 l):∀k,k≤l.length→0≤ldF (l.take k)∧ldF (l.take k) < 256 ^ k:=by
  intro k
  induction k with
  | zero=>intro _;simp [ldF]
  | succ k ih =>
    intro hk
    have h1:=ih (by omega)
    have h2:=h _ (List.getElem_mem (show k < l.length by omega))
    rw [aPV (by omega),Int.pow_succ]
    omega
theorem a6K{k:Nat}(h:k≤6):(256:Int) ^ k≤281474976710656:=by
  have h1:(256:Nat) ^ k≤256 ^ 6:=Nat.pow_le_pow_right (by omega) h
  have h2:(256:Nat) ^ 6=281474976710656:=by decide
  rw [h2] at h1
  have h3:((256 ^ k:Nat):Int)≤281474976710656:=by omega
  rw [Int.natCast_pow] at h3
  exact h3
def ld(b:List Int)(at_ w:Nat):Int:=ldF ((b.drop at_).take w)
theorem aYI{n x:Int}{k:Nat}(hk:k≤6)(h:0≤n∧n < 256 ^ k)(hx:0≤x∧x≤255):aI (aI (n * 256)+x)=n * 256+x∧aI (aI (256 * n)+x)=n * 256+x:=by
  have:=a6K hk
  rw [Int.mul_comm 256 n,aZ (x:=n * 256) (by omega) (by omega),aZ (by omega) (by omega)]
  exact⟨rfl,rfl⟩
theorem aWT{b:List Int}{a w:Nat}(h:a+w≤b.length):((b.drop a).take w).length=w:=by simp;omega
theorem aPW{b:List Int}{a w k:Nat}(h:k < ((b.drop a).take w).length)(h':a+k < b.length):((b.drop a).take w)[k]=b[a+k]:=by simp
theorem aTW{b:List Int}(hb:I7 b)(a w:Nat):I7 ((b.drop a).take w):=fun x hx=>hb x (List.mem_of_mem_drop (List.mem_of_mem_take hx))
theorem WU{b:List Int}(hb:I7 b){a w:Nat}(hw:w≤7)(h:a+w≤b.length)(hl:b.length≤100000):JE b (a:Int) (w:Int)=some (ld b a w):=by
  unfold JE
  have hlen:=aWT h
  have hbb:=aTW hb a w
  have key:loop (JD b (a:Int) (w:Int)) (0,0)=some (ld b a w):=by
    refine fI (f:=JD b (a:Int) (w:Int)) w (fun k=>(ldF (((b.drop a).take w).take k),(k:Int))) _ (fun k hk=>?_) ?_
    · have hb1:=aSI hbb k (by omega)
      have hk':k < ((b.drop a).take w).length:=by omega
      have hx:=hbb _ (List.getElem_mem hk')
      have hs:=aYI (by omega) hb1 hx
      rw [aPW hk' (by omega)] at hs
      have e1:aI ((a:Int)+k)=((a+k:Nat):Int):=by rw [aZ (by omega) (by omega)];omega
      simp only [JD]
      rw [if_pos (by simp;omega),e1,aT (by omega)]
      simp only [Option.bind_some,hs.1,aPV hk',aPW hk' (show a+k < b.length by omega)]
      rw [aZ (x:=(k:Int)+1) (by omega) (by omega)];rfl
    · have:((b.drop a).take w).take w=(b.drop a).take w:=by rw [List.take_take];simp
      simp [JD,this,ld]
  rw [key];rfl
theorem NO{b:List Int}(hb:I7 b){a w:Nat}(hw:w≤7)(h:a+w≤b.length)(hl:b.length≤100000):z5 b (a:Int) (w:Int)=some (ld b a w):=by
  unfold z5
  have hlen:=aWT h
  have hbb:=aTW hb a w
  have e0:aI ((a:Int)+w)=((a+w:Nat):Int):=by rw [aZ (by omega) (by omega)];omega
  have e2:(b.take (a+w)).drop a=(b.drop a).take w:=by rw [List.drop_take];congr 1;omega
  rw [aO (by rw [e0];omega)]
  have key:loop (HU b (a:Int) (w:Int)) (0,0)=some (ld b a w):=by
    refine fI (f:=HU b (a:Int) (w:Int)) w (fun k=>(ldF (((b.drop a).take w).take k),(k:Int))) _ (fun k hk=>?_) ?_
    · have hb1:=aSI hbb k (by omega)
      have hk':k < ((b.drop a).take w).length:=by omega
      have hx:=hbb _ (List.getElem_mem hk')
      have hs:=aYI (by omega) hb1 hx
      simp only [HU,e0,Int.toNat_natCast,e2]
      rw [if_pos (by simp;omega),aT hk']
      simp only [Option.bind_some,hs.2,aPV hk']
      rw [aZ (x:=(k:Int)+1) (by omega) (by omega)];rfl
    · have:((b.drop a).take w).take w=(b.drop a).take w:=by rw [List.take_take];simp
      simp only [HU,e0,Int.toNat_natCast,e2,this,ld]
      rw [if_neg (by rw [hlen];simp)]
  rw [key];rfl
theorem DK{l:List Int}(hl:l.length≤maxLen)(f:Int→Bool):iW l (fun x=>some (f x))=some (l.any f):=by
  unfold iW JK
  have key:∀k:Nat,k≤l.length→loop (uB l (fun x=>some (f x))) (k:Int)=some (if (l.drop k).any f then Out.ret ((k+(l.drop k).findIdx f:Nat):Int) else Out.brk ()):=by
    refine aSZ l.length _ fun k hk=>?_
    by_cases h3:k < l.length
    · have hd:l.drop k=l[k] :: l.drop (k+1):=List.drop_eq_getElem_cons h3
      simp only [uB]
      rw [if_pos (by simp;omega),aT h3,bV (cG h3 hl),hd]
      simp only [Option.bind_some,List.any_cons,List.findIdx_cons]
      by_cases h4:f l[k]=true
      · left;simp [h4]
      · right
        have h4:f l[k]=false:=by simpa using h4
        refine⟨h3,by simp [h4],?_⟩
        simp only [h4,Bool.false_or,cond_false]
        congr 2;omega
    · left
      obtain rfl:k=l.length:=by omega
      simp [uB]
  have t0:loop (uB l (fun x=>some (f x))) 0=_:=key 0 (by omega)
  rw [t0]
  simp only [List.drop_zero]
  by_cases h:l.any f=true
  · simp [h,E5]
  · have h:l.any f=false:=by simpa using h
    simp [h,E5,OR]
def BOk(b:List Int):Prop:=b.length≤1000∧I7 b
instance (b:List Int):Decidable (BOk b):=by unfold BOk;infer_instance
theorem aM5{b:List Int}(hl:b.length≤maxLen):U2 b=some (decide (BOk b)):=by
  unfold U2
  have key:loop (CI b) 0=some (if ∀x∈b,0≤x∧x≤255 then Out.brk () else Out.ret false):=by
    refine lA (f:=CI b) b (fun k=>(k:Int)) (fun x=>0≤x∧x≤255) _ _ (fun k h hp=>?_) (fun k h hp=>?_) ?_
    · simp only [CI]
      rw [if_pos (by simp;omega),aT h,bV (cG h hl)]
      simp [fP,hp]
    · simp only [CI]
      rw [if_pos (by simp;omega),aT h]
      simp only [Option.bind_some,fP,hp,decide_false,Bool.not_false,if_true]
    · simp [CI]
  rw [key]
  by_cases h:∀x∈b,0≤x∧x≤255
  · rw [if_pos h]
    have:BOk b↔b.length≤1000:=⟨fun q=>q.1,fun q=>⟨q,h⟩⟩
    simp only [Option.bind_some,UD,aCY,this]
    congr 1;rw [Bool.eq_iff_iff];simp;omega
  · rw [if_neg h]
    have:¬BOk b:=fun q=>h q.2
    simp [UD,this]
theorem uI{α:Type}{p:α→Prop}[DecidablePred p](l:List α):(l.any fun x=>!decide (p x))=!decide (∀x∈l,p x):=by
  rw [Bool.eq_iff_iff];simp
theorem aM6{b:List Int}(hl:b.length≤maxLen):VE b=some (decide (BOk b)):=by
  unfold VE M9
  have e:(fun y0=>PR y0)=fun y:Int=>some (!decide (0≤y∧y≤255)):=by
    funext y;simp [PR,aEE,kD]
  rw [e,DK hl,uI]
  by_cases h:b.length≤1000
  · have:BOk b↔∀x∈b,0≤x∧x≤255:=⟨fun q=>q.2,fun q=>⟨h,q⟩⟩
    have h':(b.length:Int)≤1000:=by omega
    simp [h',this]
  · have:¬BOk b:=fun q=>h q.1
    have h':¬(b.length:Int)≤1000:=by omega
    simp [h',this]
def oH(h:aC):Prop:=h.Bytes.length=384∧h.Class.length=6∧I7 h.Bytes∧∀c∈h.Class,-1≤c∧c≤2
instance (h:aC):Decidable (oH h):=by unfold oH;infer_instance
theorem aM7{h:aC}(hl:h.Bytes.length≤maxLen):U3 h=some (decide (oH h)):=by
  unfold U3 HN
  by_cases h1:h.Bytes.length=384
  · by_cases h2:h.Class.length=6
    · rw [aM5 hl]
      have n1:((h.Bytes.length:Int) != 384)=false:=by simp;omega
      have n2:((h.Class.length:Int) != 6)=false:=by simp;omega
      simp only [n1,n2,Bool.false_eq_true,if_false,Option.bind_some]
      by_cases h3:I7 h.Bytes
      · have b1:BOk h.Bytes:=⟨by omega,h3⟩
        have key:loop (CJ h) 0=some (if ∀x∈h.Class,-1≤x∧x≤2 then Out.brk () else Out.ret false):=by
          refine lA (f:=CJ h) h.Class (fun k=>(k:Int)) (fun x=>-1≤x∧x≤2) _ _ (fun k h hp=>?_) (fun k h hp=>?_) ?_
          · simp only [CJ]
            rw [if_pos (by simp;omega),aT h,aZ (by omega) (by omega)]
            simp [fP,hp]
          · simp only [CJ]
            rw [if_pos (by simp;omega),aT h]
            simp only [Option.bind_some,fP]
            rw [decide_eq_false hp];rfl
          · simp [CJ,h2]
        rw [key]
        have:oH h↔∀x∈h.Class,-1≤x∧x≤2:=⟨fun q=>q.2.2.2,fun q=>⟨h1,h2,h3,q⟩⟩
        simp only [b1,decide_true,Bool.not_true,Bool.false_eq_true,if_false,this]
        by_cases h4:∀x∈h.Class,-1≤x∧x≤2
        · rw [if_pos h4,decide_eq_true h4];rfl
        · rw [if_neg h4,decide_eq_false h4];rfl
      · have b1:¬BOk h.Bytes:=fun q=>h3 q.2
        have:¬oH h:=fun q=>h3 q.2.2.1
        simp [b1,this]
    · have n1:((h.Bytes.length:Int) != 384)=false:=by simp;omega
      have n2:((h.Class.length:Int) != 6)=true:=by simp;omega
      have:¬oH h:=fun q=>h2 q.2.1
      simp [n1,n2,this]
  · have n1:((h.Bytes.length:Int) != 384)=true:=by simp;omega
    have:¬oH h:=fun q=>h1 q.1
    simp [n1,this]
theorem QO{h:aC}(hl:h.Bytes.length≤maxLen):TP h=some (decide (oH h)):=by
  unfold TP E7
  by_cases h1:h.Bytes.length=384
  · have n1:((h.Bytes.length:Int) == 384)=true:=by simp;omega
    rw [aM6 hl]
    by_cases h3:I7 h.Bytes
    · have b1:BOk h.Bytes:=⟨by omega,h3⟩
      by_cases h2:h.Class.length=6
      · have n2:((h.Class.length:Int) == 6)=true:=by simp;omega
        have e:(fun y0=>SZ y0)=fun y:Int=>some (!decide (-1≤y∧y≤2)):=by
          funext y;simp [SZ,kD]
        rw [e,DK (by rw [h2];simp [maxLen]),uI]
        have:oH h↔∀x∈h.Class,-1≤x∧x≤2:=⟨fun q=>q.2.2.2,fun q=>⟨h1,h2,h3,q⟩⟩
        simp [n1,n2,b1,this]
      · have n2:((h.Class.length:Int) == 6)=false:=by simp;omega
        have:¬oH h:=fun q=>h2 q.2.1
        simp [n1,n2,b1,this]
    · have b1:¬BOk h.Bytes:=fun q=>h3 q.2
      have:¬oH h:=fun q=>h3 q.2.2.1
      simp [n1,b1,this]
  · have n1:((h.Bytes.length:Int) == 384)=false:=by simp;omega
    have:¬oH h:=fun q=>h1 q.1
    simp [n1,this]
end Go.Gv
end
noncomputable section
set_option linter.unusedVariables false
set_option linter.unusedSimpArgs false
set_option linter.unusedSectionVars false
namespace Go.Gv
def lG(h:aC)(p:Nat):List Int:=(h.Bytes.drop (p * 64)).take 64
def fQ(h:aC)(p:Nat):Int:=h.Class.getD p 0
def BK(h:aC)(p:Nat):Prop:=
  if fQ h p < 0 then ∀x∈lG h p,x=0
  else ((lG h p).getD 0 0=171∧(lG h p).getD 1 0=fQ h p∧(lG h p).getD 2 0=iV (fQ h p))∧(∀x∈((lG h p).drop 3).take 5,x=0)∧∀i,i < (iV (fQ h p)).toNat→1≤ld h.Bytes (p * 64+8+i * (cK (fQ h p)).toNat) 4∧ld h.Bytes (p * 64+8+i * (cK (fQ h p)).toNat) 4≤7
instance (h:aC) (p:Nat):Decidable (BK h p):=by unfold BK;infer_instance
noncomputable section
variable {h:aC} (hs:oH h) {p:Nat} (hp:p < 6)
include hs hp
theorem WV:(lG h p).length=64:=aWT (by have:=hs.1;omega)
theorem aEY{k:Nat}(hk:k < 64):h.Bytes[p * 64+k]'(by have:=hs.1;omega)=(lG h p)[k]'(by rw [WV hs hp];exact hk):=(aPW (show k < ((h.Bytes.drop (p * 64)).take 64).length by have:=WV hs hp;unfold lG at this;omega) _).symm
theorem aSJ{k:Nat}(hk:k < 64):h.Bytes[p * 64+k]'(by have:=hs.1;omega)=(lG h p).getD k 0:=by
  rw [aEY hs hp hk,List.getD_eq_getElem?_getD,List.getElem?_eq_getElem (by rw [WV hs hp];exact hk)];rfl
theorem aYJ:h.Class[p]'(by have:=hs.2.1;omega)=fQ h p:=by
  unfold fQ
  rw [List.getD_eq_getElem?_getD,List.getElem?_eq_getElem (by have:=hs.2.1;omega)];rfl
theorem aNT:idx h.Class (p:Int)=some (fQ h p):=by rw [aT (by have:=hs.2.1;omega),aYJ hs hp]
theorem aPX{k:Nat}(hk:k < 64):idx h.Bytes (((p * 64+k:Nat)):Int)=some ((lG h p).getD k 0):=by
  rw [aT (by have:=hs.1;omega),aSJ hs hp hk]
theorem aY0:I7 (lG h p):=aTW hs.2.2.1 _ _
theorem K9{c:Int}(hc:fQ h p=c){i:Nat}(hi:i < (iV c).toNat):(8+i * (cK c).toNat)+4≤64∧0≤(i:Int) * cK c∧((8+i * (cK c).toNat:Nat):Int)=8+(i:Int) * cK c:=by
  have h1:(i:Int) < iV c:=by omega
  have hc2:0≤c∧c≤2:=DJ.1 (by omega)
  rcases sS hc2 with rfl | rfl | rfl
  · have e:cK 0=12:=rfl
    have g:(12:Int).toNat=12:=rfl
    have f:(iV 0).toNat=4:=rfl
    rw [e,g];rw [f] at hi;omega
  · have e:cK 1=20:=rfl
    have g:(20:Int).toNat=20:=rfl
    have f:(iV 1).toNat=2:=rfl
    rw [e,g];rw [f] at hi;omega
  · have e:cK 2=44:=rfl
    have g:(44:Int).toNat=44:=rfl
    have f:(iV 2).toNat=1:=rfl
    rw [e,g];rw [f] at hi;omega
theorem a17{i:Nat}(hi:i < (iV (fQ h p)).toNat):sI ((p:Int) * 4+i) (fQ h p)=((p * 64+(8+i * (cK (fQ h p)).toNat):Nat):Int):=by
  have hz:=K9 hs hp rfl hi
  have hle:=DI (fQ h p)
  unfold sI
  rw [if_pos (by omega)]
  have e1:((p:Int) * 4+i) / 4=p:=by omega
  have e2:((p:Int) * 4+i) % 4=i:=by omega
  rw [e1,e2]
  omega
theorem aEZ:YH h (p:Int)=some (decide (BK h p)):=by
  have hb:=hs.1
  have hl:=WV hs hp
  have e0:aI ((p:Int) * 64)=((p * 64+0:Nat):Int):=by rw [aZ (by omega) (by omega)];omega
  have e1:aI (((p * 64+0:Nat):Int)+1)=((p * 64+1:Nat):Int):=by rw [aZ (by omega) (by omega)];omega
  have e2:aI (((p * 64+0:Nat):Int)+2)=((p * 64+2:Nat):Int):=by rw [aZ (by omega) (by omega)];omega
  have e3:aI (((p * 64+0:Nat):Int)+3)=((p * 64+3:Nat):Int):=by rw [aZ (by omega) (by omega)];omega
  have e8:aI (((p * 64+0:Nat):Int)+8)=((p * 64+8:Nat):Int):=by rw [aZ (by omega) (by omega)];omega
  have e64:aI (((p * 64+0:Nat):Int)+64)=((p * 64+64:Nat):Int):=by rw [aZ (by omega) (by omega)];omega
  unfold YH
  rw [aNT hs hp]
  simp only [Option.bind_some]
  by_cases hc:fQ h p < 0
  · simp only [hc,decide_true,if_true,e0]
    have key:loop (EZ h (p:Int)) (((p * 64+0:Nat)):Int)=some (if ∀x∈lG h p,x=0 then Out.brk () else Out.ret false):=by
      refine lA (f:=EZ h (p:Int)) (lG h p) (fun k=>((p * 64+k:Nat):Int)) (fun x=>x=0) _ _ (fun k hk hx=>?_) (fun k hk hx=>?_) ?_
      · simp only [EZ,e0,e64]
        rw [if_pos (by simp;omega),aT (by omega),aEY hs hp (by omega),aZ (by omega) (by omega)]
        simp only [Option.bind_some,hx];simp;omega
      · simp only [EZ,e0,e64]
        rw [if_pos (by simp;omega),aT (by omega),aEY hs hp (by omega)]
        have hx':((lG h p)[k] != 0)=true:=by simpa using hx
        simp only [Option.bind_some,hx',if_true]
      · simp only [EZ,e0,e64,hl]
        rw [if_neg (by simp)]
    rw [key]
    have hP:BK h p↔∀x∈lG h p,x=0:=by unfold BK;rw [if_pos hc]
    by_cases h4:∀x∈lG h p,x=0
    · rw [if_pos h4,decide_eq_true (hP.2 h4)];rfl
    · rw [if_neg h4,decide_eq_false (fun q=>h4 (hP.1 q))];rfl
  · have hP:BK h p↔((lG h p).getD 0 0=171∧(lG h p).getD 1 0=fQ h p∧(lG h p).getD 2 0=iV (fQ h p))∧(∀x∈((lG h p).drop 3).take 5,x=0)∧∀i,i < (iV (fQ h p)).toNat→1≤ld h.Bytes (p * 64+8+i * (cK (fQ h p)).toNat) 4∧ld h.Bytes (p * 64+8+i * (cK (fQ h p)).toNat) 4≤7:=by unfold BK;rw [if_neg hc]
    simp only [hc,decide_false,Bool.false_eq_true,if_false,e0,e1,e2,aPX hs hp (show 0 < 64 by omega),aPX hs hp (show 1 < 64 by omega),aPX hs hp (show 2 < 64 by omega),Option.bind_some,tJ]
    by_cases a0:(lG h p).getD 0 0=171
    · by_cases a1:(lG h p).getD 1 0=fQ h p
      · by_cases a2:(lG h p).getD 2 0=iV (fQ h p)
        · have n0:((lG h p).getD 0 0 != 171)=false:=by simp only [bne_eq_false_iff_eq];exact a0
          have n1:((lG h p).getD 1 0 != fQ h p)=false:=by simp only [bne_eq_false_iff_eq];exact a1
          have n2:((lG h p).getD 2 0 != iV (fQ h p))=false:=by simp only [bne_eq_false_iff_eq];exact a2
          simp only [n0,n1,n2,Bool.false_eq_true,if_false,xK,e0,e3]
          have hl5:(((lG h p).drop 3).take 5).length=5:=by simp [hl]
          have key:loop (E1 h (p:Int)) (((p * 64+3:Nat)):Int)=some (if ∀x∈((lG h p).drop 3).take 5,x=0 then Out.brk () else Out.ret false):=by
            refine lA (f:=E1 h (p:Int)) (((lG h p).drop 3).take 5) (fun k=>((p * 64+(3+k):Nat):Int)) (fun x=>x=0) _ _ (fun k hk hx=>?_) (fun k hk hx=>?_) ?_
            · simp only [E1,e0,e8]
              rw [if_pos (by simp;omega),aT (by omega),aEY hs hp (by omega),aZ (by omega) (by omega),←aPW hk (by omega),hx]
              simp;omega
            · simp only [E1,e0,e8]
              rw [if_pos (by simp;omega),aT (by omega),aEY hs hp (by omega),←aPW hk (by omega)]
              have hx':((((lG h p).drop 3).take 5)[k] != 0)=true:=by simp only [bne_iff_ne];exact hx
              simp only [Option.bind_some,hx',if_true]
            · simp only [E1,e0,e8,hl5]
              rw [if_neg (by simp)]
          rw [key]
          by_cases h4:∀x∈((lG h p).drop 3).take 5,x=0
          · rw [if_pos h4]
            simp only [Option.bind_some,aD7,aD6]
            have key2:loop (E0 h (p:Int) (fQ h p)) 0=some (if ∀i,i < (iV (fQ h p)).toNat→1≤ld h.Bytes (p * 64+8+i * (cK (fQ h p)).toNat) 4∧ld h.Bytes (p * 64+8+i * (cK (fQ h p)).toNat) 4≤7 then Out.brk () else Out.ret false):=by
              have hle:=DI (fQ h p)
              have hst:∀k:Nat,k < (iV (fQ h p)).toNat→E0 h (p:Int) (fQ h p) (k:Int)=if 1≤ld h.Bytes (p * 64+8+k * (cK (fQ h p)).toNat) 4∧ld h.Bytes (p * 64+8+k * (cK (fQ h p)).toNat) 4≤7 then some (.next ((k+1:Nat):Int)) else some (.stop (Out.ret false)):=by
                intro k hk
                have hz:=K9 hs hp rfl hk
                have s1:GB (p:Int) (k:Int)=some ((p:Int) * 4+k):=by
                  unfold GB JG
                  rw [fP,fP]
                  have g1:(0:Int)≤p∧(p:Int)≤5:=by omega
                  have g2:(0:Int)≤k∧(k:Int)≤3:=by omega
                  simp only [Option.bind_some,g1,g2,and_self,decide_true,Bool.not_true,Bool.false_eq_true,if_false]
                  rw [aZ (x:=(p:Int) * 4) (by omega) (by omega),aZ (by omega) (by omega)]
                have l1:=WU hs.2.2.1 (a:=p * 64+(8+k * (cK (fQ h p)).toNat)) (w:=4) (by omega) (by omega) (by omega)
                simp only [E0,tJ,Option.bind_some]
                rw [if_pos (by simp;omega),s1]
                simp only [Option.bind_some,MN,a17 hs hp hk]
                rw [show((4:Nat):Int)=4 from rfl] at l1
                rw [l1,Nat.add_assoc,aZ (x:=(k:Int)+1) (by omega) (by omega)]
                simp only [Option.bind_some,fP]
                by_cases q:1≤ld h.Bytes (p * 64+(8+k * (cK (fQ h p)).toNat)) 4∧ld h.Bytes (p * 64+(8+k * (cK (fQ h p)).toNat)) 4≤7
                · rw [if_pos q,decide_eq_true q];rfl
                · rw [if_neg q,decide_eq_false q];rfl
              refine BI (f:=E0 h (p:Int) (fQ h p)) (iV (fQ h p)).toNat (fun k=>(k:Int)) (fun i=>1≤ld h.Bytes (p * 64+8+i * (cK (fQ h p)).toNat) 4∧ld h.Bytes (p * 64+8+i * (cK (fQ h p)).toNat) 4≤7) _ _ (fun k hk hx=>?_) (fun k hk hx=>?_) ?_
              · rw [hst k hk,if_pos hx]
              · rw [hst k hk,if_neg hx]
              · simp only [E0,tJ,Option.bind_some]
                rw [if_neg (by simp;omega)]
            rw [key2]
            by_cases h5:∀i,i < (iV (fQ h p)).toNat→1≤ld h.Bytes (p * 64+8+i * (cK (fQ h p)).toNat) 4∧ld h.Bytes (p * 64+8+i * (cK (fQ h p)).toNat) 4≤7
            · rw [if_pos h5,decide_eq_true (hP.2 ⟨⟨a0,a1,a2⟩,h4,h5⟩)];rfl
            · rw [if_neg h5,decide_eq_false (fun q=>h5 (hP.1 q).2.2)];rfl
          · rw [if_neg h4,decide_eq_false (fun q=>h4 (hP.1 q).2.1)];rfl
        · have n0:((lG h p).getD 0 0 != 171)=false:=by simp only [bne_eq_false_iff_eq];exact a0
          have n1:((lG h p).getD 1 0 != fQ h p)=false:=by simp only [bne_eq_false_iff_eq];exact a1
          have n2:((lG h p).getD 2 0 != iV (fQ h p))=true:=by simp only [bne_iff_ne];exact a2
          simp only [n0,n1,n2,Bool.false_eq_true,if_false,xK,if_true]
          rw [decide_eq_false (fun q=>a2 (hP.1 q).1.2.2)]
      · have n0:((lG h p).getD 0 0 != 171)=false:=by simp only [bne_eq_false_iff_eq];exact a0
        have n1:((lG h p).getD 1 0 != fQ h p)=true:=by simp only [bne_iff_ne];exact a1
        simp only [n0,n1,Bool.false_eq_true,if_false,xK,if_true]
        rw [decide_eq_false (fun q=>a1 (hP.1 q).1.2.1)]
    · have n0:((lG h p).getD 0 0 != 171)=true:=by simp only [bne_iff_ne];exact a0
      simp only [n0,Bool.false_eq_true,if_false,xK,if_true]
      rw [decide_eq_false (fun q=>a0 (hP.1 q).1.1)]
end
end Go.Gv
end
noncomputable section
set_option linter.unusedVariables false
set_option linter.unusedSimpArgs false
set_option linter.unusedSectionVars false
namespace Go.Gv
theorem aE0{l:List Int}(hl:l.length≤maxLen):TQ l=some (decide (∀x∈l,x=0)):=by
  unfold TQ
  have e:(fun y0=>S1 y0)=fun y:Int=>some (!decide (y=0)):=by
    funext y;simp [S1,bne];rfl
  rw [e,DK hl,uI]
  simp
noncomputable section
variable {h:aC} (hs:oH h) {p:Nat} (hp:p < 6)
include hs hp
theorem a46:(h.Bytes.take ((p+1) * 64)).drop (p * 64)=lG h p:=by
  unfold lG
  rw [List.drop_take];congr 1;omega
theorem a4C{a:Nat}(ha:a+4≤64):ld (lG h p) a 4=ld h.Bytes (p * 64+a) 4:=by
  unfold ld lG
  rw [List.drop_take,List.take_take,List.drop_drop]
  congr 2;omega
theorem aWU{k:Nat}(hk:k < 64):idx (lG h p) (k:Int)=some ((lG h p).getD k 0):=by
  have:=WV hs hp
  rw [aT (by omega),List.getD_eq_getElem?_getD,List.getElem?_eq_getElem (by omega)];rfl
theorem aE1:YT h (p:Int)=some (decide (BK h p)):=by
  have hb:=hs.1
  have hl:=WV hs hp
  have hm:(lG h p).length≤maxLen:=by rw [hl];simp [maxLen]
  have e0:aI ((p:Int) * 64)=((p * 64:Nat):Int):=by rw [aZ (by omega) (by omega)];omega
  have e1:aI (aI ((p:Int)+1) * 64)=(((p+1) * 64:Nat):Int):=by rw [aZ (x:=(p:Int)+1) (by omega) (by omega),aZ (by omega) (by omega)];omega
  have i0:=aWU hs hp (show 0 < 64 by omega)
  have i1:=aWU hs hp (show 1 < 64 by omega)
  have i2:=aWU hs hp (show 2 < 64 by omega)
  rw [show((0:Nat):Int)=0 from rfl] at i0
  rw [show((1:Nat):Int)=1 from rfl] at i1
  rw [show((2:Nat):Int)=2 from rfl] at i2
  unfold YT
  rw [aNT hs hp]
  simp only [Option.bind_some,e0,e1,Int.toNat_natCast,a46 hs hp]
  rw [aO (by omega)]
  by_cases hc:fQ h p < 0
  · have hP:BK h p↔∀x∈lG h p,x=0:=by unfold BK;rw [if_pos hc]
    simp only [hc,decide_true,if_true,aE0 hm,Option.bind_some,hP]
  · have hP:BK h p↔((lG h p).getD 0 0=171∧(lG h p).getD 1 0=fQ h p∧(lG h p).getD 2 0=iV (fQ h p))∧(∀x∈((lG h p).drop 3).take 5,x=0)∧∀i,i < (iV (fQ h p)).toNat→1≤ld h.Bytes (p * 64+8+i * (cK (fQ h p)).toNat) 4∧ld h.Bytes (p * 64+8+i * (cK (fQ h p)).toNat) 4≤7:=by unfold BK;rw [if_neg hc]
    simp only [hc,decide_false,Bool.false_eq_true,if_false,i0,i1,i2,Option.bind_some,NN]
    by_cases a0:(lG h p).getD 0 0=171
    · by_cases a1:(lG h p).getD 1 0=fQ h p
      · by_cases a2:(lG h p).getD 2 0=iV (fQ h p)
        · have n0:((lG h p).getD 0 0 != 171)=false:=by simp only [bne_eq_false_iff_eq];exact a0
          have n1:((lG h p).getD 1 0 != fQ h p)=false:=by simp only [bne_eq_false_iff_eq];exact a1
          have n2:((lG h p).getD 2 0 != iV (fQ h p))=false:=by simp only [bne_eq_false_iff_eq];exact a2
          have t8:((lG h p).take (8:Int).toNat).drop (3:Int).toNat=((lG h p).drop 3).take 5:=by
            rw [show(8:Int).toNat=8 from rfl,show(3:Int).toNat=3 from rfl,List.drop_take]
          simp only [n0,n1,n2,Bool.false_eq_true,if_false,uO,t8]
          rw [aO (by omega),aE0 (by simp [maxLen];omega)]
          by_cases h4:∀x∈((lG h p).drop 3).take 5,x=0
          · simp only [decide_eq_true h4,Option.bind_some,Bool.not_true,Bool.false_eq_true,if_false,NN]
            have key2:loop (E8 h (p:Int) (fQ h p) (iV (fQ h p))) 0=some (if ∀i,i < (iV (fQ h p)).toNat→1≤ld h.Bytes (p * 64+8+i * (cK (fQ h p)).toNat) 4∧ld h.Bytes (p * 64+8+i * (cK (fQ h p)).toNat) 4≤7 then Out.brk () else Out.ret false):=by
              have hle:=DI (fQ h p)
              have hst:∀k:Nat,k < (iV (fQ h p)).toNat→E8 h (p:Int) (fQ h p) (iV (fQ h p)) (k:Int)=if 1≤ld h.Bytes (p * 64+8+k * (cK (fQ h p)).toNat) 4∧ld h.Bytes (p * 64+8+k * (cK (fQ h p)).toNat) 4≤7 then some (.next ((k+1:Nat):Int)) else some (.stop (Out.ret false)):=by
                intro k hk
                have hz:=K9 hs hp rfl hk
                have e5:aI (8+aI ((k:Int) * cK (fQ h p)))=((8+k * (cK (fQ h p)).toNat:Nat):Int):=by
                  rw [aZ (x:=(k:Int) * cK (fQ h p)) (by omega) (by omega),aZ (by omega) (by omega)];omega
                have l1:=NO (aY0 hs hp) (a:=8+k * (cK (fQ h p)).toNat) (w:=4) (by omega) (by omega) (by omega)
                rw [show((4:Nat):Int)=4 from rfl,a4C hs hp (by omega)] at l1
                simp only [E8,aAT,Option.bind_some,e0,e1,Int.toNat_natCast,a46 hs hp,e5]
                rw [if_pos (by simp;omega),l1,Nat.add_assoc,aZ (x:=(k:Int)+1) (by omega) (by omega)]
                simp only [Option.bind_some,kD]
                by_cases q:1≤ld h.Bytes (p * 64+(8+k * (cK (fQ h p)).toNat)) 4∧ld h.Bytes (p * 64+(8+k * (cK (fQ h p)).toNat)) 4≤7
                · rw [if_pos q,decide_eq_true q];rfl
                · rw [if_neg q,decide_eq_false q];rfl
              refine BI (f:=E8 h (p:Int) (fQ h p) (iV (fQ h p))) (iV (fQ h p)).toNat (fun k=>(k:Int)) (fun i=>1≤ld h.Bytes (p * 64+8+i * (cK (fQ h p)).toNat) 4∧ld h.Bytes (p * 64+8+i * (cK (fQ h p)).toNat) 4≤7) _ _ (fun k hk hx=>?_) (fun k hk hx=>?_) ?_
              · rw [hst k hk,if_pos hx]
              · rw [hst k hk,if_neg hx]
              · simp only [E8]
                rw [if_neg (by simp;omega)]
            rw [key2]
            by_cases h5:∀i,i < (iV (fQ h p)).toNat→1≤ld h.Bytes (p * 64+8+i * (cK (fQ h p)).toNat) 4∧ld h.Bytes (p * 64+8+i * (cK (fQ h p)).toNat) 4≤7
            · rw [if_pos h5,decide_eq_true (hP.2 ⟨⟨a0,a1,a2⟩,h4,h5⟩)];rfl
            · rw [if_neg h5,decide_eq_false (fun q=>h5 (hP.1 q).2.2)];rfl
          · simp only [decide_eq_false h4,Option.bind_some,Bool.not_false,if_true]
            rw [decide_eq_false (fun q=>h4 (hP.1 q).2.1)]
        · have n0:((lG h p).getD 0 0 != 171)=false:=by simp only [bne_eq_false_iff_eq];exact a0
          have n1:((lG h p).getD 1 0 != fQ h p)=false:=by simp only [bne_eq_false_iff_eq];exact a1
          have n2:((lG h p).getD 2 0 != iV (fQ h p))=true:=by simp only [bne_iff_ne];exact a2
          simp only [n0,n1,n2,Bool.false_eq_true,if_false,uO,if_true]
          rw [decide_eq_false (fun q=>a2 (hP.1 q).1.2.2)]
      · have n0:((lG h p).getD 0 0 != 171)=false:=by simp only [bne_eq_false_iff_eq];exact a0
        have n1:((lG h p).getD 1 0 != fQ h p)=true:=by simp only [bne_iff_ne];exact a1
        simp only [n0,n1,Bool.false_eq_true,if_false,uO,if_true]
        rw [decide_eq_false (fun q=>a1 (hP.1 q).1.2.1)]
    · have n0:((lG h p).getD 0 0 != 171)=true:=by simp only [bne_iff_ne];exact a0
      simp only [n0,Bool.false_eq_true,if_false,uO,if_true]
      rw [decide_eq_false (fun q=>a0 (hP.1 q).1.1)]
end
instance (h:aC):Decidable (∀p,p < 6→BK h p):=Nat.decidableBallLT 6 fun p _=>BK h p
def HOk(h:aC):Prop:=oH h∧∀p,p < 6→BK h p
instance (h:aC):Decidable (HOk h):=by unfold HOk;infer_instance
theorem aPY{h:aC}(hl:h.Bytes.length≤maxLen):YI h=some (decide (HOk h)):=by
  unfold YI
  rw [aM7 hl]
  by_cases hs:oH h
  · have key:loop (JH h) 0=some (if ∀p,p < 6→BK h p then Out.brk () else Out.ret false):=by
      refine BI (f:=JH h) 6 (fun k=>(k:Int)) (fun p=>BK h p) _ _ (fun k hk hx=>?_) (fun k hk hx=>?_) ?_
      · simp only [JH]
        rw [if_pos (by simp;omega),aEZ hs hk,aZ (by omega) (by omega),decide_eq_true hx];rfl
      · simp only [JH]
        rw [if_pos (by simp;omega),aEZ hs hk,decide_eq_false hx];rfl
      · rfl
    simp only [Option.bind_some,decide_eq_true hs,Bool.not_true,Bool.false_eq_true,if_false]
    rw [key]
    by_cases h4:∀p,p < 6→BK h p
    · rw [if_pos h4,decide_eq_true (show HOk h from ⟨hs,h4⟩)];rfl
    · rw [if_neg h4,decide_eq_false (fun q:HOk h=>h4 q.2)];rfl
  · rw [decide_eq_false (fun q:HOk h=>hs q.1),decide_eq_false hs];rfl
theorem WW{h:aC}(hl:h.Bytes.length≤maxLen):TR h=some (decide (HOk h)):=by
  unfold TR
  rw [QO hl]
  by_cases hs:oH h
  · have key:loop (JL h) 0=some (if ∀p,p < 6→BK h p then Out.brk () else Out.ret false):=by
      refine BI (f:=JL h) 6 (fun k=>(k:Int)) (fun p=>BK h p) _ _ (fun k hk hx=>?_) (fun k hk hx=>?_) ?_
      · simp only [JL]
        rw [if_pos (by simp;omega),aE1 hs hk,aZ (by omega) (by omega),decide_eq_true hx];rfl
      · simp only [JL]
        rw [if_pos (by simp;omega),aE1 hs hk,decide_eq_false hx];rfl
      · rfl
    simp only [Option.bind_some,decide_eq_true hs,Bool.not_true,Bool.false_eq_true,if_false]
    rw [key]
    by_cases h4:∀p,p < 6→BK h p
    · rw [if_pos h4,decide_eq_true (show HOk h from ⟨hs,h4⟩)];rfl
    · rw [if_neg h4,decide_eq_false (fun q:HOk h=>h4 q.2)];rfl
  · rw [decide_eq_false (fun q:HOk h=>hs q.1),decide_eq_false hs];rfl
def eU(h:aC)(s:Int):Int:=if (0≤s∧s≤23)∧s % 4 < iV (fQ h (s / 4).toNat) then fQ h (s / 4).toNat else -1
theorem VV{h:aC}{s:Int}(hc:0≤eU h s):(0≤s∧s≤23)∧s % 4 < iV (fQ h (s / 4).toNat)∧eU h s=fQ h (s / 4).toNat:=by
  unfold eU at hc ⊢
  split at hc
  · rename_i h1;exact⟨h1.1,h1.2,by rw [if_pos h1]⟩
  · omega
theorem C2{h:aC}(hs:oH h)(s:Int):zY h s=some (eU h s):=by
  unfold zY HO eU
  rw [aEX,aDF]
  by_cases h1:0≤s∧s≤23
  · obtain⟨k,rfl⟩:=Int.eq_ofNat_of_zero_le h1.1
    have hk:k / 4 < 6:=by omega
    have e1:((k:Int) / 4)=((k / 4:Nat):Int):=by omega
    have hi:=aNT hs hk
    have n1:¬((k / 4:Nat):Int) < 0:=by omega
    simp only [h1,and_self,if_true,Option.bind_some,e1,n1,decide_false,Bool.false_eq_true,if_false,hi,Int.toNat_natCast,true_and]
    by_cases h2:fQ h (k / 4) < 0
    · have h3:iV (fQ h (k / 4))=0:=aTV (by omega)
      have h4:¬(k:Int) % 4 < 0:=by omega
      simp [h2,h3,h4]
    · by_cases h3:(k:Int) % 4 < iV (fQ h (k / 4))
      · have h4:¬iV (fQ h (k / 4))≤(k:Int) % 4:=by omega
        simp [h2,h3,h4,tJ]
      · have h4:iV (fQ h (k / 4))≤(k:Int) % 4:=by omega
        simp [h2,h3,h4,tJ]
  · simp [h1]
theorem y8{h:aC}(hs:oH h)(s:Int):DA h s=some (eU h s):=by
  unfold DA NB eU
  rw [J1]
  by_cases h1:0≤s∧s≤23
  · obtain⟨k,rfl⟩:=Int.eq_ofNat_of_zero_le h1.1
    have hk:k / 4 < 6:=by omega
    have e1:((k:Int) / 4)=((k / 4:Nat):Int):=by omega
    have hi:=aNT hs hk
    have e2:aI (Int.tdiv (k:Int) 4)=((k / 4:Nat):Int):=by rw [TY (by omega),aZ (by omega) (by omega)];omega
    simp only [h1,and_self,decide_true,Bool.not_true,Bool.false_eq_true,if_true,Option.bind_some,e1,e2,if_false,hi,Int.toNat_natCast,true_and,MO]
    by_cases h3:(k:Int) % 4 < iV (fQ h (k / 4))
    · have hm:=WT (c:=fQ h (k / 4)) (by omega) h3
      have hg:¬sI (k:Int) (fQ h (k / 4)) < 0:=by
        unfold sI;rw [if_pos ⟨h1,h3⟩];omega
      simp [h3,hg]
    · have hg:sI (k:Int) (fQ h (k / 4)) < 0:=by
        unfold sI;rw [if_neg (fun q=>h3 q.2)];omega
      simp [h3,hg]
  · simp [h1]
def ED(h:aC)(s:Int):Int:=ld h.Bytes (sI s (eU h s)).toNat 4
theorem aB5{h:aC}{s:Int}(hc:0≤eU h s):0≤sI s (eU h s)∧sI s (eU h s)+4≤384:=by
  obtain⟨h1,h2,h3⟩:=VV hc
  rw [h3]
  have hm:=WT (c:=fQ h (s / 4).toNat) (by omega) h2
  have hst:0 < cK (fQ h (s / 4).toNat):=by
    have:0≤fQ h (s / 4).toNat∧fQ h (s / 4).toNat≤2:=DJ.1 (by omega)
    rcases sS this with e | e | e <;> rw [e] <;> decide
  have:4≤cK (fQ h (s / 4).toNat):=by
    have:0≤fQ h (s / 4).toNat∧fQ h (s / 4).toNat≤2:=DJ.1 (by omega)
    rcases sS this with e | e | e <;> rw [e] <;> decide
  unfold sI;rw [if_pos ⟨h1,h2⟩];omega
theorem MP{h:aC}(hs:oH h){s:Int}(hc:0≤eU h s):JI h s=some (ED h s):=by
  have hg:=aB5 hc
  unfold JI
  rw [C2 hs]
  simp only [Option.bind_some,MN]
  have l1:=WU hs.2.2.1 (a:=(sI s (eU h s)).toNat) (w:=4) (by omega) (by have:=hs.1;omega) (by have:=hs.1;omega)
  rw [show((4:Nat):Int)=4 from rfl,Int.toNat_of_nonneg hg.1] at l1
  rw [l1];rfl
theorem TC{h:aC}(hs:oH h){s:Int}(hc:0≤eU h s):NZ h s=some (ED h s):=by
  have hg:=aB5 hc
  have hm:h.Bytes.length≤maxLen:=by rw [hs.1];simp [maxLen]
  unfold NZ GM
  rw [QO hm,y8 hs]
  have l1:=NO hs.2.2.1 (a:=(sI s (eU h s)).toNat) (w:=4) (by omega) (by have:=hs.1;omega) (by have:=hs.1;omega)
  rw [show((4:Nat):Int)=4 from rfl,Int.toNat_of_nonneg hg.1] at l1
  have n1:¬eU h s < 0:=by omega
  simp [hs,n1,MO,l1,ED]
end Go.Gv
end
noncomputable section
set_option linter.unusedVariables false
set_option linter.unusedSimpArgs false
set_option linter.unusedSectionVars false
namespace Go.Gv
def jH(l:List aG):List Int:=l.flatMap aG.bB
def jW(l:aB):List Int:=jH l.Global++jH l.bA
def LOk(l:aB):Prop:=l.Global.length=3∧l.bA.length=9∧(∀s∈l.bA,s.bB.length≤2)∧(∀x∈jW l,0≤x∧x≤23)∧(jW l).Nodup
instance (l:aB):Decidable (LOk l):=by unfold LOk;infer_instance
theorem aAU{l:List aG}{k:Nat}(h:k < l.length):jH (l.take (k+1))=jH (l.take k)++l[k].bB:=by
  unfold jH
  rw [List.take_succ_eq_append_getElem h,List.flatMap_append];simp
theorem aTX(l:List aG)(k:Nat):(jH (l.take k)).length≤(jH l).length:=by
  have:jH l=jH (l.take k)++jH (l.drop k):=by
    unfold jH;rw [←List.flatMap_append,List.take_append_drop]
  rw [this];simp
theorem aE2(l:List aG){k:Nat}(h:k < l.length):l[k].bB.length≤(jH l).length:=by
  have h1:=aTX l (k+1)
  rw [aAU h] at h1
  simp at h1;omega
theorem aG5{l:aB}(h:(jW l).length≤1073741824)(hg:l.Global.length≤maxLen)(ho:l.bA.length≤maxLen):WC l=some (jW l):=by
  have hsum:(jH l.Global).length+(jH l.bA).length≤1073741824:=by simpa [jW] using h
  unfold WC
  have k1:loop (LY l) ([],0)=some (jH l.Global):=by
    refine fI (f:=LY l) l.Global.length (fun k=>(jH (l.Global.take k),(k:Int))) _ (fun k hk=>?_) ?_
    · have h1:=aTX l.Global (k+1)
      rw [aAU hk] at h1
      simp only [LY]
      rw [if_pos (by simp;omega),aT hk]
      simp only [Option.bind_some]
      rw [aO (by simp at h1;omega),aAU hk,bV (cG hk hg)]
    · simp [LY]
  rw [k1]
  simp only [Option.bind_some,aGK,aGJ]
  have k2:loop (LX l) (jH l.Global,0)=some (jW l):=by
    have:=fI (f:=LX l) l.bA.length (fun k=>(jH l.Global++jH (l.bA.take k),(k:Int))) (jW l) (fun k hk=>?_) ?_
    · simpa [jH] using this
    · have h1:=aTX l.bA (k+1)
      rw [aAU hk] at h1
      simp only [LX]
      rw [if_pos (by simp;omega),aT hk]
      simp only [Option.bind_some]
      rw [aO (by simp at h1 ⊢;omega),aAU hk,bV (cG hk ho),List.append_assoc]
    · simp [LX,jW]
  rw [k2];rfl
theorem D1{l:List Int}(hl:l.length≤maxLen)(x:Int):DQ l x=some (decide (x∈l)):=by
  unfold DQ
  have key:loop (IL l x) 0=some (if ∀y∈l,y≠x then Out.brk () else Out.ret true):=by
    refine lA (f:=IL l x) l (fun k=>(k:Int)) (fun y=>y≠x) _ _ (fun k h hp=>?_) (fun k h hp=>?_) ?_
    · simp only [IL]
      rw [if_pos (by simp;omega),aT h,bV (cG h hl)]
      have:(l[k] == x)=false:=by simpa using hp
      simp only [Option.bind_some,this,Bool.false_eq_true,if_false]
    · simp only [IL]
      rw [if_pos (by simp;omega),aT h]
      have:(l[k] == x)=true:=by simpa using hp
      simp only [Option.bind_some,this,if_true]
    · simp [IL]
  rw [key]
  by_cases h:x∈l
  · rw [if_neg (fun q=>q x h rfl),decide_eq_true h];rfl
  · rw [if_pos (fun y hy (e:y=x)=>h (e ▸ hy)),decide_eq_false h];rfl
theorem y9(l:List Int):l.Nodup↔∀k (h:k < l.length),l[k]∉l.take k:=by
  unfold List.Nodup
  rw [List.pairwise_iff_getElem]
  constructor
  · intro h k hk hm
    obtain⟨i,hi,he⟩:=List.mem_take_iff_getElem.1 hm
    exact h i k (by omega) hk (by omega) he
  · intro h i j hi hj hij he
    exact h j hj (List.mem_take_iff_getElem.2 ⟨i,by omega,he⟩)
theorem aM8{l:aB}(h:(jW l).length≤1073741824):U4 l=some (decide (LOk l)):=by
  unfold U4 M4
  by_cases hg:l.Global.length=3
  · by_cases ho:l.bA.length=9
    · have n1:((l.Global.length:Int) != 3)=false:=by simp;omega
      have n2:((l.bA.length:Int) != 9)=false:=by simp;omega
      simp only [n1,n2,Bool.false_eq_true,if_false]
      have k1:loop (CL l) 0=some (if ∀s∈l.bA,s.bB.length≤2 then Out.brk () else Out.ret false):=by
        refine lA (f:=CL l) l.bA (fun k=>(k:Int)) (fun s=>s.bB.length≤2) _ _ (fun k hk hp=>?_) (fun k hk hp=>?_) ?_
        · simp only [CL]
          rw [if_pos (by simp;omega),aT hk,aZ (by omega) (by omega)]
          simp only [Option.bind_some]
          rw [if_neg (by simp;omega)];rfl
        · simp only [CL]
          rw [if_pos (by simp;omega),aT hk]
          simp only [Option.bind_some]
          rw [if_pos (by simp;omega)]
        · simp [CL]
      rw [k1]
      by_cases h2:∀s∈l.bA,s.bB.length≤2
      · rw [if_pos h2]
        simp only [Option.bind_some,aC0,aCZ]
        rw [aG5 h (by rw [hg];simp [maxLen]) (by rw [ho];simp [maxLen])]
        simp only [Option.bind_some]
        have k2:loop (CK (jW l)) 0=some (if ∀k,k < (jW l).length→(0≤(jW l).getD k 0∧(jW l).getD k 0≤23)∧(jW l).getD k 0∉(jW l).take k then Out.brk () else Out.ret false):=by
          have hst:∀k,k < (jW l).length→CK (jW l) (k:Int)=if (0≤(jW l).getD k 0∧(jW l).getD k 0≤23)∧(jW l).getD k 0∉(jW l).take k then some (.next ((k+1:Nat):Int)) else some (.stop (Out.ret false)):=by
            intro k hk
            have e:(jW l).getD k 0=(jW l)[k]:=by rw [List.getD_eq_getElem?_getD,List.getElem?_eq_getElem hk];rfl
            rw [e]
            simp only [CK]
            rw [if_pos (by simp;omega),aT hk]
            simp only [Option.bind_some,fP,M3]
            by_cases q:0≤(jW l)[k]∧(jW l)[k]≤23
            · rw [decide_eq_true q]
              simp only [Bool.not_true,Bool.false_eq_true,if_false,Int.toNat_natCast,List.drop_zero]
              rw [aO (by omega),D1 (by simp [maxLen];omega),aZ (by omega) (by omega)]
              by_cases q2:(jW l)[k]∈(jW l).take k
              · rw [if_neg (fun x=>x.2 q2),decide_eq_true q2];rfl
              · rw [if_pos ⟨q,q2⟩,decide_eq_false q2];rfl
            · rw [decide_eq_false q];simp only [Bool.not_false,if_true];rw [if_neg (fun x=>q x.1)]
          refine BI (f:=CK (jW l)) (jW l).length (fun k=>(k:Int)) (fun k=>(0≤(jW l).getD k 0∧(jW l).getD k 0≤23)∧(jW l).getD k 0∉(jW l).take k) _ _ (fun k hk hx=>?_) (fun k hk hx=>?_) ?_
          · rw [hst k hk,if_pos hx]
          · rw [hst k hk,if_neg hx]
          · simp [CK]
        rw [k2]
        have hiff:LOk l↔∀k,k < (jW l).length→(0≤(jW l).getD k 0∧(jW l).getD k 0≤23)∧(jW l).getD k 0∉(jW l).take k:=by
          have e:∀k (hk:k < (jW l).length),(jW l).getD k 0=(jW l)[k]:=fun k hk=>by rw [List.getD_eq_getElem?_getD,List.getElem?_eq_getElem hk];rfl
          constructor
          · rintro⟨_,_,_,q1,q2⟩ k hk
            rw [e k hk]
            exact⟨q1 _ (List.getElem_mem hk),(y9 _).1 q2 k hk⟩
          · intro q
            refine⟨hg,ho,h2,fun x hx=>?_,(y9 _).2 fun k hk=>?_⟩
            · obtain⟨k,hk,rfl⟩:=List.mem_iff_getElem.1 hx
              have:=(q k hk).1;rw [e k hk] at this;exact this
            · have:=(q k hk).2;rw [e k hk] at this;exact this
        by_cases q:LOk l
        · rw [if_pos (hiff.1 q),decide_eq_true q];rfl
        · rw [if_neg (fun x=>q (hiff.2 x)),decide_eq_false q];rfl
      · rw [if_neg h2,decide_eq_false (fun q:LOk l=>h2 q.2.2.1)];rfl
    · have n1:((l.Global.length:Int) != 3)=false:=by simp;omega
      have n2:((l.bA.length:Int) != 9)=true:=by simp;omega
      simp only [n1,n2,Bool.false_eq_true,if_false,if_true]
      rw [decide_eq_false (fun q:LOk l=>ho q.2.1)]
  · have n1:((l.Global.length:Int) != 3)=true:=by simp;omega
    simp only [n1,if_true]
    rw [decide_eq_false (fun q:LOk l=>hg q.1)]
def MQ:List Bool→List Int→Option (List Bool)
  | met,[]=>some met
  | met,x :: r=>if (0≤x∧x≤23)∧met.getD x.toNat true=false then MQ (met.set x.toNat true) r else none
theorem aSK:∀{xs:List Int} {met m:List Bool},MQ met xs=some m→m.length=met.length
  | [],met,m,h=>by simp [MQ] at h;rw [h]
  | x :: r, met, m, h => by
    simp only [MQ] at h
    split at h
    · have:=aSK h;simpa using this
    · cases h
theorem aJL:∀(a b:List Int) (met:List Bool),MQ met (a++b)=(MQ met a).bind fun m=>MQ m b
  | [],b,met=>rfl
  | x :: r, b, met => by
    simp only [List.cons_append,MQ]
    split
    · exact aJL r b _
    · rfl
theorem aH3:∀(xs:List Int) (met:List Bool),met.length=24→((MQ met xs).isSome=true↔(∀x∈xs,0≤x∧x≤23)∧xs.Nodup∧∀x∈xs,met.getD x.toNat true=false)
  | [],met,hm=>by simp [MQ]
  | x :: r, met, hm => by
    simp only [MQ]
    by_cases h:(0≤x∧x≤23)∧met.getD x.toNat true=false
    · rw [if_pos h,aH3 r _ (by simpa using hm)]
      have hset:∀y,0≤y∧y≤23→(((met.set x.toNat true).getD y.toNat true=false)↔(y≠x∧met.getD y.toNat true=false)):=by
        intro y hy
        rw [List.getD_eq_getElem?_getD,List.getD_eq_getElem?_getD]
        by_cases e:y=x
        · subst e;rw [List.getElem?_set_self (by omega)];simp
        · rw [List.getElem?_set_ne (by omega)];simp [e]
      constructor
      · rintro⟨q1,q2,q3⟩
        refine⟨fun y hy=>?_,List.nodup_cons.2 ⟨fun hx=>?_,q2⟩,fun y hy=>?_⟩
        · rcases List.mem_cons.1 hy with rfl | hy
          · exact h.1
          · exact q1 y hy
        · exact((hset x h.1).1 (q3 x hx)).1 rfl
        · rcases List.mem_cons.1 hy with rfl | hy
          · exact h.2
          · exact((hset y (q1 y hy)).1 (q3 y hy)).2
      · rintro⟨q1,q2,q3⟩
        have q2:=List.nodup_cons.1 q2
        refine⟨fun y hy=>q1 y (List.mem_cons_of_mem _ hy),q2.2,fun y hy=>(hset y (q1 y (List.mem_cons_of_mem _ hy))).2 ⟨fun e=>q2.1 (e ▸ hy),q3 y (List.mem_cons_of_mem _ hy)⟩⟩
    · rw [if_neg h]
      constructor
      · intro q;cases q
      · rintro⟨q1,q2,q3⟩
        exact(h ⟨q1 x List.mem_cons_self,q3 x List.mem_cons_self⟩).elim
def aTY:Option (List Bool)→Out (List Bool) Bool
  | some m=>.brk m
  | none=>.ret false
theorem a7Z{s:aG}(hl:s.bB.length≤maxLen):∀d k (met:List Bool),k+d=s.bB.length→met.length=24→loop (yW s) ((k:Int),met)=some (aTY (MQ met (s.bB.drop k))):=by
  intro d
  induction d with
  | zero =>
    intro k met hk hm
    rw [cX (r:=Out.brk met) (by simp [yW];omega),List.drop_eq_nil_of_le (by omega)];rfl
  | succ d ih =>
    intro k met hk hm
    have hk':k < s.bB.length:=by omega
    have hd:s.bB.drop k=s.bB[k] :: s.bB.drop (k+1):=List.drop_eq_getElem_cons hk'
    have hst:yW s ((k:Int),met)=if (0≤s.bB[k]∧s.bB[k]≤23)∧met.getD s.bB[k].toNat true=false then some (.next (((k+1:Nat):Int),met.set s.bB[k].toNat true)) else some (.stop (Out.ret false)):=by
      simp only [yW]
      rw [if_pos (by simp;omega),aT hk']
      simp only [Option.bind_some,J1]
      generalize s.bB[k]=x
      by_cases q:0≤x∧x≤23
      · obtain⟨j,rfl⟩:=Int.eq_ofNat_of_zero_le q.1
        have hj:j < met.length:=by omega
        have e:met.getD j true=met[j]:=by rw [List.getD_eq_getElem?_getD,List.getElem?_eq_getElem hj];rfl
        simp only [q,and_self,decide_true,Bool.not_true,Bool.false_eq_true,if_false,CS,Int.toNat_natCast,true_and,e]
        rw [aO (by omega),aT hj]
        simp only [Option.bind_some]
        cases met[j]
        · simp only [Bool.false_eq_true,if_false,if_true]
          rw [aO (by omega),bV (cG hk' hl)]
        · simp
      · rw [decide_eq_false q];simp only [Bool.not_false,if_true,CS];rw [if_neg (fun x=>q x.1)]
    rw [hd,MQ]
    by_cases q:(0≤s.bB[k]∧s.bB[k]≤23)∧met.getD s.bB[k].toNat true=false
    · rw [if_pos q] at hst ⊢
      rw [cO hst,ih (k+1) _ (by omega) (by simpa using hm)]
    · rw [if_neg q] at hst ⊢
      rw [cX hst];rfl
def aLW(l:List aG):Prop:=∀s∈l,s.bB.length≤2
instance (l:List aG):Decidable (aLW l):=by unfold aLW;infer_instance
theorem a70{l:aB}(ho:l.bA.length=9)(hn:(l.bA++l.Global).length≤1000)(hs:∀s∈l.bA++l.Global,s.bB.length≤maxLen):∀d k (met:List Bool),k+d=(l.bA++l.Global).length→met.length=24 →
    loop (yY l) ((k:Int),met)=some (if aLW (((l.bA++l.Global).drop k).take (9 - k))∧(MQ met (jH ((l.bA++l.Global).drop k))).isSome=true then Out.brk () else Out.ret false):=by
  intro d
  induction d with
  | zero =>
    intro k met hk hm
    rw [List.drop_eq_nil_of_le (by omega),if_pos ⟨by simp [aLW],rfl⟩]
    refine cX ?_
    simp only [yY]
    rw [if_neg (by simp;simp at hk;omega)]
  | succ d ih =>
    intro k met hk hm
    have hk':k < (l.bA++l.Global).length:=by omega
    have hd:(l.bA++l.Global).drop k=(l.bA++l.Global)[k] :: (l.bA++l.Global).drop (k+1):=List.drop_eq_getElem_cons hk'
    have hsk:=hs _ (List.getElem_mem hk')
    have hf:jH ((l.bA++l.Global).drop k)=(l.bA++l.Global)[k].bB++jH ((l.bA++l.Global).drop (k+1)):=by unfold jH;rw [hd,List.flatMap_cons]
    have hin:∀b:Bool,yX (k:Int) met (l.bA++l.Global)[k] b=if b then some (.stop (Out.ret false)) else (match MQ met (l.bA++l.Global)[k].bB with | some m=>some (.next (((k+1:Nat):Int),m)) | none=>some (.stop (Out.ret false))):=by
      intro b
      have h4:=a7Z hsk _ 0 met (Nat.zero_add _) hm
      rw [show((0:Nat):Int)=0 from rfl,List.drop_zero] at h4
      unfold yX
      rw [h4]
      cases b
      · simp only [Bool.false_eq_true,if_false,Option.bind_some]
        cases MQ met (l.bA++l.Global)[k].bB with
        | none=>rfl
        | some m=>simp only [aTY,aC6,NA];rw [aZ (by omega) (by omega)];rfl
      · rfl
    have hst:yY l ((k:Int),met)=yX (k:Int) met (l.bA++l.Global)[k] (decide (k < 9∧2 < (l.bA++l.Global)[k].bB.length)):=by
      simp only [yY]
      rw [if_pos (by simp;simp at hk';omega),aT hk']
      simp only [Option.bind_some]
      by_cases h9:k < 9
      · rw [if_pos (by simp;omega)]
        congr 1
        rw [Bool.eq_iff_iff];simp only [decide_eq_true_eq];omega
      · rw [if_neg (by simp;omega),decide_eq_false (by omega)]
    rw [hin] at hst
    by_cases h2:k < 9∧2 < (l.bA++l.Global)[k].bB.length
    · rw [decide_eq_true h2] at hst
      simp only [if_true] at hst
      rw [cX hst,if_neg]
      rintro⟨q,_⟩
      have e:9 - k=(9 - (k+1))+1:=by omega
      rw [hd,e,List.take_succ_cons] at q
      have:=q _ List.mem_cons_self
      omega
    · rw [decide_eq_false h2] at hst
      simp only [Bool.false_eq_true,if_false] at hst
      have hcond:aLW (((l.bA++l.Global).drop k).take (9 - k))↔aLW (((l.bA++l.Global).drop (k+1)).take (9 - (k+1))):=by
        unfold aLW
        by_cases h9:k < 9
        · have e:9 - k=(9 - (k+1))+1:=by omega
          rw [hd,e,List.take_succ_cons,List.forall_mem_cons]
          exact⟨fun q=>q.2,fun q=>⟨by omega,q⟩⟩
        · have e:9 - k=0:=by omega
          have e':9 - (k+1)=0:=by omega
          rw [e,e'];simp
      rw [hf,aJL]
      cases hg:MQ met (l.bA++l.Global)[k].bB with
      | none =>
        rw [hg] at hst
        rw [cX hst,if_neg (by simp)]
      | some m =>
        rw [hg] at hst
        rw [cO hst,ih (k+1) m (by omega) (by rw [aSK hg];exact hm)]
        simp only [Option.bind_some,hcond]
theorem aDG{l:aB}(h:(jW l).length≤1073741824):w6 l=some (decide (LOk l)):=by
  unfold w6 HV
  by_cases hg:l.Global.length=3
  · by_cases ho:l.bA.length=9
    · have n1:((l.Global.length:Int) != 3)=false:=by simp;omega
      have n2:((l.bA.length:Int) != 9)=false:=by simp;omega
      simp only [n1,n2,Bool.false_eq_true,if_false]
      rw [aO (by omega)]
      have hsl:∀s∈l.bA++l.Global,s.bB.length≤maxLen:=by
        intro s hm
        have hsum:(jH l.Global).length+(jH l.bA).length≤1073741824:=by simpa [jW] using h
        have hb:(1073741824:Nat)≤maxLen:=by simp [maxLen]
        rcases List.mem_append.1 hm with hm | hm
        · obtain⟨k,hk,rfl⟩:=List.mem_iff_getElem.1 hm
          have:=aE2 l.bA hk;omega
        · obtain⟨k,hk,rfl⟩:=List.mem_iff_getElem.1 hm
          have:=aE2 l.Global hk;omega
      have key:=a70 ho (by simp;omega) hsl (l.bA++l.Global).length 0 [false,false,false,false,false,false,false,false,false,false,false,false,false,false,false,false,false,false,false,false,false,false,false,false] (by omega) rfl
      rw [show((0:Nat):Int)=0 from rfl,List.drop_zero,Nat.sub_zero] at key
      rw [key]
      have et:(l.bA++l.Global).take 9=l.bA:=by rw [←ho];simp
      have ef:jH (l.bA++l.Global)=jH l.bA++jH l.Global:=by simp [jH]
      have hm0:∀j:Nat,j < 24→[false,false,false,false,false,false,false,false,false,false,false,false,false,false,false,false,false,false,false,false,false,false,false,false].getD j true=false:=by decide
      have hiff:LOk l↔aLW ((l.bA++l.Global).take 9)∧(MQ [false,false,false,false,false,false,false,false,false,false,false,false,false,false,false,false,false,false,false,false,false,false,false,false] (jH (l.bA++l.Global))).isSome=true:=by
        rw [aH3 _ _ rfl,et,ef]
        have hp:(jH l.bA++jH l.Global).Perm (jW l):=List.perm_append_comm
        constructor
        · rintro⟨_,_,q1,q2,q3⟩
          exact⟨q1,fun x hx=>q2 x (hp.mem_iff.1 hx),hp.nodup_iff.2 q3,fun x hx=>hm0 _ (by have:=q2 x (hp.mem_iff.1 hx);omega)⟩
        · rintro⟨q1,q2,q3,_⟩
          exact⟨hg,ho,q1,fun x hx=>q2 x (hp.mem_iff.2 hx),hp.nodup_iff.1 q3⟩
      by_cases q:LOk l
      · rw [if_pos (hiff.1 q),decide_eq_true q];rfl
      · rw [if_neg (fun x=>q (hiff.2 x)),decide_eq_false q];rfl
    · have n1:((l.Global.length:Int) != 3)=false:=by simp;omega
      have n2:((l.bA.length:Int) != 9)=true:=by simp;omega
      simp only [n1,n2,Bool.false_eq_true,if_false,if_true]
      rw [decide_eq_false (fun q:LOk l=>ho q.2.1)]
  · have n1:((l.Global.length:Int) != 3)=true:=by simp;omega
    simp only [n1,if_true]
    rw [decide_eq_false (fun q:LOk l=>hg q.1)]
end Go.Gv
end
noncomputable section
set_option linter.unusedVariables false
set_option linter.unusedSimpArgs false
set_option linter.unusedSectionVars false
namespace Go.Gv
def QP(h:aC)(l:List Int)(c:Int):Prop:=∀x∈l,eU h x=c∧ED h x≤6
instance (h:aC) (l:List Int) (c:Int):Decidable (QP h l c):=by unfold QP;infer_instance
theorem aAV{h:aC}(hs:oH h){l:List Int}(hl:l.length≤maxLen){c:Int}(hc:0≤c):LZ h l c=some (decide (QP h l c)):=by
  unfold LZ
  have key:loop (AT h l c) 0=some (if ∀x∈l,eU h x=c∧ED h x≤6 then Out.brk () else Out.ret false):=by
    have hst:∀k (hk:k < l.length),AT h l c (k:Int)=if eU h l[k]=c∧ED h l[k]≤6 then some (.next ((k+1:Nat):Int)) else some (.stop (Out.ret false)):=by
      intro k hk
      simp only [AT]
      rw [if_pos (by simp;omega),aT hk]
      generalize l[k]=x
      simp only [Option.bind_some,C2 hs,KN]
      by_cases q:eU h x=c
      · have n1:(eU h x != c)=false:=by simp only [bne_eq_false_iff_eq];exact q
        simp only [n1,Bool.false_eq_true,if_false,MP hs (show 0≤eU h x by omega),Option.bind_some,bV (cG hk hl)]
        by_cases q2:ED h x≤6
        · rw [if_neg (by simp;omega),if_pos ⟨q,q2⟩]
        · rw [if_pos (by simp;omega),if_neg (fun x=>q2 x.2)]
      · have n1:(eU h x != c)=true:=by simp only [bne_iff_ne];exact q
        simp only [n1,if_true]
        rw [if_neg (fun x=>q x.1)]
    refine lA (f:=AT h l c) l (fun k=>(k:Int)) (fun x=>eU h x=c∧ED h x≤6) _ _ (fun k hk hp=>?_) (fun k hk hp=>?_) ?_
    · rw [hst k hk,if_pos hp]
    · rw [hst k hk,if_neg hp]
    · simp [AT]
  rw [key]
  by_cases q:∀x∈l,eU h x=c∧ED h x≤6
  · rw [if_pos q,decide_eq_true (show QP h l c from q)];rfl
  · rw [if_neg q,decide_eq_false (show ¬QP h l c from q)];rfl
theorem aAW{h:aC}(hs:oH h){s:aG}(hl:s.bB.length≤maxLen){c:Int}(hc:0≤c):MD h s c=some (decide (QP h s.bB c)):=by
  unfold MD
  have key:loop (AX h s c) 0=some (if ∀x∈s.bB,eU h x=c∧ED h x≤6 then Out.brk () else Out.ret false):=by
    have hst:∀k (hk:k < s.bB.length),AX h s c (k:Int)=if eU h s.bB[k]=c∧ED h s.bB[k]≤6 then some (.next ((k+1:Nat):Int)) else some (.stop (Out.ret false)):=by
      intro k hk
      simp only [AX]
      rw [if_pos (by simp;omega),aT hk]
      generalize s.bB[k]=x
      simp only [Option.bind_some,y8 hs,KW]
      by_cases q:eU h x=c
      · have n1:(eU h x != c)=false:=by simp only [bne_eq_false_iff_eq];exact q
        simp only [n1,Bool.false_eq_true,if_false,TC hs (show 0≤eU h x by omega),Option.bind_some,bV (cG hk hl)]
        by_cases q2:ED h x≤6
        · rw [if_neg (by simp;omega),if_pos ⟨q,q2⟩]
        · rw [if_pos (by simp;omega),if_neg (fun x=>q2 x.2)]
      · have n1:(eU h x != c)=true:=by simp only [bne_iff_ne];exact q
        simp only [n1,if_true]
        rw [if_neg (fun x=>q x.1)]
    refine lA (f:=AX h s c) s.bB (fun k=>(k:Int)) (fun x=>eU h x=c∧ED h x≤6) _ _ (fun k hk hp=>?_) (fun k hk hp=>?_) ?_
    · rw [hst k hk,if_pos hp]
    · rw [hst k hk,if_neg hp]
    · simp [AX]
  rw [key]
  by_cases q:∀x∈s.bB,eU h x=c∧ED h x≤6
  · rw [if_pos q,decide_eq_true (show QP h s.bB c from q)];rfl
  · rw [if_neg q,decide_eq_false (show ¬QP h s.bB c from q)];rfl
def yM(l:List aG)(k:Nat):List Int:=(l.getD k ⟨[]⟩).bB
theorem rN{l:List aG}{k:Nat}(h:k < l.length):l[k].bB=yM l k:=by
  unfold yM;rw [List.getD_eq_getElem?_getD,List.getElem?_eq_getElem h];rfl
def X3(m:Mem)(k:Nat):Prop:=QP m.aC (yM m.aB.Global k) (k:Int)
def QQ(m:Mem)(k:Nat):Prop:=QP m.aC (yM m.aB.bA k) ((k % 3:Nat):Int)
instance (m:Mem) (k:Nat):Decidable (X3 m k):=by unfold X3;infer_instance
instance (m:Mem) (k:Nat):Decidable (QQ m k):=by unfold QQ;infer_instance
instance (m:Mem):Decidable (∀k,k < 3→X3 m k):=Nat.decidableBallLT 3 fun k _=>X3 m k
instance (m:Mem):Decidable (∀k,k < 9→QQ m k):=Nat.decidableBallLT 9 fun k _=>QQ m k
instance (m:Mem) (c:Nat):Decidable (∀w,w < 3→QQ m (w * 3+c)):=Nat.decidableBallLT 3 fun w _=>QQ m (w * 3+c)
instance (m:Mem):Decidable (∀k,k < 3→X3 m k∧∀w,w < 3→QQ m (w * 3+k)):=Nat.decidableBallLT 3 fun k _=>X3 m k∧∀w,w < 3→QQ m (w * 3+k)
def G6(m:Mem):Prop:=(HOk m.aC∧LOk m.aB)∧(∀k,k < 3→X3 m k)∧∀k,k < 9→QQ m k
instance (m:Mem):Decidable (G6 m):=by unfold G6;infer_instance
theorem LOk.aLX{l:aB}(h:LOk l)(hb:(jW l).length≤1073741824):(∀s∈l.Global,s.bB.length≤1073741824)∧∀s∈l.bA,s.bB.length≤1073741824:=by
  have hsum:(jH l.Global).length+(jH l.bA).length≤1073741824:=by simpa [jW] using hb
  constructor
  · intro s hm
    obtain⟨k,hk,rfl⟩:=List.mem_iff_getElem.1 hm
    have:=aE2 l.Global hk;omega
  · intro s hm
    obtain⟨k,hk,rfl⟩:=List.mem_iff_getElem.1 hm
    have:=aE2 l.bA hk;omega
theorem aYK{m:Mem}:(∀k,k < 3→X3 m k∧∀w,w < 3→QQ m (w * 3+k))↔(∀k,k < 3→X3 m k)∧∀k,k < 9→QQ m k:=by
  constructor
  · intro h
    refine⟨fun k hk=>(h k hk).1,fun k hk=>?_⟩
    have:=(h (k % 3) (by omega)).2 (k / 3) (by omega)
    have e:k / 3 * 3+k % 3=k:=by omega
    rwa [e] at this
  · rintro⟨h1,h2⟩ k hk
    exact⟨h1 k hk,fun w hw=>h2 _ (by omega)⟩
theorem IV{m:Mem}(hb:m.aC.Bytes.length≤maxLen)(hl:(jW m.aB).length≤1073741824):GF m=some (decide (G6 m)):=by
  unfold GF SO
  rw [aPY hb,aM8 hl]
  by_cases h1:HOk m.aC
  · by_cases h2:LOk m.aB
    · have hmx:(1073741824:Nat)≤maxLen:=by simp [maxLen]
      have hsl:=LOk.aLX h2 hl
      simp only [decide_eq_true h1,decide_eq_true h2,Option.bind_some,Bool.not_true,Bool.false_eq_true,if_false]
      have k3:∀c:Nat,c < 3→loop (L5 m (c:Int)) 0=some (if ∀w,w < 3→QQ m (w * 3+c) then Out.brk () else Out.ret false):=by
        intro c hc
        have hst:∀w:Nat,w < 3→L5 m (c:Int) (w:Int)=if QQ m (w * 3+c) then some (.next ((w+1:Nat):Int)) else some (.stop (Out.ret false)):=by
          intro w hw
          have hk:w * 3+c < m.aB.bA.length:=by rw [h2.2.1];omega
          have e:JJ (w:Int) (c:Int)=some ((w * 3+c:Nat):Int):=by
            unfold JJ L4
            rw [fP,fP,decide_eq_true (by omega),decide_eq_true (by omega)]
            simp only [Option.bind_some,Bool.not_true,Bool.false_eq_true,if_false]
            rw [aZ (x:=(w:Int) * 3) (by omega) (by omega),aZ (by omega) (by omega)];rfl
          have hlen:=hsl.2 _ (List.getElem_mem hk)
          simp only [L5]
          rw [if_pos (by simp;omega),e]
          simp only [Option.bind_some,aT hk]
          rw [aAV h1.1 (by omega) (by omega),rN hk]
          have em:(w * 3+c) % 3=c:=by omega
          have ho:QQ m (w * 3+c)↔QP m.aC (yM m.aB.bA (w * 3+c)) (c:Int):=by unfold QQ;rw [em]
          rw [aZ (by omega) (by omega)]
          by_cases q:QQ m (w * 3+c)
          · rw [if_pos q,decide_eq_true (ho.1 q)];rfl
          · rw [if_neg q,decide_eq_false (fun x=>q (ho.2 x))];rfl
        refine BI (f:=L5 m (c:Int)) 3 (fun k=>(k:Int)) (fun w=>QQ m (w * 3+c)) _ _ (fun k hk hx=>?_) (fun k hk hx=>?_) ?_
        · rw [hst k hk,if_pos hx]
        · rw [hst k hk,if_neg hx]
        · rfl
      have k2:loop (L6 m) 0=some (if ∀k,k < 3→X3 m k∧∀w,w < 3→QQ m (w * 3+k) then Out.brk () else Out.ret false):=by
        have hst:∀c:Nat,c < 3→L6 m (c:Int)=if X3 m c∧∀w,w < 3→QQ m (w * 3+c) then some (.next ((c+1:Nat):Int)) else some (.stop (Out.ret false)):=by
          intro c hc
          have hk:c < m.aB.Global.length:=by rw [h2.1];omega
          have hlen:=hsl.1 _ (List.getElem_mem hk)
          simp only [L6]
          rw [if_pos (by simp;omega)]
          simp only [Option.bind_some,aT hk]
          rw [aAV h1.1 (by omega) (by omega),rN hk,k3 c hc]
          by_cases q:X3 m c
          · have q':QP m.aC (yM m.aB.Global c) (c:Int):=q
            rw [decide_eq_true q']
            simp only [Option.bind_some,Bool.not_true,Bool.false_eq_true,if_false]
            by_cases q2:∀w,w < 3→QQ m (w * 3+c)
            · rw [if_pos q2,if_pos ⟨q,q2⟩]
              simp only [aGM,aGL]
              rw [aZ (by omega) (by omega)];rfl
            · rw [if_neg q2,if_neg (fun x=>q2 x.2)];rfl
          · have q':¬QP m.aC (yM m.aB.Global c) (c:Int):=q
            rw [decide_eq_false q',if_neg (fun x:X3 m c∧_=>q x.1)];rfl
        refine BI (f:=L6 m) 3 (fun k=>(k:Int)) (fun k=>X3 m k∧∀w,w < 3→QQ m (w * 3+k)) _ _ (fun k hk hx=>?_) (fun k hk hx=>?_) ?_
        · rw [hst k hk,if_pos hx]
        · rw [hst k hk,if_neg hx]
        · rfl
      rw [k2]
      by_cases q:∀k,k < 3→X3 m k∧∀w,w < 3→QQ m (w * 3+k)
      · rw [if_pos q,decide_eq_true (show G6 m from ⟨⟨h1,h2⟩,aYK.1 q⟩)];rfl
      · rw [if_neg q,decide_eq_false (fun x:G6 m=>q (aYK.2 x.2))];rfl
    · rw [decide_eq_false (fun q:G6 m=>h2 q.1.2),decide_eq_true h1,decide_eq_false h2];rfl
  · rw [decide_eq_false (fun q:G6 m=>h1 q.1.1),decide_eq_false h1];rfl
theorem IW{m:Mem}(hb:m.aC.Bytes.length≤maxLen)(hl:(jW m.aB).length≤1073741824):GN m=some (decide (G6 m)):=by
  unfold GN S2
  rw [WW hb,aDG hl]
  by_cases h1:HOk m.aC
  · by_cases h2:LOk m.aB
    · have hmx:(1073741824:Nat)≤maxLen:=by simp [maxLen]
      have hsl:=LOk.aLX h2 hl
      simp only [decide_eq_true h1,decide_eq_true h2,Option.bind_some,Bool.not_true,Bool.false_eq_true,if_false]
      have k3:loop (IP m) 0=some (if ∀k,k < 9→QQ m k then Out.brk () else Out.ret false):=by
        have hst:∀w:Nat,w < 9→IP m (w:Int)=if QQ m w then some (.next ((w+1:Nat):Int)) else some (.stop (Out.ret false)):=by
          intro w hw
          have hk:w < m.aB.bA.length:=by rw [h2.2.1];omega
          have hlen:=hsl.2 _ (List.getElem_mem hk)
          have em:Int.tmod (w:Int) 3=((w % 3:Nat):Int):=by rw [J0 (by omega)];omega
          simp only [IP]
          rw [if_pos (by simp;omega)]
          simp only [Option.bind_some,aT hk,em]
          rw [aAW h1.1 (by omega) (by omega),rN hk,aZ (by omega) (by omega)]
          by_cases q:QQ m w
          · rw [if_pos q,decide_eq_true (show QP m.aC (yM m.aB.bA w) ((w % 3:Nat):Int) from q)];rfl
          · rw [if_neg q,decide_eq_false (show ¬QP m.aC (yM m.aB.bA w) ((w % 3:Nat):Int) from q)];rfl
        refine BI (f:=IP m) 9 (fun k=>(k:Int)) (fun w=>QQ m w) _ _ (fun k hk hx=>?_) (fun k hk hx=>?_) ?_
        · rw [hst k hk,if_pos hx]
        · rw [hst k hk,if_neg hx]
        · simp [IP,h2.2.1]
      have k2:loop (IQ m) 0=some (if ∀k,k < 3→X3 m k then Out.brk () else Out.ret false):=by
        have hst:∀w:Nat,w < 3→IQ m (w:Int)=if X3 m w then some (.next ((w+1:Nat):Int)) else some (.stop (Out.ret false)):=by
          intro w hw
          have hk:w < m.aB.Global.length:=by rw [h2.1];omega
          have hlen:=hsl.1 _ (List.getElem_mem hk)
          simp only [IQ]
          rw [if_pos (by simp;omega)]
          simp only [Option.bind_some,aT hk]
          rw [aAW h1.1 (by omega) (by omega),rN hk,aZ (by omega) (by omega)]
          by_cases q:X3 m w
          · rw [if_pos q,decide_eq_true (show QP m.aC (yM m.aB.Global w) (w:Int) from q)];rfl
          · rw [if_neg q,decide_eq_false (show ¬QP m.aC (yM m.aB.Global w) (w:Int) from q)];rfl
        refine BI (f:=IQ m) 3 (fun k=>(k:Int)) (fun w=>X3 m w) _ _ (fun k hk hx=>?_) (fun k hk hx=>?_) ?_
        · rw [hst k hk,if_pos hx]
        · rw [hst k hk,if_neg hx]
        · simp [IQ,h2.1]
      rw [k2]
      by_cases q:∀k,k < 3→X3 m k
      · rw [if_pos q]
        simp only [Option.bind_some,aGU,aGT]
        rw [k3]
        by_cases q2:∀k,k < 9→QQ m k
        · rw [if_pos q2,decide_eq_true (show G6 m from ⟨⟨h1,h2⟩,q,q2⟩)];rfl
        · rw [if_neg q2,decide_eq_false (fun x:G6 m=>q2 x.2.2)];rfl
      · rw [if_neg q,decide_eq_false (fun x:G6 m=>q x.2.1)];rfl
    · rw [decide_eq_false (fun q:G6 m=>h2 q.1.2),decide_eq_true h1,decide_eq_false h2];rfl
  · rw [decide_eq_false (fun q:G6 m=>h1 q.1.1),decide_eq_false h1];rfl
end Go.Gv
end
noncomputable section
set_option linter.unusedVariables false
set_option linter.unusedSimpArgs false
set_option linter.unusedSectionVars false
namespace Go.Gv
theorem zT{l:List aG}{s:aG}(h:s∈l):s.bB.length≤(jH l).length:=by
  obtain⟨k,hk,rfl⟩:=List.mem_iff_getElem.1 h
  exact aE2 l hk
theorem wH(l:aB):(jW l).length=(jH l.Global).length+(jH l.bA).length:=by simp [jW]
def N4(m:Mem):Prop:=m.aC.Bytes.length≤1048576∧m.aC.Class.length≤1048576∧m.aB.Global.length≤1048576∧m.aB.bA.length≤1048576∧(jW m.aB).length≤1048576
theorem N4.aLX{m:Mem}(h:N4 m):(∀s∈m.aB.Global,s.bB.length≤1048576)∧∀s∈m.aB.bA,s.bB.length≤1048576:=by
  have:=wH m.aB
  have h5:=h.2.2.2.2
  exact⟨fun s hm=>by have:=zT hm;omega,fun s hm=>by have:=zT hm;omega⟩
end Go.Gv
end
noncomputable section
set_option linter.unusedVariables false
set_option linter.unusedSimpArgs false
set_option linter.unusedSectionVars false
namespace Go.Gv
def POk(e:Int)(p:cQ):Prop:=(0≤p.aJ∧p.aJ≤e)∧(0≤p.Seen∧p.Seen≤2)∧(p.On=false→p=⟨false,0,false,0⟩)
instance (e:Int) (p:cQ):Decidable (POk e p):=by unfold POk;infer_instance
def COk(c:aD):Prop:=(0≤c.aJ∧c.aJ≤100000)∧c.aM.length=3∧∀p∈c.aM,POk c.aJ p
instance (c:aD):Decidable (COk c):=by unfold COk;infer_instance
theorem tK(c:aD):tG c=some (decide (COk c)):=by
  unfold tG
  rw [fP]
  by_cases h1:0≤c.aJ∧c.aJ≤100000
  · by_cases h2:c.aM.length=3
    · simp only [Option.bind_some,h1,h2,CM]
      have key:∀k:Nat,k≤3→loop (HP c) (k:Int)=some (if ∀p∈c.aM.drop k,POk c.aJ p then Out.brk () else Out.ret false):=by
        refine aSZ 3 _ fun k hk=>?_
        by_cases h3:k < 3
        · have hd:c.aM.drop k=c.aM[k] :: c.aM.drop (k+1):=List.drop_eq_getElem_cons (by omega)
          simp only [HP]
          rw [if_pos (by simp;omega),aT (by omega)]
          simp only [Option.bind_some,fP,yU,hd]
          rw [bV (by simp [maxLen];omega)]
          generalize c.aM[k]=p
          have hp:POk c.aJ p↔decide (0≤p.aJ∧p.aJ≤c.aJ)=true∧decide (0≤p.Seen∧p.Seen≤2)=true∧(p.On=false→decide (p=⟨false,0,false,0⟩)=true):=by simp only [POk,decide_eq_true_eq]
          simp only [List.forall_mem_cons,hp]
          generalize decide (0≤p.aJ∧p.aJ≤c.aJ)=b1
          generalize decide (0≤p.Seen∧p.Seen≤2)=b2
          generalize decide (p=⟨false,0,false,0⟩)=b3
          generalize p.On=b4
          cases b1 <;> cases b2 <;> cases b3 <;> cases b4 <;> simp [h3]
        · left
          obtain rfl:k=3:=by omega
          simp [HP,List.drop_eq_nil_of_le (show c.aM.length≤3 by omega)]
      have:=key 0 (by omega)
      simp only [Int.ofNat_zero,List.drop_zero] at this
      have e:decide (COk c)=if ∀p∈c.aM,POk c.aJ p then true else false:=by
        have:COk c↔∀p∈c.aM,POk c.aJ p:=⟨fun h=>h.2.2,fun h=>⟨h1,h2,h⟩⟩
        simp [this]
      rw [e]
      simp only [Int.cast_ofNat_Int] at *
      have t0:loop (HP c) 0=_:=this
      by_cases h5:∀p∈c.aM,POk c.aJ p
      · rw [if_pos h5] at t0 ⊢;rw [t0];simp [UE,aC1]
      · rw [if_neg h5] at t0 ⊢;rw [t0];simp [UE]
    · simp [h1,h2,CM,COk]
      omega
  · simp [h1,CM,COk]
theorem aVI(p:cQ)(c:aD):JO p c=some (!decide (POk c.aJ p)):=by
  unfold JO yH
  rw [kD,kD]
  have hp:decide (POk c.aJ p)=(decide (0≤p.aJ∧p.aJ≤c.aJ) && (decide (0≤p.Seen∧p.Seen≤2) && (p.On || decide (p=⟨false,0,false,0⟩)))):=by
    rw [Bool.eq_iff_iff];simp only [POk,decide_eq_true_eq,Bool.and_eq_true,Bool.or_eq_true]
    by_cases h:p.On=true
    · simp [h]
    · simp [(by simpa using h:p.On=false)]
  rw [hp]
  generalize decide (0≤p.aJ∧p.aJ≤c.aJ)=b1
  generalize decide (0≤p.Seen∧p.Seen≤2)=b2
  generalize decide (p=⟨false,0,false,0⟩)=b3
  generalize p.On=b4
  cases b1 <;> cases b2 <;> cases b3 <;> cases b4 <;> rfl
theorem aTZ{l:List cQ}(hl:l.length≤maxLen)(f:cQ→Bool):yG l (fun x=>some (f x))=some (l.any f):=by
  unfold yG JN
  have key:∀k:Nat,k≤l.length→loop (uC l (fun x=>some (f x))) (k:Int)=some (if (l.drop k).any f then Out.ret ((k+(l.drop k).findIdx f:Nat):Int) else Out.brk ()):=by
    refine aSZ l.length _ fun k hk=>?_
    by_cases h3:k < l.length
    · have hd:l.drop k=l[k] :: l.drop (k+1):=List.drop_eq_getElem_cons h3
      simp only [uC]
      rw [if_pos (by simp;omega),aT h3,bV (cG h3 hl),hd]
      simp only [Option.bind_some,List.any_cons,List.findIdx_cons]
      by_cases h4:f l[k]=true
      · left;simp [h4]
      · right
        have h4:f l[k]=false:=by simpa using h4
        refine⟨h3,by simp [h4],?_⟩
        simp only [h4,Bool.false_or,cond_false]
        congr 2;omega
    · left
      obtain rfl:k=l.length:=by omega
      simp [uC]
  have t0:loop (uC l (fun x=>some (f x))) 0=_:=key 0 (by omega)
  rw [t0]
  simp only [List.drop_zero]
  by_cases h:l.any f=true
  · simp [h,E9]
  · have h:l.any f=false:=by simpa using h
    simp [h,E9,OT]
theorem tL{c:aD}(hc:c.aM.length≤maxLen):tI c=some (decide (COk c)):=by
  unfold tI HW
  rw [kD]
  have e:(fun y0=>JO y0 c)=fun y0=>some (!decide (POk c.aJ y0)):=funext fun y=>aVI y c
  rw [e,aTZ hc]
  by_cases h1:0≤c.aJ∧c.aJ≤100000
  · by_cases h2:c.aM.length=3
    · have:COk c↔∀p∈c.aM,POk c.aJ p:=⟨fun h=>h.2.2,fun h=>⟨h1,h2,h⟩⟩
      have e2:(c.aM.any fun y0=>!decide (POk c.aJ y0))=!decide (∀p∈c.aM,POk c.aJ p):=by
        rw [Bool.eq_iff_iff];simp
      simp [h1,h2,this,e2]
    · have:¬(c.aM.length:Int)=3:=by omega
      simp [h1,this,h2,COk]
  · simp [h1,COk]
end Go.Gv
end
