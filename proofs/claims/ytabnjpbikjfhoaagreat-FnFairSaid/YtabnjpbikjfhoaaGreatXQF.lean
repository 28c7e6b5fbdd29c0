import Derived.Test.YtabnjpbikjfhoaaGreatXQE
set_option linter.unusedVariables false
set_option linter.unusedSimpArgs false
set_option linter.unusedSectionVars false
set_option linter.constructorNameAsVariable false
set_option linter.unnecessarySimpa false
noncomputable section
set_option maxHeartbeats 4000000
set_option maxRecDepth 100000
namespace Go.Proofs.YtabnjpbikjfhoaaGreat
open Go.Gv Tryz
noncomputable section
variable {κ:Ctx}
theorem K7{s:aA}{w_:Int}{s1 s2 s3 s4 s5 s6 s7 s8 s9 s10 s11:AC}{b0:Nat×Nat}:VS prog κ 52 (lF s w_) [.p 0 0,I w_] [b0] ([.box 0 (gS s s1 s2 s3 s4 s5 s6 s7 s8 s9 s10 s11)]++(oS s s1 s2 s3 s4 s5 s6 s7 s8 s9 s10 s11 [])) (fun(r:aA) (y:A8C)=>.t []) (fun(r:aA) (y:A8C)=>([.box 0 (gS r y.1 y.2.1 y.2.2.1 y.2.2.2.1 y.2.2.2.2.1 y.2.2.2.2.2.1 y.2.2.2.2.2.2.1 s8 s9 s10 y.2.2.2.2.2.2.2)]++(oS r y.1 y.2.1 y.2.2.1 y.2.2.2.1 y.2.2.2.2.1 y.2.2.2.2.2.1 y.2.2.2.2.2.2.1 s8 s9 s10 y.2.2.2.2.2.2.2 []))):=
 cQ tok call52 func52 results52 Q Q<|lR b8 9 Q Q Q fun x1 h1 _ h2=>fun hF=>iE 1 h2 h1 Q Q Q Q Q<|wi hF<|bA [15,18] Q Q (fun hF=>ME b8 12 [] h1 () Q Q Q Q Q Q Q Q Q<|wi hF<|dX 0 0 0 13 [1,2,3,4,5,6,7,8,16,10,11] Q Q Q Q Q (fun _=>UC) fun x2 s12=>MF (s1,s2,s3,s4,s5,s6,s7,s12) [0,17,18,19,20,21,22,23,24,25,26,27] Q Q)<|bA [22,25] Q Q (fun hF=>ME b8 12 [] h1 () Q Q Q Q Q Q Q Q Q<|wi hF<|dX 0 0 0 13 [1,2,3,4,5,6,7,8,16,10,11] Q Q Q Q Q (fun _=>i6) fun x3 s13=>lR b8 25 Q Q Q fun x4 h3 _ h4=>fun hF=>iE 3 h4 h3 Q Q Q Q Q<|sF Q<|lN b8 28 [] [38] (⟨false,(⟨0,0,0,0⟩:eU),0,0,(⟨0,0,0,0,0,0,0,0,0,false⟩:Sub),0,0,0,0⟩:bR) () Q Q Q Q Q Q Q Q<|oN s9 b9.symm [] [(0,9)] Q Q Q<|fR Q Q<|mD (hT:=tok) (s1,s2,s3,s4,s5,s6,s7,s13) [0,17,18,19,20,21,22,23,24,31,26,27] hF Q results52 Q Q Q Q)<|bA [42,46] Q Q (fun hF=>ME b8 12 [] h1 () Q Q Q Q Q Q Q Q Q<|wi hF<|dX 0 0 0 13 [1,2,3,4,5,6,7,8,16,10,11] Q Q Q Q Q (fun _=>XW) fun x5 s14=>MF (s14.1,s14.2.1,s14.2.2.1,s14.2.2.2.1,s14.2.2.2.2.1,s14.2.2.2.2.2.1,s7,s14.2.2.2.2.2.2) [0,17,18,19,20,21,22,23,24,25,26,27] Q Q)<|bA [50,54] Q Q (fun hF=>ME b8 12 [] h1 () Q Q Q Q Q Q Q Q Q<|wi hF<|dX 0 0 0 13 [1,2,3,4,5,6,7,8,16,10,11] Q Q Q Q Q (fun _=>XX) fun x6 s15=>MF (s15.1,s15.2.1,s15.2.2.1,s15.2.2.2.1,s15.2.2.2.2.1,s15.2.2.2.2.2.1,s7,s15.2.2.2.2.2.2) [0,17,18,19,20,21,22,23,24,25,26,27] Q Q)<|bA [58,62] Q Q (fun hF=>ME b8 12 [] h1 () Q Q Q Q Q Q Q Q Q<|wi hF<|dX 0 0 0 13 [1,2,3,4,5,6,7,8,16,10,11] Q Q Q Q Q (fun _=>XY) fun x7 s16=>MF (s1,s2,s3,s4,s5,s6,s16.1,s16.2) [0,17,18,19,20,21,22,23,24,25,26,27] Q Q)<|bA [66,70] Q Q (fun hF=>ME b8 12 [] h1 () Q Q Q Q Q Q Q Q Q<|wi hF<|dX 0 0 0 13 [1,2,3,4,5,6,7,8,16,10,11] Q Q Q Q Q (fun _=>V4) fun x8 s17=>MF (s1,s2,s3,s4,s5,s6,s7,s17) [0,17,18,19,20,21,22,23,24,25,26,27] Q Q)<|fun hF=>ME b8 12 [] h1 () Q Q Q Q Q Q Q Q Q<|wi hF<|dX 0 0 0 13 [1,2,3,4,5,6,7,8,16,10,11] Q Q Q Q Q (fun _=>UF) fun x9 s18=>MF (s18.1,s18.2.1,s18.2.2.1,s18.2.2.2.1,s18.2.2.2.2.1,s18.2.2.2.2.2,s7,s11) [0,17,18,19,20,21,22,23,24,25,26,27] Q Q
theorem V5{x y:Int}:V0 prog κ 358 (O0 x y) [.i .u64 x,.i .u64 y] (fun r=>.t [.i .u64 r.1,.i .u64 r.2]):=
 cQ tok call358 func358 results358 Q Q<|cO Q Q
theorem aAD{x y:Int}:V0 prog κ 347 (LN x y) [.i .u64 x,.i .u64 y] (fun r=>.t [.i .u64 r.1,.i .u64 r.2]):=
 cQ tok call347 func347 results347 Q Q<|c0 Q (fun _=>V5) fun x1=>cO Q Q
theorem xV{x:List Int}{count:Int}{s1:AC}(h1:aX κ s1 x):VS prog κ 316 (tS x count) [.h s1 x.length,I count] [] [] (fun r (y:AC)=>.h y r.length) (fun r y=>[ow y r]):=
 cQ tok call316 func316 results316 Q Q<|bA [10] Q Q (fun hF=>nomatch hF)<|c0 Q (fun _=>aAD) fun x1=>cX 0 0 (nU x x1) [0,6] 26 [] Q (dQ [22,23] Q Q (bU [] Q Q)<|bU [] Q Q) fun x2=>bA [26] Q Q (fun hF=>nomatch hF)<|fun hF=>DU (0:Int) aW (fun w=>mM Q w) Q Q Q Q Q Q Q hF fun hF s2=>cp0 (xs:=x) 0 (fun h=>(h.a h1)) Q Q Q Q Q Q Q Q<|rr s2 (fG (xs:=x) (xL _)).symm [7,30,31] [] [] Q Q Q Q<|wi hF<|OR () [] (fun(p:(List Int)×Int) (_:Unit)=>[(7,.h s2 p.1.length),(8,I p.2)]) [0] [] (fun p _=>[ow s2 (p.1:List Int)]) id [] (fun(x7:(List Int)) (_:Unit)=>[(7,.h s2 x7.length)]) [] (fun x7 _=>[ow s2 (x7:List Int)]) Q Q (fun hF2 ⟨x5,x6⟩ _ hr2=>bA [37] Q Q (eE aC [] Q<|fun hG2=>cpc 0 Q Q fun hc1=>Y5 hc1 Q Q Q Q Q Q hG2 fun hG2 h2=>aMH hc1 Q Q Q Q Q Q hG2 fun hG2 h3=>cpy (xs:=(x5.take x6.toNat).drop 0) 0 x6.toNat h2 (fun h=>((h.o 0 Q).sub (HF h3.1 h3.2) h3)) Q Q Q Q Q Q Q Q<|rr s2 (fG (xs:=(x5.take x6.toNat).drop 0) h2.1).symm [7,35,39,42] [] [] Q Q Q Q<|wi hG2<|BE [0] Q)<|yD [0] Q) fun x7 _=>eO s2 [0] Q Q
theorem aDP:VS prog κ 262 H6 [] [] [] (fun r (y:AC×AC)=>.g [.h y.1 r.Bytes.length,.h y.2 r.Class.length]) (fun r y=>[ow y.1 r.Bytes,ow y.2 r.Class]):=
 cQ tok call262 func262 results262 Q Q<|gG 0 1 O1 [0] (fun(x1:(List Int)) (u:AC×AC)=>[]) [] (fun x1 u=>[ow u.1 (List.replicate ((384:Int).toNat) 0:List Int),ow u.2 (x1:List Int),.box 0 [.h u.1 (List.replicate ((384:Int).toNat) 0).length,.h u.2 x1.length]]) Q (eE aC [] Q<|fun hF=>nd hF fun hA1 hF=>bd hF fun x2 hA2 hF=>gE Q Q (have hq1:=rn hA1;DU (0:Int) aW (fun w=>mM Q w) Q Q Q Q Q Q Q hq1 fun hq1 s6=>lt1 Q aW Q Q Q Q fun s7=>have hq2:=rb hA2;wi hq2<|c1 Q (fun h=>xV (h.o 2 Q)) fun u1 s8=>fun hq2=>match u1,hq2 with | _,rfl=>wi hF<|kZ (p:=(x2)) (s6,s8) [1,3,0] Q Q) (lt1 Q aW Q Q Q Q fun s9=>gE Q Q (have hq3:=rn hA1;DU (0:Int) aW (fun w=>mM Q w) Q Q Q Q Q Q Q hq3 fun hq3 s10=>have hq4:=rb hA2;wi hq4<|c1 Q (fun h=>xV (h.o 1 Q)) fun u2 s11=>fun hq4=>match u2,hq4 with | _,rfl=>wi hF<|kZ (p:=(x2)) (s10,s11) [2,3,0] Q Q) (have hq5:=rb hA2;wi hq5<|c1 Q (fun h=>xV (h.o 1 Q)) fun u3 s12=>fun hq5=>match u3,hq5 with | _,rfl=>have hq6:=rn hA1;DU (0:Int) aW (fun w=>mM Q w) Q Q Q Q Q Q Q hq6 fun hq6 s13=>wi hF<|kZ (p:=(x2)) (s13,s12) [3,2,0] Q Q))) fun x1 ⟨s1,s2⟩=>eO (s1,s2) [0,1] Q Q
theorem aAE:VS prog κ 263 LO [] [] [] (fun r (y:AC×AC)=>.g [.h y.1 r.Global.length,.h y.2 r.Own.length]) (fun r y=>[ow y.1 r.Global,ow y.2 r.Own]):=
 cQ tok call263 func263 results263 Q Q<|gG 0 1 (fun(_:Unit)=>MY) [0] (fun(_:Unit) (u:AC×AC)=>[]) [] (fun _ u=>[ow u.1 (List.replicate ((3:Int).toNat) (⟨[]⟩:aK):List aK),ow u.2 (List.replicate ((9:Int).toNat) (⟨[]⟩:aK):List aK),.box 0 [.h u.1 (List.replicate ((3:Int).toNat) (⟨[]⟩:aK)).length,.h u.2 (List.replicate ((9:Int).toNat) (⟨[]⟩:aK)).length]]) Q (eE aC [] Q<|fun hF=>nd hF fun hA1 hF=>nd hF fun hA2 hF=>gE Q Q (have hq1:=rn hA1;DU ((⟨[]⟩:aK):aK) dI (fun _=>(EO (BN (⟨[]⟩:aK)) (SU aFB))) Q Q Q Q Q Q Q hq1 fun hq1 s5=>have hq2:=rn hA2;DU ((⟨[]⟩:aK):aK) dI (fun _=>(EO (BN (⟨[]⟩:aK)) (SU aFB))) Q Q Q Q Q Q Q hq2 fun hq2 s6=>wi hF<|kZ (p:=()) (s5,s6) [1,2,0] Q Q) (have hq3:=rn hA2;DU ((⟨[]⟩:aK):aK) dI (fun _=>(EO (BN (⟨[]⟩:aK)) (SU aFB))) Q Q Q Q Q Q Q hq3 fun hq3 s7=>have hq4:=rn hA1;DU ((⟨[]⟩:aK):aK) dI (fun _=>(EO (BN (⟨[]⟩:aK)) (SU aFB))) Q Q Q Q Q Q Q hq4 fun hq4 s8=>wi hF<|kZ (p:=()) (s8,s7) [2,1,0] Q Q)) fun _ ⟨s1,s2⟩=>eO (s1,s2) [0,1] Q Q
theorem aF4:VS prog κ 193 QP [] [] [] (fun r (y:A4C)=>.g (yM r y)) (fun r y=>(zM r y [])):=
 cQ tok call193 func193 results193 Q Q<|c1 Q (fun _=>aDP) fun x1 s1=>c1 Q (fun _=>aAE) fun x2 s2=>eO (s1.1,s1.2,s2.1,s2.2) [1,2,3,4] Q Q
theorem aAF:VS prog κ 194 LP [] [] [] (fun r (y:AC)=>.g [I r.aL,.h y r.bO.length]) (fun r y=>[ow y r.bO]):=
 cQ tok call194 func194 results194 Q Q<|fun hF=>DU ((⟨false,0,false,0⟩:o5):o5) A9 (fun w=>mM (aS6 (⟨false,0,false,0⟩:o5)) w) Q Q Q Q Q Q Q hF fun hF s1=>wi hF<|eO s1 [1] Q Q
theorem aAG:VS prog κ 195 LQ [] [] [] (fun r (y:AC)=>.h y r.length) (fun r y=>[ow y r]):=
 cQ tok call195 func195 results195 Q Q<|fun hF=>DU ((⟨[]⟩:aS):aS) rA (fun _=>(EO (aCM (⟨[]⟩:aS)) (SU aFB))) Q Q Q Q Q Q Q hF fun hF s1=>wi hF<|eO s1 [0] Q Q
theorem aF5:VS prog κ 196 QQ [] [] [] (fun r (y:AC)=>.h y r.length) (fun r y=>[ow y r]):=
 cQ tok call196 func196 results196 Q Q<|fun hF=>DU (0:Int) aW (fun w=>mM Q w) Q Q Q Q Q Q Q hF fun hF s1=>wi hF<|eO s1 [0] Q Q
theorem vV:VS prog κ 116 H7 [] [] [] (fun r (y:A7C)=>.g (yB r y)) (fun r y=>(zB r y [])):=
 cQ tok call116 func116 results116 Q Q<|c1 Q (fun _=>aF4) fun x1 s1=>c1 Q (fun _=>aAF) fun x2 s2=>c1 Q (fun _=>aAG) fun x3 s3=>c1 Q (fun _=>aF5) fun x4 s4=>eO (s1.1,s1.2.1,s1.2.2.1,s1.2.2.2,s2,s3,s4) [1,2,3,4,5,6,7] Q Q
theorem PH{todo:List Queue}{s1:AC}(h1:aX κ s1 todo):VS prog κ 53 (sZ todo) [.h s1 todo.length] [] [] (fun r (y:DW)=>.g (yS r y)) (fun r y=>(zS r y [])):=
 cQ tok call53 func53 results53 Q Q<|c0 Q (fun h=>TD (h.a h1)) fun x1=>bA [5] Q Q (fun hF=>sR Q<|T6 Int<|T6 Int<|T6 aK<|T6 aK<|T6 o5<|T6 aS<|T6 Int<|T6 Int<|T6 bR<|T6 Queue<|T6 Ev<|mD (hT:=tok) (⟨none,0⟩,⟨none,0⟩,⟨none,0⟩,⟨none,0⟩,⟨none,0⟩,⟨none,0⟩,⟨none,0⟩,⟨none,0⟩,⟨none,0⟩,⟨none,0⟩,⟨none,0⟩) [1,2,3,4,5,6,7,8,9,10,11] hF Q results53 Q Q Q Q)<|gG 0 1 MZ [2] (fun(x2:aA) (u:a0G)=>[]) [] (fun x2 u=>(oB x2.aD u.1 u.2.1 u.2.2.1 u.2.2.2.1 u.2.2.2.2.1 u.2.2.2.2.2.1 u.2.2.2.2.2.2.1 [ow u.2.2.2.2.2.2.2.1 (x2.Cells:List Int),ow u.2.2.2.2.2.2.2.2.1 (x2.aQ:List bR),ow u.2.2.2.2.2.2.2.2.2 (x2.cE:List Queue),.box 0 [.h u.1 x2.aD.Mem.aE.Bytes.length,.h u.2.1 x2.aD.Mem.aE.Class.length,.h u.2.2.1 x2.aD.Mem.aB.Global.length,.h u.2.2.2.1 x2.aD.Mem.aB.Own.length,I x2.aD.aH.aL,.h u.2.2.2.2.1 x2.aD.aH.bO.length,.h u.2.2.2.2.2.1 x2.aD.aU.length,.h u.2.2.2.2.2.2.1 x2.aD.mA.length,.h u.2.2.2.2.2.2.2.1 x2.Cells.length,.h u.2.2.2.2.2.2.2.2.1 x2.aQ.length,.h u.2.2.2.2.2.2.2.2.2 x2.cE.length,.h ⟨none,0⟩ 0,I x2.aJ]])) Q (eE aC [] Q<|fun hF=>bd hF fun x3 hA1 hF=>nd hF fun hA2 hF=>nd hF fun hA3 hF=>bd hF fun x4 hA4 hF=>aMB Q Q (have hq1:=rb hA1;wi hq1<|c1 Q (fun _=>vV) fun u1 s16=>fun hq1=>match u1,hq1 with | _,rfl=>aMB Q Q (have hq2:=rn hA2;DU (0:Int) aW (fun w=>mM Q w) Q Q Q Q Q Q Q hq2 fun hq2 s17=>gE Q Q (have hq3:=rn hA3;DU ((⟨false,(⟨0,0,0,0⟩:eU),0,0,(⟨0,0,0,0,0,0,0,0,0,false⟩:Sub),0,0,0,0⟩:bR):bR) bS (fun w=>mM (tM (⟨false,(⟨0,0,0,0⟩:eU),0,0,(⟨0,0,0,0,0,0,0,0,0,false⟩:Sub),0,0,0,0⟩:bR)) w) Q Q Q Q Q Q Q hq3 fun hq3 s18=>have hq4:=rb hA4;wi hq4<|c1 Q (fun h=>fD (h.a h1)) fun u2 s19=>fun hq4=>match u2,hq4 with | _,rfl=>wi hF<|kZ (p:=((⟨x3,List.replicate ((2:Int).toNat) 0,List.replicate ((3:Int).toNat) (⟨false,(⟨0,0,0,0⟩:eU),0,0,(⟨0,0,0,0,0,0,0,0,0,false⟩:Sub),0,0,0,0⟩:bR),x4,[],0⟩:aA))) (s16.1,s16.2.1,s16.2.2.1,s16.2.2.2.1,s16.2.2.2.2.1,s16.2.2.2.2.2.1,s16.2.2.2.2.2.2,s17,s18,s19) [1,2,3,4,5,6,7,8,9,10,0] Q Q) (have hq5:=rb hA4;wi hq5<|c1 Q (fun h=>fD (h.a h1)) fun u3 s20=>fun hq5=>match u3,hq5 with | _,rfl=>have hq6:=rn hA3;DU ((⟨false,(⟨0,0,0,0⟩:eU),0,0,(⟨0,0,0,0,0,0,0,0,0,false⟩:Sub),0,0,0,0⟩:bR):bR) bS (fun w=>mM (tM (⟨false,(⟨0,0,0,0⟩:eU),0,0,(⟨0,0,0,0,0,0,0,0,0,false⟩:Sub),0,0,0,0⟩:bR)) w) Q Q Q Q Q Q Q hq6 fun hq6 s21=>wi hF<|kZ (p:=((⟨x3,List.replicate ((2:Int).toNat) 0,List.replicate ((3:Int).toNat) (⟨false,(⟨0,0,0,0⟩:eU),0,0,(⟨0,0,0,0,0,0,0,0,0,false⟩:Sub),0,0,0,0⟩:bR),x4,[],0⟩:aA))) (s16.1,s16.2.1,s16.2.2.1,s16.2.2.2.1,s16.2.2.2.2.1,s16.2.2.2.2.2.1,s16.2.2.2.2.2.2,s17,s21,s20) [1,2,3,4,5,6,7,8,10,9,0] Q Q)) (have hq7:=rn hA3;DU ((⟨false,(⟨0,0,0,0⟩:eU),0,0,(⟨0,0,0,0,0,0,0,0,0,false⟩:Sub),0,0,0,0⟩:bR):bR) bS (fun w=>mM (tM (⟨false,(⟨0,0,0,0⟩:eU),0,0,(⟨0,0,0,0,0,0,0,0,0,false⟩:Sub),0,0,0,0⟩:bR)) w) Q Q Q Q Q Q Q hq7 fun hq7 s22=>gE Q Q (have hq8:=rn hA2;DU (0:Int) aW (fun w=>mM Q w) Q Q Q Q Q Q Q hq8 fun hq8 s23=>have hq9:=rb hA4;wi hq9<|c1 Q (fun h=>fD (h.a h1)) fun u4 s24=>fun hq9=>match u4,hq9 with | _,rfl=>wi hF<|kZ (p:=((⟨x3,List.replicate ((2:Int).toNat) 0,List.replicate ((3:Int).toNat) (⟨false,(⟨0,0,0,0⟩:eU),0,0,(⟨0,0,0,0,0,0,0,0,0,false⟩:Sub),0,0,0,0⟩:bR),x4,[],0⟩:aA))) (s16.1,s16.2.1,s16.2.2.1,s16.2.2.2.1,s16.2.2.2.2.1,s16.2.2.2.2.2.1,s16.2.2.2.2.2.2,s23,s22,s24) [1,2,3,4,5,6,7,9,8,10,0] Q Q) (have hq10:=rb hA4;wi hq10<|c1 Q (fun h=>fD (h.a h1)) fun u5 s25=>fun hq10=>match u5,hq10 with | _,rfl=>have hq11:=rn hA2;DU (0:Int) aW (fun w=>mM Q w) Q Q Q Q Q Q Q hq11 fun hq11 s26=>wi hF<|kZ (p:=((⟨x3,List.replicate ((2:Int).toNat) 0,List.replicate ((3:Int).toNat) (⟨false,(⟨0,0,0,0⟩:eU),0,0,(⟨0,0,0,0,0,0,0,0,0,false⟩:Sub),0,0,0,0⟩:bR),x4,[],0⟩:aA))) (s16.1,s16.2.1,s16.2.2.1,s16.2.2.2.1,s16.2.2.2.2.1,s16.2.2.2.2.2.1,s16.2.2.2.2.2.2,s26,s22,s25) [1,2,3,4,5,6,7,10,8,9,0] Q Q)) (have hq12:=rb hA4;wi hq12<|c1 Q (fun h=>fD (h.a h1)) fun u6 s27=>fun hq12=>match u6,hq12 with | _,rfl=>gE Q Q (have hq13:=rn hA2;DU (0:Int) aW (fun w=>mM Q w) Q Q Q Q Q Q Q hq13 fun hq13 s28=>have hq14:=rn hA3;DU ((⟨false,(⟨0,0,0,0⟩:eU),0,0,(⟨0,0,0,0,0,0,0,0,0,false⟩:Sub),0,0,0,0⟩:bR):bR) bS (fun w=>mM (tM (⟨false,(⟨0,0,0,0⟩:eU),0,0,(⟨0,0,0,0,0,0,0,0,0,false⟩:Sub),0,0,0,0⟩:bR)) w) Q Q Q Q Q Q Q hq14 fun hq14 s29=>wi hF<|kZ (p:=((⟨x3,List.replicate ((2:Int).toNat) 0,List.replicate ((3:Int).toNat) (⟨false,(⟨0,0,0,0⟩:eU),0,0,(⟨0,0,0,0,0,0,0,0,0,false⟩:Sub),0,0,0,0⟩:bR),x4,[],0⟩:aA))) (s16.1,s16.2.1,s16.2.2.1,s16.2.2.2.1,s16.2.2.2.2.1,s16.2.2.2.2.2.1,s16.2.2.2.2.2.2,s28,s29,s27) [1,2,3,4,5,6,7,9,10,8,0] Q Q) (have hq15:=rn hA3;DU ((⟨false,(⟨0,0,0,0⟩:eU),0,0,(⟨0,0,0,0,0,0,0,0,0,false⟩:Sub),0,0,0,0⟩:bR):bR) bS (fun w=>mM (tM (⟨false,(⟨0,0,0,0⟩:eU),0,0,(⟨0,0,0,0,0,0,0,0,0,false⟩:Sub),0,0,0,0⟩:bR)) w) Q Q Q Q Q Q Q hq15 fun hq15 s30=>have hq16:=rn hA2;DU (0:Int) aW (fun w=>mM Q w) Q Q Q Q Q Q Q hq16 fun hq16 s31=>wi hF<|kZ (p:=((⟨x3,List.replicate ((2:Int).toNat) 0,List.replicate ((3:Int).toNat) (⟨false,(⟨0,0,0,0⟩:eU),0,0,(⟨0,0,0,0,0,0,0,0,0,false⟩:Sub),0,0,0,0⟩:bR),x4,[],0⟩:aA))) (s16.1,s16.2.1,s16.2.2.1,s16.2.2.2.1,s16.2.2.2.2.1,s16.2.2.2.2.2.1,s16.2.2.2.2.2.2,s31,s30,s27) [1,2,3,4,5,6,7,10,9,8,0] Q Q))) (have hq17:=rn hA2;DU (0:Int) aW (fun w=>mM Q w) Q Q Q Q Q Q Q hq17 fun hq17 s32=>gE Q Q (have hq18:=rb hA1;wi hq18<|c1 Q (fun _=>vV) fun u7 s33=>fun hq18=>match u7,hq18 with | _,rfl=>gE Q Q (have hq19:=rn hA3;DU ((⟨false,(⟨0,0,0,0⟩:eU),0,0,(⟨0,0,0,0,0,0,0,0,0,false⟩:Sub),0,0,0,0⟩:bR):bR) bS (fun w=>mM (tM (⟨false,(⟨0,0,0,0⟩:eU),0,0,(⟨0,0,0,0,0,0,0,0,0,false⟩:Sub),0,0,0,0⟩:bR)) w) Q Q Q Q Q Q Q hq19 fun hq19 s34=>have hq20:=rb hA4;wi hq20<|c1 Q (fun h=>fD (h.a h1)) fun u8 s35=>fun hq20=>match u8,hq20 with | _,rfl=>wi hF<|kZ (p:=((⟨x3,List.replicate ((2:Int).toNat) 0,List.replicate ((3:Int).toNat) (⟨false,(⟨0,0,0,0⟩:eU),0,0,(⟨0,0,0,0,0,0,0,0,0,false⟩:Sub),0,0,0,0⟩:bR),x4,[],0⟩:aA))) (s33.1,s33.2.1,s33.2.2.1,s33.2.2.2.1,s33.2.2.2.2.1,s33.2.2.2.2.2.1,s33.2.2.2.2.2.2,s32,s34,s35) [2,3,4,5,6,7,8,1,9,10,0] Q Q) (have hq21:=rb hA4;wi hq21<|c1 Q (fun h=>fD (h.a h1)) fun u9 s36=>fun hq21=>match u9,hq21 with | _,rfl=>have hq22:=rn hA3;DU ((⟨false,(⟨0,0,0,0⟩:eU),0,0,(⟨0,0,0,0,0,0,0,0,0,false⟩:Sub),0,0,0,0⟩:bR):bR) bS (fun w=>mM (tM (⟨false,(⟨0,0,0,0⟩:eU),0,0,(⟨0,0,0,0,0,0,0,0,0,false⟩:Sub),0,0,0,0⟩:bR)) w) Q Q Q Q Q Q Q hq22 fun hq22 s37=>wi hF<|kZ (p:=((⟨x3,List.replicate ((2:Int).toNat) 0,List.replicate ((3:Int).toNat) (⟨false,(⟨0,0,0,0⟩:eU),0,0,(⟨0,0,0,0,0,0,0,0,0,false⟩:Sub),0,0,0,0⟩:bR),x4,[],0⟩:aA))) (s33.1,s33.2.1,s33.2.2.1,s33.2.2.2.1,s33.2.2.2.2.1,s33.2.2.2.2.2.1,s33.2.2.2.2.2.2,s32,s37,s36) [2,3,4,5,6,7,8,1,10,9,0] Q Q)) (have hq23:=rn hA3;DU ((⟨false,(⟨0,0,0,0⟩:eU),0,0,(⟨0,0,0,0,0,0,0,0,0,false⟩:Sub),0,0,0,0⟩:bR):bR) bS (fun w=>mM (tM (⟨false,(⟨0,0,0,0⟩:eU),0,0,(⟨0,0,0,0,0,0,0,0,0,false⟩:Sub),0,0,0,0⟩:bR)) w) Q Q Q Q Q Q Q hq23 fun hq23 s38=>have hq24:=rb hA1;wi hq24<|c1 Q (fun _=>vV) fun u10 s39=>fun hq24=>match u10,hq24 with | _,rfl=>have hq25:=rb hA4;wi hq25<|c1 Q (fun h=>fD (h.a h1)) fun u11 s40=>fun hq25=>match u11,hq25 with | _,rfl=>wi hF<|kZ (p:=((⟨x3,List.replicate ((2:Int).toNat) 0,List.replicate ((3:Int).toNat) (⟨false,(⟨0,0,0,0⟩:eU),0,0,(⟨0,0,0,0,0,0,0,0,0,false⟩:Sub),0,0,0,0⟩:bR),x4,[],0⟩:aA))) (s39.1,s39.2.1,s39.2.2.1,s39.2.2.2.1,s39.2.2.2.2.1,s39.2.2.2.2.2.1,s39.2.2.2.2.2.2,s32,s38,s40) [3,4,5,6,7,8,9,1,2,10,0] Q Q)) (have hq26:=rn hA3;DU ((⟨false,(⟨0,0,0,0⟩:eU),0,0,(⟨0,0,0,0,0,0,0,0,0,false⟩:Sub),0,0,0,0⟩:bR):bR) bS (fun w=>mM (tM (⟨false,(⟨0,0,0,0⟩:eU),0,0,(⟨0,0,0,0,0,0,0,0,0,false⟩:Sub),0,0,0,0⟩:bR)) w) Q Q Q Q Q Q Q hq26 fun hq26 s41=>gE Q Q (have hq27:=rb hA1;wi hq27<|c1 Q (fun _=>vV) fun u12 s42=>fun hq27=>match u12,hq27 with | _,rfl=>gE Q Q (have hq28:=rn hA2;DU (0:Int) aW (fun w=>mM Q w) Q Q Q Q Q Q Q hq28 fun hq28 s43=>have hq29:=rb hA4;wi hq29<|c1 Q (fun h=>fD (h.a h1)) fun u13 s44=>fun hq29=>match u13,hq29 with | _,rfl=>wi hF<|kZ (p:=((⟨x3,List.replicate ((2:Int).toNat) 0,List.replicate ((3:Int).toNat) (⟨false,(⟨0,0,0,0⟩:eU),0,0,(⟨0,0,0,0,0,0,0,0,0,false⟩:Sub),0,0,0,0⟩:bR),x4,[],0⟩:aA))) (s42.1,s42.2.1,s42.2.2.1,s42.2.2.2.1,s42.2.2.2.2.1,s42.2.2.2.2.2.1,s42.2.2.2.2.2.2,s43,s41,s44) [2,3,4,5,6,7,8,9,1,10,0] Q Q) (have hq30:=rb hA4;wi hq30<|c1 Q (fun h=>fD (h.a h1)) fun u14 s45=>fun hq30=>match u14,hq30 with | _,rfl=>have hq31:=rn hA2;DU (0:Int) aW (fun w=>mM Q w) Q Q Q Q Q Q Q hq31 fun hq31 s46=>wi hF<|kZ (p:=((⟨x3,List.replicate ((2:Int).toNat) 0,List.replicate ((3:Int).toNat) (⟨false,(⟨0,0,0,0⟩:eU),0,0,(⟨0,0,0,0,0,0,0,0,0,false⟩:Sub),0,0,0,0⟩:bR),x4,[],0⟩:aA))) (s42.1,s42.2.1,s42.2.2.1,s42.2.2.2.1,s42.2.2.2.2.1,s42.2.2.2.2.2.1,s42.2.2.2.2.2.2,s46,s41,s45) [2,3,4,5,6,7,8,10,1,9,0] Q Q)) (have hq32:=rn hA2;DU (0:Int) aW (fun w=>mM Q w) Q Q Q Q Q Q Q hq32 fun hq32 s47=>have hq33:=rb hA1;wi hq33<|c1 Q (fun _=>vV) fun u15 s48=>fun hq33=>match u15,hq33 with | _,rfl=>have hq34:=rb hA4;wi hq34<|c1 Q (fun h=>fD (h.a h1)) fun u16 s49=>fun hq34=>match u16,hq34 with | _,rfl=>wi hF<|kZ (p:=((⟨x3,List.replicate ((2:Int).toNat) 0,List.replicate ((3:Int).toNat) (⟨false,(⟨0,0,0,0⟩:eU),0,0,(⟨0,0,0,0,0,0,0,0,0,false⟩:Sub),0,0,0,0⟩:bR),x4,[],0⟩:aA))) (s48.1,s48.2.1,s48.2.2.1,s48.2.2.2.1,s48.2.2.2.2.1,s48.2.2.2.2.2.1,s48.2.2.2.2.2.2,s47,s41,s49) [3,4,5,6,7,8,9,2,1,10,0] Q Q))) fun x2 ⟨s2,s3,s4,s5,s6,s7,s8,s9,s10,s11⟩=>fun hF=>sR Q<|T6 Ev<|mD (hT:=tok) (s2,s3,s4,s5,s6,s7,s8,s9,s10,s11,⟨none,0⟩) [0,1,2,3,4,5,6,7,8,9,11] hF Q results53 Q Q Q Q
theorem XZ{x:fQ}{s1 s2:AC}(h1:aX κ s1 x.cE)(h2:aX κ s2 x.aY):VS prog κ 11 (CR x) [.g [.h s1 x.cE.length,.h s2 x.aY.length]] [] [] (fun r (y:DW)=>.g (yS r y)) (fun r y=>(zS r y [])):=
 cQ tok call11 func11 results11 Q Q<|c1 Q (fun h=>PH (h.a h1)) fun x1 s3=>bA [12] Q Q (eO s3 [2,3,4,5,6,7,8,9,10,11,12] Q Q)<|fun hF=>aYH Q Q Q Q<|aSJ Q Q Q Q Q h2 Q Q hF fun hF s4 h3=>wi hF<|OR (s3.1,s3.2.1,s3.2.2.1,s3.2.2.2.1,s3.2.2.2.2.1,s3.2.2.2.2.2.1,s3.2.2.2.2.2.2.1,s3.2.2.2.2.2.2.2.2.2.2) [2,3,20,21] (fun(p:Int×aA) (u:A8C)=>[(22,I p.1)]) [2,3,4,5,6,7,8,9,10,11,12,13,1] [1] (fun p u=>(oS p.2 u.1 u.2.1 u.2.2.1 u.2.2.2.1 u.2.2.2.2.1 u.2.2.2.2.2.1 u.2.2.2.2.2.2.1 s3.2.2.2.2.2.2.2.1 s3.2.2.2.2.2.2.2.2.1 s3.2.2.2.2.2.2.2.2.2.1 u.2.2.2.2.2.2.2 [.box 2 (gS p.2 u.1 u.2.1 u.2.2.1 u.2.2.2.1 u.2.2.2.2.1 u.2.2.2.2.2.1 u.2.2.2.2.2.2.1 s3.2.2.2.2.2.2.2.1 s3.2.2.2.2.2.2.2.2.1 s3.2.2.2.2.2.2.2.2.2.1 u.2.2.2.2.2.2.2)])) id [2,3] (fun(x6:aA) (u:A8C)=>[]) [1] (fun x6 u=>(oS x6 u.1 u.2.1 u.2.2.1 u.2.2.2.1 u.2.2.2.2.1 u.2.2.2.2.2.1 u.2.2.2.2.2.2.1 s3.2.2.2.2.2.2.2.1 s3.2.2.2.2.2.2.2.2.1 s3.2.2.2.2.2.2.2.2.2.1 u.2.2.2.2.2.2.2 [.box 2 (gS x6 u.1 u.2.1 u.2.2.1 u.2.2.2.1 u.2.2.2.2.1 u.2.2.2.2.2.1 u.2.2.2.2.2.2.1 s3.2.2.2.2.2.2.2.1 s3.2.2.2.2.2.2.2.2.1 s3.2.2.2.2.2.2.2.2.2.1 u.2.2.2.2.2.2.2)])) Q Q (fun hF1 ⟨x4,x5⟩ ⟨s13,s14,s15,s16,s17,s18,s19,s20⟩ hr1=>bA [23] Q Q (gG 2 3 (tT x4) [2,3,20,21,22] (fun(x7:aA) (u:A8C)=>[]) [12] (fun x7 u=>(oS x7 u.1 u.2.1 u.2.2.1 u.2.2.2.1 u.2.2.2.2.1 u.2.2.2.2.2.1 u.2.2.2.2.2.2.1 s3.2.2.2.2.2.2.2.1 s3.2.2.2.2.2.2.2.2.1 s3.2.2.2.2.2.2.2.2.2.1 u.2.2.2.2.2.2.2 [.box 2 (gS x7 u.1 u.2.1 u.2.2.1 u.2.2.2.1 u.2.2.2.2.1 u.2.2.2.2.2.1 u.2.2.2.2.2.2.1 s3.2.2.2.2.2.2.2.1 s3.2.2.2.2.2.2.2.2.1 s3.2.2.2.2.2.2.2.2.2.1 u.2.2.2.2.2.2.2)])) Q (NJ Q h3 Q fun x8=>c0 Q (fun _=>fE) fun x9=>bA [27] Q Q (dX 11 2 0 13 [0,1,2,3,4,5,6,7,8,9,10] Q Q Q Q Q (fun _=>K7) fun x10 s37=>kZ s37 [14,15,16,17,18,19,20,21,22,23,24,11,12] Q Q)<|kZ (s13,s14,s15,s16,s17,s18,s19,s20) [0,1,2,3,4,5,6,7,8,9,10,11,12] Q Q) fun x7 ⟨s29,s30,s31,s32,s33,s34,s35,s36⟩=>nxW (s29,s30,s31,s32,s33,s34,s35,s36) [0,1,2,3,4,5,6,7,8,9,10,11,12] Q)<|bkW (s13,s14,s15,s16,s17,s18,s19,s20) [0,1,2,3,4,5,6,7,8,9,10,11,12] Q) fun x6 ⟨s21,s22,s23,s24,s25,s26,s27,s28⟩=>eO (s21,s22,s23,s24,s25,s26,s27,s3.2.2.2.2.2.2.2.1,s3.2.2.2.2.2.2.2.2.1,s3.2.2.2.2.2.2.2.2.2.1,s28) [0,1,2,3,4,5,6,7,8,9,10] Q Q
theorem aDQ{b:List Int}{s1:AC}(h1:aX κ s1 b):V0 prog κ 275 (H8 b) [.h s1 b.length] .b:=
 cQ tok call275 func275 results275 Q Q<|GN 3 [0] [] Out.brk [0] [] Q Q (fun hF1 x2 hr1=>bA [7] Q Q (NJ Q h1 Q fun x3=>c0 Q (fun _=>bE) fun x4=>bA [15] Q Q (BG hr1 hF1<|cO Q Q)<|BE [] Q)<|yD [] Q)<|cO Q Q
theorem aDR{h:aE}{s1 s2:AC}(h1:aX κ s1 h.Bytes)(h2:aX κ s2 h.Class):V0 prog κ 199 (H9 h) [.g [.h s1 h.Bytes.length,.h s2 h.Class.length]] .b:=
 cQ tok call199 func199 results199 Q Q<|cX 0 1 (sG h) [1] 19 [0] Q (dQ [7,8] Q Q (bU [0] Q Q)<|dQ [12,13,14] Q Q (bU [0] Q Q)<|c0 Q (fun h=>aDQ (h.a h1)) fun x6=>bU [0] Q Q) fun x1=>bA [19] Q Q (cO Q Q)<|GN 3 [1] [0] Out.brk [] [] Q Q (fun hF2 x3 hr2=>bA [21] Q Q (NJ Q h2 Q fun x4=>c0 Q (fun _=>bE) fun x5=>bA [30] Q Q (BG hr2 hF2<|cO Q Q)<|BE [0] Q)<|yD [] Q)<|cO Q Q
theorem L4{b:List Int}{at_ width:Int}{s1:AC}(h1:aX κ s1 b):V0 prog κ 205 (uY b at_ width) [.h s1 b.length,I at_,I width] I:=
 cQ tok call205 func205 results205 Q Q<|OR () [0,1,2] (fun(p:Int×Int) (_:Unit)=>[(7,I p.1),(8,I p.2)]) [] [] (fun p _=>[]) id [] (fun(x5:Int) (_:Unit)=>[(7,I x5)]) [] (fun x5 _=>[]) Q Q (fun hF1 ⟨x3,x4⟩ _ hr1=>bA [11] Q Q (NJ Q h1 Q fun x6=>BE [] Q)<|yD [] Q) fun x5 _=>cO Q Q
theorem tI{c:Int}:V0 prog κ 146 (nW c) [I c] I:=
 cQ tok call146 func146 results146 Q Q<|bA [4,5] Q Q (cO Q Q)<|bA [6,7] Q Q (cO Q Q)<|bA [8,9] Q Q (cO Q Q)<|cO Q Q
theorem PI{c:Int}:V0 prog κ 280 (yP c) [I c] I:=
 cQ tok call280 func280 results280 Q Q<|c0 Q (fun _=>bE) fun x1=>bA [5] Q Q (cO Q Q)<|c0 Q (fun _=>tI) fun x2=>cO Q Q
theorem qN{c:Int}:V0 prog κ 276 (lZ c) [I c] I:=
 cQ tok call276 func276 results276 Q Q<|c0 Q (fun _=>bE) fun x1=>bA [5] Q Q (cO Q Q)<|c0 Q (fun _=>PI) fun x2=>fun hF=>aZZ Q Q Q Q hF fun hF=>wi hF<|cO Q Q
theorem L5{slot:Int}:V0 prog κ 278 (A1 slot) [I slot] I:=
 cQ tok call278 func278 results278 Q Q<|c0 Q (fun _=>bE) fun x1=>bA [5] Q Q (cO Q Q)<|cO Q Q
theorem JK{slot:Int}:V0 prog κ 279 (wS slot) [I slot] I:=
 cQ tok call279 func279 results279 Q Q<|c0 Q (fun _=>bE) fun x1=>bA [5] Q Q (cO Q Q)<|cO Q Q
theorem oK{slot c:Int}:V0 prog κ 206 (uZ slot c) [I slot,I c] I:=
 cQ tok call206 func206 results206 Q Q<|cX 0 0 (E5 slot c) [0,1] 16 [] Q (c0 Q (fun _=>L5) fun x5=>dQ [7,8] Q Q (bU [] Q Q)<|c0 Q (fun _=>JK) fun x6=>c0 Q (fun _=>qN) fun x7=>c0 Q (fun _=>bE) fun x8=>bU [] Q Q) fun x1=>bA [16] Q Q (cO Q Q)<|c0 Q (fun _=>L5) fun x2=>c0 Q (fun _=>JK) fun x3=>c0 Q (fun _=>PI) fun x4=>cO Q Q
theorem FK{page index:Int}:V0 prog κ 277 (qY page index) [I page,I index] I:=
 cQ tok call277 func277 results277 Q Q<|cX 0 0 (vA page index) [0,1] 12 [] Q (c0 Q (fun _=>bE) fun x2=>dQ [7,8] Q Q (bU [] Q Q)<|c0 Q (fun _=>bE) fun x3=>bU [] Q Q) fun x1=>bA [12] Q Q (cO Q Q)<|cO Q Q
theorem aF6{h:aE}{p:Int}{s1 s2:AC}(h1:aX κ s1 h.Bytes)(h2:aX κ s2 h.Class):V0 prog κ 200 (KQ h p) [.g [.h s1 h.Bytes.length,.h s2 h.Class.length],I p] .b:=
 cQ tok call200 func200 results200 Q Q<|NJ Q h2 Q fun x1=>bA [18] Q Q (GN 7 [2,5] [0] Out.brk [] [] Q Q (fun hF1 x3 hr1=>bA [23] Q Q (NJ Q h1 Q fun x4=>bA [31] Q Q (BG hr1 hF1<|cO Q Q)<|BE [0] Q)<|yD [] Q)<|cO Q Q)<|cX 0 2 (kG h p x1) [1,2,5,6] 58 [0] Q (eE aC [0,1] Q<|NJ Q h1 Q fun x16=>dQ [37,38] Q Q (bU [0] Q Q)<|NJ Q h1 Q fun x17=>dQ [46,47,48] Q Q (bU [0] Q Q)<|NJ Q h1 Q fun x18=>c0 Q (fun _=>qN) fun x19=>bU [0] Q Q) fun x5=>bA [58] Q Q (cO Q Q)<|GN 8 [1,2,5,6] [0] Out.brk [1,2,6] [0] Q Q (fun hF3 x7 hr3=>bA [64] Q Q (NJ Q h1 Q fun x15=>bA [72] Q Q (BG hr3 hF3<|cO Q Q)<|BE [0] Q)<|yD [0] Q)<|GN 9 [1,2,6] [0] Out.brk [] [] Q Q (fun hF4 x9 hr4=>c0 Q (fun _=>qN) fun x10=>bA [76] Q Q (eE aC [0] Q<|c0 Q (fun _=>FK) fun x11=>c0 Q (fun _=>oK) fun x12=>c0 Q (fun h=>L4 (h.a h1)) fun x13=>c0 Q (fun _=>bE) fun x14=>bA [88] Q Q (BG hr4 hF4<|cO Q Q)<|BE [0] Q)<|yD [] Q)<|cO Q Q
theorem aF7{h:aE}{s1 s2:AC}(h1:aX κ s1 h.Bytes)(h2:aX κ s2 h.Class):V0 prog κ 122 (KR h) [.g [.h s1 h.Bytes.length,.h s2 h.Class.length]] .b:=
 cQ tok call122 func122 results122 Q Q<|c0 Q (fun h=>aDR (h.a h1) (h.a h2)) fun x1=>bA [6] Q Q (cO Q Q)<|GN 3 [1] [0] Out.brk [] [] Q Q (fun hF1 x3 hr1=>bA [8] Q Q (c0 Q (fun h=>aF6 (h.a h1) (h.a h2)) fun x4=>bA [14] Q Q (BG hr1 hF1<|cO Q Q)<|BE [0] Q)<|yD [] Q)<|cO Q Q
theorem V6{l:aB}{s1 s2:AC}(h1:aX κ s1 l.Global)(h2:aX κ s2 l.Own):VS prog κ 201 (I6 l) [.g [.h s1 l.Global.length,.h s2 l.Own.length]] [] [] (fun r (y:AC)=>.h y r.length) (fun r y=>[ow y r]):=
 cQ tok call201 func201 results201 Q Q<|fun hF=>HE (α:=Int) aW Q Q Q Q fun s3=>wi hF<|OR s3 [1] (fun(p:(List Int)×Int) (s5:AC)=>[(3,.h s5 p.1.length),(4,I p.2)]) [1,0] [0] (fun p s5=>[ow s5 (p.1:List Int)]) id [1] (fun(x5:(List Int)) (s6:AC)=>[(3,.h s6 x5.length)]) [0] (fun x5 s6=>[ow s6 (x5:List Int)]) Q Q (fun hF1 ⟨x3,x4⟩ s5 hr1=>bA [11] Q Q (o4 qI Q h1 Q fun x12 s12 h4=>fun hG1=>ap 0 aW Q Q Q Q Q Q Q (fun h=>(h.a h4)) Q Q hG1 fun hG1 s13=>wi hG1<|nxW s13 [0,1] Q)<|bkW s5 [0,1] Q) fun x5 s6=>OR s6 [1] (fun(p:(List Int)×Int) (s8:AC)=>[(3,.h s8 p.1.length),(5,I p.2)]) [0,1] [1] (fun p s8=>[ow s8 (p.1:List Int)]) id [] (fun(x10:(List Int)) (s9:AC)=>[(3,.h s9 x10.length)]) [] (fun x10 s9=>[ow s9 (x10:List Int)]) Q Q (fun hF2 ⟨x8,x9⟩ s8 hr2=>bA [26] Q Q (o4 qI Q h2 Q fun x11 s10 h3=>fun hG2=>ap 0 aW Q Q Q Q Q Q Q (fun h=>(h.a h3)) Q Q hG2 fun hG2 s11=>wi hG2<|nxW s11 [0,1] Q)<|bkW s8 [0] Q) fun x10 s9=>eO s9 [0] Q Q
theorem N9{l:List Int}{x:Int}{s1:AC}(h1:aX κ s1 l):V0 prog κ 202 (EA l x) [.h s1 l.length,I x] .b:=
 cQ tok call202 func202 results202 Q Q<|GN 5 [0,1] [] Out.brk [] [] Q Q (fun hF1 x2 hr1=>bA [9] Q Q (NJ Q h1 Q fun x3=>bA [17] Q Q (BG hr1 hF1<|cO Q Q)<|BE [] Q)<|yD [] Q)<|cO Q Q
theorem aDS{l:aB}{s1 s2:AC}(h1:aX κ s1 l.Global)(h2:aX κ s2 l.Own):V0 prog κ 123 (IA l) [.g [.h s1 l.Global.length,.h s2 l.Own.length]] .b:=
 cQ tok call123 func123 results123 Q Q<|cX 0 1 (zU l) [1] 15 [0] Q (dQ [9,10] Q Q (bU [0] Q Q)<|bU [0] Q Q) fun x1=>bA [15] Q Q (cO Q Q)<|GN 3 [1] [0] Out.brk [1] [0] Q Q (fun hF2 x3 hr2=>bA [20] Q Q (o4 qI Q h2 Q fun x11 s4 h8=>bA [30] Q Q (BG hr2 hF2<|cO Q Q)<|BE [0] Q)<|yD [0] Q)<|c1 Q (fun h=>V6 (h.a h1) (h.a h2)) fun x4 s3=>GN 5 [4] [1] Out.brk [] [] Q Q (fun hF3 x6 hr3=>bA [36] Q Q (cX 0 1 (zT x6) [4,5] 54 [0] Q (eE aC [] Q<|lR oI 0 Q Q Q fun x8 h3 _ h4=>fun hG3=>iE 1 h4 h3 Q Q Q Q Q<|wi hG3<|c0 Q (fun _=>bE) fun x9=>dQ [44,45] Q Q (fun hG3=>sF Q<|kB oI 1 [] h3 () Q Q Q Q Q Q Q<|mC () [4] hG3 Q)<|fun hG3=>ME oI 1 [] h3 () Q Q Q Q Q Q Q Q Q<|cpc 4 Q Q fun hc1=>aMH hc1 Q Q Q Q Q Q hG3 fun hG3 h5=>have hq1:=rb h3;wi hq1<|lR oI 4 Q Q Q fun u1 h6 _ h7=>fun hq1=>iE 2 h7 h6 Q Q Q Q Q<|match u1,hq1 with | _,rfl=>ME oI 5 [] h6 () Q Q Q Q Q Q Q Q Q<|wi hG3<|c0 Q (fun h=>N9 ((h.o 8 Q).sub (HF h5.1 h5.2) h5)) fun x10=>bU [8] Q Q) fun x7=>bA [54] Q Q (BG hr3 hF3<|cO Q Q)<|BE [0] Q)<|yD [] Q)<|cO Q Q
theorem qO{h:aE}{slot:Int}{s1 s2:AC}(h1:aX κ s1 h.Bytes)(h2:aX κ s2 h.Class):V0 prog κ 203 (l4 h slot) [.g [.h s1 h.Bytes.length,.h s2 h.Class.length],I slot] I:=
 cQ tok call203 func203 results203 Q Q<|c0 Q (fun _=>L5) fun x1=>cX 0 1 (sH h x1) [2,5] 28 [0] Q (eE aC [0] Q<|dQ [9,10] Q Q (bU [0] Q Q)<|NJ Q h2 Q fun x4=>dQ [16,17,18] Q Q (bU [0] Q Q)<|NJ Q h2 Q fun x5=>c0 Q (fun _=>JK) fun x6=>c0 Q (fun _=>qN) fun x7=>bU [0] Q Q) fun x2=>bA [28] Q Q (cO Q Q)<|NJ Q h2 Q fun x3=>cO Q Q
theorem DK{h:aE}{slot:Int}{s1 s2:AC}(h1:aX κ s1 h.Bytes)(h2:aX κ s2 h.Class):V0 prog κ 127 (vC h slot) [.g [.h s1 h.Bytes.length,.h s2 h.Class.length],I slot] I:=
 cQ tok call127 func127 results127 Q Q<|eE aC [0] Q<|c0 Q (fun h=>qO (h.a h1) (h.a h2)) fun x1=>c0 Q (fun _=>oK) fun x2=>c0 Q (fun h=>L4 (h.a h1)) fun x3=>cO Q Q
theorem PJ{h:aE}{l:List Int}{c:Int}{s1 s2:AC}{s3:AC}(h1:aX κ s1 h.Bytes)(h2:aX κ s2 h.Class)(h3:aX κ s3 l):V0 prog κ 124 (yT h l c) [.g [.h s1 h.Bytes.length,.h s2 h.Class.length],.h s3 l.length,I c] .b:=
 cQ tok call124 func124 results124 Q Q<|GN 7 [1,2,3] [0] Out.brk [] [] Q Q (fun hF1 x2 hr1=>bA [11] Q Q (cX 0 1 (wT x2) [1,2,3,7] 30 [0] Q (eE aC [0] Q<|NJ Q h3 Q fun x4=>c0 Q (fun h=>qO (h.a h1) (h.a h2)) fun x5=>dQ [21,22] Q Q (bU [0] Q Q)<|NJ Q h3 Q fun x6=>c0 Q (fun h=>DK (h.a h1) (h.a h2)) fun x7=>bU [0] Q Q) fun x3=>bA [30] Q Q (BG hr1 hF1<|cO Q Q)<|BE [0] Q)<|yD [] Q)<|cO Q Q
theorem IL{w_ c:Int}:V0 prog κ 125 (rO w_ c) [I w_,I c] I:=
 cQ tok call125 func125 results125 Q Q<|cX 0 0 (yU w_ c) [0,1] 12 [] Q (c0 Q (fun _=>bE) fun x2=>dQ [7,8] Q Q (bU [] Q Q)<|c0 Q (fun _=>bE) fun x3=>bU [] Q Q) fun x1=>bA [12] Q Q (cO Q Q)<|cO Q Q
theorem V7{m:Mem}{s1 s2 s3 s4:AC}(h1:aX κ s1 m.aE.Bytes)(h2:aX κ s2 m.aE.Class)(h3:aX κ s3 m.aB.Global)(h4:aX κ s4 m.aB.Own):V0 prog κ 60 (I7 m) [.g (gM m s1 s2 s3 s4)] .b:=
 cQ tok call60 func60 results60 Q Q<|cX 0 1 (E6 m) [1] 14 [0] Q (c0 Q (fun h=>aF7 (h.a h1) (h.a h2)) fun x11=>aKJ [8,9] Q Q (fun hb6=>bU [0] Q Q) fun hb6=>c0 Q (fun h=>aDS (h.a h3) (h.a h4)) fun x12=>bU [0] Q Q) fun x1=>aKI [14] Q Q (fun hb1=>cO Q Q) fun hb1=>GN 3 [1] [0] Out.brk [] [] Q Q (fun hF2 x3 hr2=>aKI [16] Q Q (fun hb2=>eE aC [0] Q<|o4 qI Q h3 Q fun x4 s5 h5=>c0 Q (fun h=>PJ (h.a h1) (h.a h2) (h.a h5)) fun x5=>aKI [30] Q Q (fun hb3=>BG hr2 hF2<|cO Q Q) fun hb3=>GN 4 [1,3] [0] Out.brk [1,3] [0] Q Q (fun hF3 x7 hr3=>aKI [32] Q Q (fun hb4=>eE aC [0] Q<|c0 Q (fun _=>IL) fun x8=>o4 qI Q h4 Q fun x9 s6 h6=>c0 Q (fun h=>PJ (h.a h1) (h.a h2) (h.a h6)) fun x10=>aKI [48] Q Q (fun hb5=>BG hr3 hF3<|BG hr2 hF2<|cO Q Q) fun hb5=>BE [0] Q) fun hb4=>yD [0] Q)<|BE [0] Q) fun hb2=>yD [] Q)<|cO Q Q
theorem iK{h:Int}:V0 prog κ 63 (gT h) [I h] .b:=
 cQ tok call63 func63 results63 Q Q<|cX 0 0 wU [] 2 [] Q (c0 Q (fun _=>bE) fun x2=>dQ [4,5] Q Q (bU [] Q Q)<|bU [] Q Q) fun x1=>cO Q Q
theorem fP{h:Int}:V0 prog κ 20 (fB h) [I h] I:=
 cQ tok call20 func20 results20 Q Q<|c0 Q (fun _=>iK) fun x1=>bA [5] Q Q (cO Q Q)<|cO Q Q
theorem aF8{l:aB}{slot:Int}{s1 s2:AC}(h1:aX κ s1 l.Global)(h2:aX κ s2 l.Own):V0 prog κ 204 (KS l slot) [.g [.h s1 l.Global.length,.h s2 l.Own.length],I slot] .b:=
 cQ tok call204 func204 results204 Q Q<|c1 Q (fun h=>V6 (h.a h1) (h.a h2)) fun x1 s3=>c0 Q (fun h=>N9 (h.o 1 Q)) fun x2=>cO Q Q
theorem aDT{m:Mem}{slot:Int}{s1 s2 s3 s4:AC}(h1:aX κ s1 m.aE.Bytes)(h2:aX κ s2 m.aE.Class)(h3:aX κ s3 m.aB.Global)(h4:aX κ s4 m.aB.Own):V0 prog κ 126 (IB m slot) [.g (gM m s1 s2 s3 s4),I slot] I:=
 cQ tok call126 func126 results126 Q Q<|c0 Q (fun h=>qO (h.a h1) (h.a h2)) fun x1=>bA [5,10] Q Q (cO Q Q)<|c0 Q (fun h=>aF8 (h.a h3) (h.a h4)) fun x2=>bA [11,15] Q Q (cO Q Q)<|c0 Q (fun h=>DK (h.a h1) (h.a h2)) fun x3=>bA [16,21] Q Q (cO Q Q)<|cO Q Q
theorem X0{h:Int}:V0 prog κ 128 (CS h) [I h] I:=
 cQ tok call128 func128 results128 Q Q<|c0 Q (fun _=>iK) fun x1=>bA [5] Q Q (cO Q Q)<|cO Q Q
theorem JL{m:Mem}{h:Int}{s1 s2 s3 s4:AC}(h1:aX κ s1 m.aE.Bytes)(h2:aX κ s2 m.aE.Class)(h3:aX κ s3 m.aB.Global)(h4:aX κ s4 m.aB.Own):V0 prog κ 61 (wV m h) [.g (gM m s1 s2 s3 s4),I h] .b:=
 cQ tok call61 func61 results61 Q Q<|cX 0 1 sI [] 4 [] Q (eE aC [0] Q<|c0 Q (fun _=>iK) fun x2=>dQ [6,7] Q Q (c0 Q (fun _=>fP) fun x3=>c0 Q (fun h=>aDT (h.a h1) (h.a h2) (h.a h3) (h.a h4)) fun x4=>dQ [12,13,14] Q Q (c0 Q (fun _=>fP) fun x5=>c0 Q (fun h=>DK (h.a h1) (h.a h2)) fun x6=>c0 Q (fun _=>X0) fun x7=>bU [] Q Q)<|bU [] Q Q)<|bU [] Q Q) fun x1=>cO Q Q
theorem L6{l:List aS}{s1:AC}(h1:aX κ s1 l):VS prog κ 62 (A2 l) [.h s1 l.length] [] [] (fun r (y:AC)=>.h y r.length) (fun r y=>[ow y r]):=
 cQ tok call62 func62 results62 Q Q<|fun hF=>HE (α:=c9) jS Q Q Q Q fun s2=>wi hF<|OR s2 [0] (fun(p:(List c9)×Int) (s4:AC)=>[(3,.h s4 p.1.length),(4,I p.2)]) [0] [] (fun p s4=>[ow s4 (p.1:List c9)]) id [] (fun(x5:(List c9)) (s5:AC)=>[(3,.h s5 x5.length)]) [] (fun x5 s5=>[ow s5 (x5:List c9)]) Q Q (fun hF1 ⟨x3,x4⟩ s4 hr1=>bA [9] Q Q (o4 EI Q h1 Q fun x6 s6 h2=>fun hG1=>ap 0 jS Q Q Q Q Q Q Q (fun h=>(h.a h2)) Q Q hG1 fun hG1 s7=>wi hG1<|nxW s7 [0] Q)<|bkW s4 [0] Q) fun x5 s5=>eO s5 [0] Q Q
theorem aDU{l:List aS}{slot:Int}{s1:AC}(h1:aX κ s1 l):V0 prog κ 19 (IC l slot) [.h s1 l.length,I slot] .b:=
 cQ tok call19 func19 results19 Q Q<|c1 Q (fun h=>L6 (h.a h1)) fun x1 s2=>GN 6 [1,5] [0] Out.brk [] [] Q Q (fun hF1 x3 hr1=>bA [12] Q Q (cX 0 0 (sJ x3) [1,5,6] 30 [0] Q (lR qJ 0 Q Q Q fun x5 h2 _ h3=>fun hG1=>iE 0 h3 h2 Q Q Q Q Q<|wi hG1<|c0 Q (fun _=>iK) fun x6=>dQ [20,21] Q Q (fun hG1=>iE 0 h3 h2 Q Q Q Q Q<|wi hG1<|c0 Q (fun _=>fP) fun x7=>fun hG1=>sF Q<|kB qJ 1 [] h2 () Q Q Q Q Q Q Q<|mC () [4] hG1 Q)<|fun hG1=>sF Q<|kB qJ 1 [] h2 () Q Q Q Q Q Q Q<|mC () [4] hG1 Q) fun x4=>bA [30] Q Q (BG hr1 hF1<|cO Q Q)<|BE [0] Q)<|yD [] Q)<|cO Q Q
theorem vW{c:aH}{s1:AC}(h1:aX κ s1 c.bO):V0 prog κ 207 (nX c) [.g [I c.aL,.h s1 c.bO.length]] .b:=
 cQ tok call207 func207 results207 Q Q<|cX 0 1 (nD c) [1] 14 [0] Q (c0 Q (fun _=>bE) fun x10=>dQ [8,9] Q Q (bU [0] Q Q)<|bU [0] Q Q) fun x1=>bA [14] Q Q (cO Q Q)<|GN 3 [1] [0] Out.brk [] [] Q Q (fun hF2 x3 hr2=>bA [16] Q Q (o4 aDB Q h1 Q fun x4 _ _=>cX 0 3 (lG x3) [1,3] 45 [0] Q (dQ [26,27] Q Q (fun hG2=>neS eqGuardType100 stoodInHeld100 underlying100 (QZ 9997 x4 (⟨false,0,false,0⟩:o5)) Q Q Q Q Q Q<|wi hG2<|dQ [30,31,32] Q Q (bU [0] Q Q)<|c0 Q (fun _=>bE) fun x6=>dQ [38,39,40] Q Q (bU [0] Q Q)<|c0 Q (fun _=>bE) fun x7=>bU [0] Q Q)<|c0 Q (fun _=>bE) fun x8=>dQ [38,39,40] Q Q (bU [0] Q Q)<|c0 Q (fun _=>bE) fun x9=>bU [0] Q Q) fun x5=>bA [45] Q Q (BG hr2 hF2<|cO Q Q)<|BE [0] Q)<|yD [] Q)<|cO Q Q
theorem aDV{l:List aS}{s1:AC}(h1:aX κ s1 l):V0 prog κ 208 (ID l) [.h s1 l.length] .b:=
 cQ tok call208 func208 results208 Q Q<|c1 Q (fun h=>L6 (h.a h1)) fun x1 s2=>cX 0 0 (zV x1) [3] 16 [0] Q (dQ [11,12] Q Q (bU [0] Q Q)<|bU [0] Q Q) fun x2=>bA [16] Q Q (cO Q Q)<|fun hF=>HE (α:=Int) aW Q Q Q Q fun s3=>wi hF<|OR s3 [3] (fun(p:(List Int)×Int) (s5:AC)=>[(4,.h s5 p.1.length),(5,I p.2)]) [1,0] [0] (fun p s5=>[ow s5 (p.1:List Int)]) Out.brk [] (fun(_:Unit) (_:Unit)=>[]) [] (fun _ _=>[]) Q Q (fun hF2 ⟨x5,x6⟩ s5 hr2=>bA [21] Q Q (lR qJ 1 Q Q Q fun x7 h2 _ h3=>fun hG2=>iE 0 h3 h2 Q Q Q Q Q<|wi hG2<|c0 Q (fun _=>fP) fun x8=>gG 0 1 (sL x5 x6 x8) [3,4,5,6] (fun(x9:Bool) (_:Unit)=>[(45,.b x9)]) [0] (fun x9 _=>[ow s2 (x1:List c9)]) Q (dQ [31,32] Q Q (fun hG2=>sF Q<|kB qJ 2 [] h2 () Q Q Q Q Q Q Q<|mC () [5,0] hG2 Q)<|fun hG2=>iE 0 h3 h2 Q Q Q Q Q<|wi hG2<|c0 Q (fun _=>bE) fun x10=>dQ [39,40,41] Q Q (fun hG2=>sF Q<|kB qJ 2 [] h2 () Q Q Q Q Q Q Q<|mC () [5,0] hG2 Q)<|c0 Q (fun h=>N9 (h.o 0 Q)) fun x11=>fun hG2=>sF Q<|kB qJ 2 [] h2 () Q Q Q Q Q Q Q<|mC () [5,0] hG2 Q) fun x9 _=>bA [45] Q Q (BG hr2 hF2<|cO Q Q)<|fun hG2=>lt1 Q aW Q Q Q Q fun s6=>ap 1 aW Q Q Q Q Q Q Q (fun h=>(h.o 2 Q)) Q Q hG2 fun hG2 s7=>wi hG2<|nxW s7 [1,0] Q)<|yD [] Q) fun() _=>cO Q Q
theorem OA{z:List Int}{s1:AC}(h1:aX κ s1 z):V0 prog κ 209 (EB z) [.h s1 z.length] .b:=
 cQ tok call209 func209 results209 Q Q<|GN 3 [0] [] Out.brk [0] [] Q Q (fun hF1 x2 hr1=>bA [7] Q Q (cX 0 0 (E7 x2) [0,3] 22 [] Q (NJ Q h1 Q fun x4=>dQ [14,15] Q Q (NJ Q h1 Q fun x5=>c0 Q (fun _=>iK) fun x6=>bU [] Q Q)<|bU [] Q Q) fun x3=>bA [22] Q Q (BG hr1 hF1<|cO Q Q)<|BE [] Q)<|yD [] Q)<|cO Q Q
theorem aF9{b:aD}{s1 s2 s3 s4 s5 s6 s7:AC}(h1:aX κ s1 b.Mem.aE.Bytes)(h2:aX κ s2 b.Mem.aE.Class)(h3:aX κ s3 b.Mem.aB.Global)(h4:aX κ s4 b.Mem.aB.Own)(h5:aX κ s5 b.aH.bO)(h6:aX κ s6 b.aU)(h7:aX κ s7 b.mA):V0 prog κ 129 (KT b) [.g (gB b s1 s2 s3 s4 s5 s6 s7)] .b:=
 cQ tok call129 func129 results129 Q Q<|cX 0 1 (pZ b) [1] 26 [0] Q (c0 Q (fun h=>V7 (h.a h1) (h.a h2) (h.a h3) (h.a h4)) fun x8=>dQ [8,9] Q Q (bU [0] Q Q)<|c0 Q (fun h=>vW (h.a h5)) fun x9=>dQ [13,14,15] Q Q (bU [0] Q Q)<|c0 Q (fun h=>aDV (h.a h6)) fun x10=>dQ [19,20,21] Q Q (bU [0] Q Q)<|c0 Q (fun h=>OA (h.a h7)) fun x11=>bU [0] Q Q) fun x1=>bA [26] Q Q (cO Q Q)<|c1 Q (fun h=>L6 (h.a h6)) fun x2 s8=>GN 4 [1,3] [1,0] Out.brk [] [] Q Q (fun hF2 x4 hr2=>bA [33] Q Q (cX 0 1 (CT x4) [1,3,4] 55 [0,1] Q (eE aC [1] Q<|lR qJ 0 Q Q Q fun x6 h8 _ h9=>fun hG2=>iE 1 h9 h8 Q Q Q Q Q<|wi hG2<|c0 Q (fun h=>JL (h.a h1) (h.a h2) (h.a h3) (h.a h4)) fun x7=>dQ [44,45] Q Q (fun hG2=>sF Q<|kB qJ 2 [] h8 () Q Q Q Q Q Q Q<|mC () [5,1] hG2 Q)<|fun hG2=>iE 1 h9 h8 Q Q Q Q Q<|sF Q<|kB qJ 2 [] h8 () Q Q Q Q Q Q Q<|mC () [5,1] hG2 Q) fun x5=>bA [55] Q Q (BG hr2 hF2<|cO Q Q)<|BE [0,1] Q)<|yD [] Q)<|cO Q Q
theorem i7{h:Int}:V0 prog κ 130 (iI h) [I h] .b:=
 cQ tok call130 func130 results130 Q Q<|cX 0 0 zW [] 2 [] Q (dQ [4,5] Q Q (bU [] Q Q)<|c0 Q (fun _=>iK) fun x2=>bU [] Q Q) fun x1=>cO Q Q
theorem aDW{s:aA}{s1 s2 s3 s4 s5 s6 s7 s8 s9 s10 s11:AC}(h1:aX κ s1 s.aD.Mem.aE.Bytes)(h2:aX κ s2 s.aD.Mem.aE.Class)(h3:aX κ s3 s.aD.Mem.aB.Global)(h4:aX κ s4 s.aD.Mem.aB.Own)(h5:aX κ s5 s.aD.aH.bO)(h6:aX κ s6 s.aD.aU)(h7:aX κ s7 s.aD.mA)(h8:aX κ s8 s.Cells)(h9:aX κ s9 s.aQ)(h10:aX κ s10 s.cE)(h11:aX κ s11 s.Log):V0 prog κ 64 (wW s) [.g (gS s s1 s2 s3 s4 s5 s6 s7 s8 s9 s10 s11)] .b:=
 cQ tok call64 func64 results64 Q Q<|cX 0 1 (lH s) [1] 33 [0] Q (c0 Q (fun h=>aF9 (h.a h1) (h.a h2) (h.a h3) (h.a h4) (h.a h5) (h.a h6) (h.a h7)) fun x20=>dQ [9,10] Q Q (bU [0] Q Q)<|dQ [14,15,16] Q Q (bU [0] Q Q)<|dQ [20,21,22] Q Q (bU [0] Q Q)<|c0 Q (fun h=>Q1 (h.a h10)) fun x21=>dQ [26,27,28] Q Q (bU [0] Q Q)<|c0 Q (fun _=>bE) fun x22=>bU [0] Q Q) fun x1=>bA [33] Q Q (cO Q Q)<|GN 3 [1] [0] Out.brk [1] [0] Q Q (fun hF2 x3 hr2=>bA [35] Q Q (NJ Q h8 Q fun x18=>c0 Q (fun _=>i7) fun x19=>bA [44] Q Q (BG hr2 hF2<|cO Q Q)<|BE [0] Q)<|yD [0] Q)<|GN 4 [1] [0] Out.brk [] [] Q Q (fun hF3 x5 hr3=>bA [46] Q Q (o4 SI Q h9 Q fun x6 _ _=>cX 0 3 (eP x5) [1,4] 83 [0] Q (dQ [56,57] Q Q (fun hG3=>neS eqGuardType91 stoodInHeld91 underlying91 (T8 9996 x6 (⟨false,(⟨0,0,0,0⟩:eU),0,0,(⟨0,0,0,0,0,0,0,0,0,false⟩:Sub),0,0,0,0⟩:bR)) Q Q Q Q Q Q<|wi hG3<|dQ [60,61,62] Q Q (bU [0] Q Q)<|dQ [55,64,65] Q Q (c0 Q (fun _=>Q0) fun x8=>dQ [69,70,71,72] Q Q (bU [0] Q Q)<|c0 Q (fun _=>i7) fun x9=>dQ [76,77,78] Q Q (bU [0] Q Q)<|c0 Q (fun _=>i7) fun x10=>bU [0] Q Q)<|c0 Q (fun _=>i7) fun x11=>dQ [76,77,78] Q Q (bU [0] Q Q)<|c0 Q (fun _=>i7) fun x12=>bU [0] Q Q)<|dQ [55,64,65] Q Q (c0 Q (fun _=>Q0) fun x13=>dQ [69,70,71,72] Q Q (bU [0] Q Q)<|c0 Q (fun _=>i7) fun x14=>dQ [76,77,78] Q Q (bU [0] Q Q)<|c0 Q (fun _=>i7) fun x15=>bU [0] Q Q)<|c0 Q (fun _=>i7) fun x16=>dQ [76,77,78] Q Q (bU [0] Q Q)<|c0 Q (fun _=>i7) fun x17=>bU [0] Q Q) fun x7=>bA [83] Q Q (BG hr3 hF3<|cO Q Q)<|BE [0] Q)<|yD [] Q)<|cO Q Q
theorem Q7{c:gQ}{most:Int}{s1:AC}{b0:Nat×Nat}(h1:aX κ s1 c.b):VS prog κ 78 (CU c most) [.p 0 0,I most] [b0] [.box 0 [.h s1 c.b.length,I c.i,I c.h]] (fun(r:fQ×(Int×Int)) (y:AC×AC)=>.g [.h y.1 r.1.cE.length,.h y.2 r.1.aY.length]) (fun(r:fQ×(Int×Int)) (y:AC×AC)=>[.box 0 [.h s1 c.b.length,I r.2.1,I r.2.2],ow y.1 r.1.cE,ow y.2 r.1.aY]):=
 cQ tok call78 func78 results78 Q Q<|dX 0 0 0 3 [] Q Q Q Q Q (fun h=>Z1 (h.a h1)) fun x1 s2=>fun hF=>nw Queue Q<|wi hF<|OR ⟨none,0⟩ [0,4,5] (fun(p:Int×Int×Int×(List Queue)) (s4:AC)=>[(6,I p.1)]) [0,4,3,1,2] [1,2] (fun p s4=>[.box 0 [.h s1 c.b.length,I p.2.1,I p.2.2.1],ow s4 (p.2.2.2:List Queue),.box 2 [.h s4 p.2.2.2.length,.h s2 x1.1.length]]) id [0,4,5] (fun(p:Int×Int×(List Queue)) (s5:AC)=>[]) [1,2] (fun p s5=>[.box 0 [.h s1 c.b.length,I p.1,I p.2.1],ow s5 (p.2.2:List Queue),.box 2 [.h s5 p.2.2.length,.h s2 x1.1.length]]) Q Q (fun hF1 ⟨x6,x7,x8,x9⟩ s4 hr1=>bA [14] Q Q (dX 0 0 0 3 [] Q Q Q Q Q (fun h=>fK (c:=(⟨c.b,x7,x8⟩:gQ)) (h.a h1)) fun x13 _=>fun hG1=>nw eU Q<|wi hG1<|OR ⟨none,0⟩ [0,4,5,6,7] (fun(p:Int×Int×Int×(List eU)) (s7:AC)=>[(8,I p.1)]) [0,6,5,3,1,4,2] [3,1,4,2] (fun p s7=>[.box 0 [.h s1 c.b.length,I p.2.1,I p.2.2.1],ow s7 (p.2.2.2:List eU),.box 3 [.h s7 p.2.2.2.length]]) id [0,4,5,6,7] (fun(p:Int×Int×(List eU)) (s8:AC)=>[]) [3,1,4,2] (fun p s8=>[.box 0 [.h s1 c.b.length,I p.1,I p.2.1],ow s8 (p.2.2:List eU),.box 3 [.h s8 p.2.2.length]]) Q Q (fun hF2 ⟨x18,x19,x20,x21⟩ s7 hr2=>bA [22] Q Q (gG 0 4 (fun(p:Int×Int×(List eU))=>GW x18 p.1 p.2.1 p.2.2) [0,4,5,6,7,8] (fun(p:Int×Int×(List eU)) (s11:AC)=>[]) [3,4,5,6] (fun p s11=>[.box 0 [.h s1 c.b.length,I p.1,I p.2.1],ow s11 (p.2.2:List eU),.box 3 [.h s11 p.2.2.length]]) Q (eE aC [3,6] Q<|fun hG2=>bd hG2 fun x28 hA1 hG2=>bd hG2 fun x29 hA2 hG2=>nd hG2 fun hA3 hG2=>gE Q Q (have hq1:=rb hA1;wi hq1<|dX 0 0 0 3 [] Q Q Q Q Q (fun h=>fK (c:=(⟨c.b,x19,x20⟩:gQ)) (h.a h1)) fun u1 _=>fun hq1=>match u1,hq1 with | _,rfl=>have hq2:=rb hA2;wi hq2<|dX 0 0 0 3 [] Q Q Q Q Q (fun h=>fK (c:=(⟨c.b,x28.2.1,x28.2.2⟩:gQ)) (h.a h1)) fun u2 _=>fun hq2=>match u2,hq2 with | _,rfl=>T7 aKO [] ((⟨1,x28.1,aV (17+x29.1),x18⟩:eU)) () jR Q Q Q Q Q Q Q Q Q Q Q Q Q fun s14=>have hq3:=rn hA3;ap 1 jR Q Q Q Q Q Q Q (fun h=>(h.o 7 Q)) Q Q hq3 fun hq3 s15=>wi hG2<|kZ (p:=(x29.2.1,x29.2.2,x21++([(⟨1,x28.1,aV (17+x29.1),x18⟩:eU)]))) s15 [0,1,2,3,4,5,6] Q Q) (have hq4:=rb hA1;wi hq4<|dX 0 0 0 3 [] Q Q Q Q Q (fun h=>fK (c:=(⟨c.b,x19,x20⟩:gQ)) (h.a h1)) fun u3 _=>fun hq4=>match u3,hq4 with | _,rfl=>gE Q Q (have hq5:=rb hA2;wi hq5<|dX 0 0 0 3 [] Q Q Q Q Q (fun h=>fK (c:=(⟨c.b,x28.2.1,x28.2.2⟩:gQ)) (h.a h1)) fun u4 _=>fun hq5=>match u4,hq5 with | _,rfl=>T7 aKO [] ((⟨1,x28.1,aV (17+x29.1),x18⟩:eU)) () jR Q Q Q Q Q Q Q Q Q Q Q Q Q fun s16=>have hq6:=rn hA3;ap 1 jR Q Q Q Q Q Q Q (fun h=>(h.o 7 Q)) Q Q hq6 fun hq6 s17=>wi hG2<|kZ (p:=(x29.2.1,x29.2.2,x21++([(⟨1,x28.1,aV (17+x29.1),x18⟩:eU)]))) s17 [0,1,2,3,4,5,6] Q Q) (have hq7:=rb hA2;wi hq7<|dX 0 0 0 3 [] Q Q Q Q Q (fun h=>fK (c:=(⟨c.b,x28.2.1,x28.2.2⟩:gQ)) (h.a h1)) fun u5 _=>fun hq7=>match u5,hq7 with | _,rfl=>gE Q Q (T7 aKO [] ((⟨1,x28.1,aV (17+x29.1),x18⟩:eU)) () jR Q Q Q Q Q Q Q Q Q Q Q Q Q fun s18=>have hq8:=rn hA3;ap 1 jR Q Q Q Q Q Q Q (fun h=>(h.o 7 Q)) Q Q hq8 fun hq8 s19=>wi hG2<|kZ (p:=(x29.2.1,x29.2.2,x21++([(⟨1,x28.1,aV (17+x29.1),x18⟩:eU)]))) s19 [0,1,2,3,4,5,6] Q Q) (T7 aKO [] ((⟨1,x28.1,aV (17+x29.1),x18⟩:eU)) () jR Q Q Q Q Q Q Q Q Q Q Q Q Q fun s20=>have hq9:=rn hA3;ap 1 jR Q Q Q Q Q Q Q (fun h=>(h.o 7 Q)) Q Q hq9 fun hq9 s21=>wi hG2<|kZ (p:=(x29.2.1,x29.2.2,x21++([(⟨1,x28.1,aV (17+x29.1),x18⟩:eU)]))) s21 [0,1,2,3,4,5,6] Q Q)))) fun⟨x25,x26,x27⟩ s11=>nxW s11 [0,1,2,3,4,5,6] Q)<|bkW s7 [0,1,2,3,4,5,6] Q) fun⟨x22,x23,x24⟩ s8=>fun hG1=>T7 vP [1] ((⟨x24⟩:Queue)) s8 qZ Q Q Q Q Q Q Q Q Q Q Q Q Q fun s9=>apN 4 7 qZ Q Q Q Q Q Q Q Q Q Q Q hG1 fun hG1 s10=>wi hG1<|nxW s10 [0,8,6,3,5] Q)<|bkW s4 [0,1,2,3,4] Q) fun⟨x10,x11,x12⟩ s5=>eO (s5,s2) [0,1,4] Q Q
theorem SL{code:List UInt8}{s1:AC}(h1:aX κ s1 code):VS prog κ 34 (tU code) [.h s1 code.length] [] [] (fun r (y:AC×AC)=>.g [.h y.1 r.cE.length,.h y.2 r.aY.length]) (fun r y=>[ow y.1 r.cE,ow y.2 r.aY]):=
 cQ tok call34 func34 results34 Q Q<|cP Q (fun h=>VV (h.a h1)) fun x1=>dX 1 1 0 3 [] Q Q Q Q Q (fun h=>Q7 (c:=(⟨code,x1.1,x1.2⟩:gQ)) (h.a h1)) fun x2 s2=>eO (s2.1,s2.2) [2,3] Q Q
theorem aIO{s:aA}{s1 s2 s3 s4 s5 s6 s7 s8 s9 s10 s11:AC}(h1:aX κ s1 s.aD.Mem.aE.Bytes)(h2:aX κ s2 s.aD.Mem.aE.Class)(h3:aX κ s3 s.aD.Mem.aB.Global)(h4:aX κ s4 s.aD.Mem.aB.Own)(h5:aX κ s5 s.aD.aH.bO)(h6:aX κ s6 s.aD.aU)(h7:aX κ s7 s.aD.mA)(h8:aX κ s8 s.Cells)(h9:aX κ s9 s.aQ)(h10:aX κ s10 s.cE)(h11:aX κ s11 s.Log):VS prog κ 35 (N0 s) [.g (gS s s1 s2 s3 s4 s5 s6 s7 s8 s9 s10 s11)] [] [] (fun r (y:AC)=>.h y r.length) (fun r y=>[ow y r]):=
 cQ tok call35 func35 results35 Q Q<|fun hF=>HE (α:=Ev) bJ Q Q Q Q fun s12=>wi hF<|OR s12 [8,9] (fun(p:(List Ev)×Int) (s14:AC)=>[(3,.h s14 p.1.length),(10,I p.2)]) [1] [] (fun p s14=>[ow s14 (p.1:List Ev)]) id [] (fun(x5:(List Ev)) (s15:AC)=>[(3,.h s15 x5.length)]) [] (fun x5 s15=>[ow s15 (x5:List Ev)]) Q Q (fun hF1 ⟨x3,x4⟩ s14 hr1=>bA [11] Q Q (gG 2 1 (E8 x4) [8,9,10] (fun(x6:(List Ev)) (s16:AC)=>[(3,.h s16 x6.length)]) [] (fun x6 s16=>[ow s16 (x6:List Ev)]) Q (o4 cEv Q h11 Q fun x7 _ _=>bA [16] Q Q (fun hG1=>T7 oEv [] (x7) () bJ Q Q Q Q Q Q Q Q Q Q Q Q Q fun s17=>ap 0 bJ Q Q Q Q Q Q Q (fun h=>(h.o 3 Q)) Q Q hG1 fun hG1 s18=>wi hG1<|kZ s18 [0] Q Q)<|kZ s14 [0] Q Q) fun x6 s16=>nxW s16 [0] Q)<|bkW s14 [0] Q) fun x5 s15=>eO s15 [0] Q Q
theorem M9{h:aE}{s1 s2:AC}(h1:aX κ s1 h.Bytes)(h2:aX κ s2 h.Class):V0 prog κ 36 (kH h) [.g [.h s1 h.Bytes.length,.h s2 h.Class.length]] I:=
 cQ tok call36 func36 results36 Q Q<|OR () [1] (fun(p:Int×Int) (_:Unit)=>[(3,I p.1),(4,I p.2)]) [0] [0] (fun p _=>[]) id [] (fun(x5:Int) (_:Unit)=>[(3,I x5)]) [] (fun x5 _=>[]) Q Q (fun hF1 ⟨x3,x4⟩ _ hr1=>bA [9] Q Q (gG 2 1 (tV x4) [1,4] (fun(x6:Int) (_:Unit)=>[(3,I x6)]) [0] (fun x6 _=>[]) Q (NJ Q h2 Q fun x7=>bA [17] Q Q (bU [0] Q Q)<|bU [0] Q Q) fun x6 _=>BE [0] Q)<|yD [] Q) fun x5 _=>cO Q Q
theorem aAH{x:fQ}{s1 s2:AC}(h1:aX κ s1 x.cE)(h2:aX κ s2 x.aY):VS prog κ 37 (E9 x) [.g [.h s1 x.cE.length,.h s2 x.aY.length]] [] [] (fun r (y:AC)=>.h y r.length) (fun r y=>[ow y r]):=
 cQ tok call37 func37 results37 Q Q<|c1 Q (fun h=>PH (h.a h1)) fun x1 s3=>bA [13] Q Q (fun hF=>sR Q<|T6 aA<|mD (hT:=tok) ⟨none,0⟩ [13] hF Q results37 Q Q Q Q)<|c1 Q (fun h=>M5 (h.o 1 Q) (h.o 2 Q) (h.o 3 Q) (h.o 4 Q) (h.o 5 Q) (h.o 6 Q) (h.o 7 Q) (h.o 8 Q) (h.o 9 Q) (h.o 10 Q) (h.o 11 Q)) fun x2 s4=>fun hF=>T7 G4 [13,14,15,16,17,18,19,20,21,22,23] (x2) s4 vO Q Q Q Q Q Q Q Q Q Q Q Q Q fun s5=>aYH Q Q Q Q<|aSJ Q Q Q Q Q h2 Q Q hF fun hF s6 h3=>wi hF<|OR (s5,s3.1,s3.2.1,s3.2.2.1,s3.2.2.2.1,s3.2.2.2.2.1,s3.2.2.2.2.2.1,s3.2.2.2.2.2.2.1,s3.2.2.2.2.2.2.2.2.2.2) [3,23,24] (fun(p:(List aA)×Int×aA) (u:A9C)=>[(4,.h u.1 p.1.length),(25,I p.2.1)]) [24,1,2,3,4,5,6,7,8,9,10,11,12] [] (fun p u=>([ow u.1 (p.1:List aA)]++(oS p.2.2 u.2.1 u.2.2.1 u.2.2.2.1 u.2.2.2.2.1 u.2.2.2.2.2.1 u.2.2.2.2.2.2.1 u.2.2.2.2.2.2.2.1 s3.2.2.2.2.2.2.2.1 s3.2.2.2.2.2.2.2.2.1 s3.2.2.2.2.2.2.2.2.2.1 u.2.2.2.2.2.2.2.2 [.box 1 (gS p.2.2 u.2.1 u.2.2.1 u.2.2.2.1 u.2.2.2.2.1 u.2.2.2.2.2.1 u.2.2.2.2.2.2.1 u.2.2.2.2.2.2.2.1 s3.2.2.2.2.2.2.2.1 s3.2.2.2.2.2.2.2.2.1 s3.2.2.2.2.2.2.2.2.2.1 u.2.2.2.2.2.2.2.2)]))) id [] (fun(x9:(List aA)) (s25:AC)=>[(4,.h s25 x9.length)]) [] (fun x9 s25=>[ow s25 (x9:List aA)]) Q Q (fun hF1 ⟨x6,x7,x8⟩ ⟨s16,s17,s18,s19,s20,s21,s22,s23,s24⟩ hr1=>bA [26] Q Q (gG 2 2 (fun(p:(List aA)×aA)=>wX x7 p.1 p.2) [3,23,24,25] (fun(p:(List aA)×aA) (u:A9C)=>[(4,.h u.1 p.1.length)]) [] (fun p u=>([ow u.1 (p.1:List aA)]++(oS p.2 u.2.1 u.2.2.1 u.2.2.2.1 u.2.2.2.2.1 u.2.2.2.2.2.1 u.2.2.2.2.2.2.1 u.2.2.2.2.2.2.2.1 s3.2.2.2.2.2.2.2.1 s3.2.2.2.2.2.2.2.2.1 s3.2.2.2.2.2.2.2.2.2.1 u.2.2.2.2.2.2.2.2 [.box 1 (gS p.2 u.2.1 u.2.2.1 u.2.2.2.1 u.2.2.2.2.1 u.2.2.2.2.2.1 u.2.2.2.2.2.2.1 u.2.2.2.2.2.2.2.1 s3.2.2.2.2.2.2.2.1 s3.2.2.2.2.2.2.2.2.1 s3.2.2.2.2.2.2.2.2.2.1 u.2.2.2.2.2.2.2.2)]))) Q (NJ Q h3 Q fun x12=>c0 Q (fun _=>fE) fun x13=>bA [30] Q Q (dX 12 1 0 13 [1,2,3,4,5,6,7,8,9,10,11] Q Q Q Q Q (fun _=>K7) fun x14 s35=>c1 Q (fun h=>M5 (h.o 14 Q) (h.o 15 Q) (h.o 16 Q) (h.o 17 Q) (h.o 18 Q) (h.o 19 Q) (h.o 20 Q) (h.o 21 Q) (h.o 22 Q) (h.o 23 Q) (h.o 24 Q)) fun x15 s36=>fun hG1=>T7 G4 [25,26,27,28,29,30,31,32,33,34,35] (x15) s36 vO Q Q Q Q Q Q Q Q Q Q Q Q Q fun s37=>apN 0 36 vO Q Q Q Q Q Q Q Q Q Q Q hG1 fun hG1 s38=>wi hG1<|kZ (p:=(x6++([x15]),x14)) (s38,s35.1,s35.2.1,s35.2.2.1,s35.2.2.2.1,s35.2.2.2.2.1,s35.2.2.2.2.2.1,s35.2.2.2.2.2.2.1,s35.2.2.2.2.2.2.2) [37,14,15,16,17,18,19,20,21,22,23,24,12] Q Q)<|kZ (p:=(x6,x8)) (s16,s17,s18,s19,s20,s21,s22,s23,s24) [0,1,2,3,4,5,6,7,8,9,10,11,12] Q Q) fun⟨x10,x11⟩ ⟨s26,s27,s28,s29,s30,s31,s32,s33,s34⟩=>nxW (s26,s27,s28,s29,s30,s31,s32,s33,s34) [0,1,2,3,4,5,6,7,8,9,10,11,12] Q)<|bkW s16 [0] Q) fun x9 s25=>eO s25 [0] Q Q
theorem y5{kind a_:Int}:V0 prog κ 224 (fZ kind a_) [I kind,I a_] (fun r=>.g [I r.Kind,I r.A,I r.Pc,I r.E,I r.Row,I r.B,I r.H,I r.Out,I r.Code,.b r.cS]):=
 cQ tok call224 func224 results224 Q Q<|cO Q Q
theorem aAI{s:aA}{w_:Int}{s1 s2 s3 s4 s5 s6 s7 s8 s9 s10 s11:AC}:VS prog κ 152 (tB s w_) [.g (gS s s1 s2 s3 s4 s5 s6 s7 s8 s9 s10 s11),I w_] [] (oS s s1 s2 s3 s4 s5 s6 s7 s8 s9 s10 s11 []) (fun(r:aA) (y:DW)=>.g (yS r y)) (fun(r:aA) (y:DW)=>(zS r y [])):=
 cQ tok call152 func152 results152 Q Q<|cX 0 2 (p7 s w_) [1,2,4] 19 [0,1,2,3,4,5,6,7,8,9,10,11,12] Q (lR vP 9 Q Q Q fun x11 h10 s15 h11=>fun hF=>iE 2 h11 h10 Q Q Q Q Q<|wi hF<|dQ [14,15] Q Q (fun hF=>sF Q<|kB vP 13 [16] h10 s15 Q Q Q Q Q Q Q<|mC () [0,1,2,3,4,5,6,7,8,17,10,11,12] hF Q)<|fun hF=>sF Q<|kB vP 13 [16] h10 s15 Q Q Q Q Q Q Q<|mC () [0,1,2,3,4,5,6,7,8,17,10,11,12] hF Q) fun x1=>bA [19] Q Q (eO (s1,s2,s3,s4,s5,s6,s7,s8,s9,s10,s11) [0,1,2,3,4,5,6,7,8,9,10] Q Q)<|lR vP 9 Q Q Q fun x2 h1 s12 h2=>fun hF=>iE 2 h2 h1 Q Q Q Q Q<|wi hF<|lR aKO 16 Q Q Q fun x3 h3 _ h4=>fun hF=>iE 3 h4 h3 Q Q Q Q Q<|ME aKO 17 [] h3 () Q Q Q Q Q Q Q Q Q<|wi hF<|eE aC [11,12,15,19,20] Q<|fun hF=>iE 2 h2 h1 Q Q Q Q Q<|cpc 21 Q Q fun hc1=>Y5 hc1 Q Q Q Q Q Q hF fun hF h5=>iE 2 h2 h1 Q Q Q Q Q<|wi hF<|gG 1 6 (dZ s w_ x2 x3) [1,2,4,5,6] (fun(x4:bR) (_:Unit)=>[]) [0,1,2,3,4,5,6,7,8,10,12,20] (fun x4 _=>[ow s10 (s.cE.set w_.toNat (⟨(x2.jJ.take x2.jJ.length).drop ((1:Int).toNat)⟩:Queue):List Queue),.box 0 [.h s1 s.aD.Mem.aE.Bytes.length,.h s2 s.aD.Mem.aE.Class.length,.h s3 s.aD.Mem.aB.Global.length,.h s4 s.aD.Mem.aB.Own.length,I s.aD.aH.aL,.h s5 s.aD.aH.bO.length,.h s6 s.aD.aU.length,.h s7 s.aD.mA.length,.h s8 s.Cells.length,.h s9 s.aQ.length,.h s10 (s.cE.set w_.toNat (⟨(x2.jJ.take x2.jJ.length).drop ((1:Int).toNat)⟩:Queue)).length,.h s11 s.Log.length,I (aV (s.aJ+1))],.box 5 [.b x4.fV,I x4.Op.Kind,I x4.Op.Cell,I x4.Op.dU,I x4.Op.eH,I x4.aJ,I x4.Pc,I x4.Sub.Kind,I x4.Sub.A,I x4.Sub.Pc,I x4.Sub.E,I x4.Sub.Row,I x4.Sub.B,I x4.Sub.H,I x4.Sub.Out,I x4.Sub.Code,.b x4.Sub.cS,I x4.H,I x4.Old,I x4.eH,I x4.Code]]) Q (bA [51,52] Q Q (c0 Q (fun _=>y5) fun x6=>fun hF=>sF Q<|poR 21 ((1:Int).toNat) x2.jJ.length Q Q h5 Q<|lN vP 13 [21] [22,30,33] (⟨(x2.jJ.take x2.jJ.length).drop ((1:Int).toNat)⟩:Queue) (AC.sub s12 4 ((1:Int).toNat)) Q Q Q Q Q Q Q Q<|oN s10 b9.symm [] [(11,10)] Q Q Q<|fR Q Q<|mC () [23,11,22,0,1,2,3,4,5,6,7,8,10,12,20] hF Q)<|gG 0 6 (hC s w_ x2 x3) [1,2,4,5,6,50] (fun(x7:Bool) (_:Unit)=>[(57,.b x7)]) [0,1,2,3,4,5,6,7,8,10,12,20,22] (fun x7 _=>[ow s10 (s.cE.set w_.toNat (⟨(x2.jJ.take x2.jJ.length).drop ((1:Int).toNat)⟩:Queue):List Queue),.box 0 [.h s1 s.aD.Mem.aE.Bytes.length,.h s2 s.aD.Mem.aE.Class.length,.h s3 s.aD.Mem.aB.Global.length,.h s4 s.aD.Mem.aB.Own.length,I s.aD.aH.aL,.h s5 s.aD.aH.bO.length,.h s6 s.aD.aU.length,.h s7 s.aD.mA.length,.h s8 s.Cells.length,.h s9 s.aQ.length,.h s10 (s.cE.set w_.toNat (⟨(x2.jJ.take x2.jJ.length).drop ((1:Int).toNat)⟩:Queue)).length,.h s11 s.Log.length,I (aV (s.aJ+1))]]) Q (bA [57,58] Q Q (fun hF=>sF Q<|poR 21 ((1:Int).toNat) x2.jJ.length Q Q h5 Q<|lN vP 13 [21] [22,30,33] (⟨(x2.jJ.take x2.jJ.length).drop ((1:Int).toNat)⟩:Queue) (AC.sub s12 4 ((1:Int).toNat)) Q Q Q Q Q Q Q Q<|oN s10 b9.symm [] [(11,10)] Q Q Q<|fR Q Q<|mC () [23,11,0,1,2,3,4,5,6,7,8,10,12,20,22] hF Q)<|fun hF=>sF Q<|poR 21 ((1:Int).toNat) x2.jJ.length Q Q h5 Q<|lN vP 13 [21] [22,30,33] (⟨(x2.jJ.take x2.jJ.length).drop ((1:Int).toNat)⟩:Queue) (AC.sub s12 4 ((1:Int).toNat)) Q Q Q Q Q Q Q Q<|oN s10 b9.symm [] [(11,10)] Q Q Q<|fR Q Q<|mC () [23,11,0,1,2,3,4,5,6,7,8,10,12,20,22] hF Q) fun x7 _=>bA [57] Q Q (c0 Q (fun _=>y5) fun x8=>lR sN 6 Q Q Q fun x9 h8 _ h9=>fun hF=>iE 6 h9 h8 Q Q Q Q Q<|wi hF<|bA [69] Q Q (fun hF=>sF Q<|kB sN 15 [] h8 () Q Q Q Q Q Q Q<|mC () [0,1,14,2,3,4,5,18,7,8,9,10,11,12,13] hF Q)<|fun hF=>sF Q<|kB sN 15 [] h8 () Q Q Q Q Q Q Q<|mC () [0,1,14,2,3,4,5,18,7,8,9,10,11,12,13] hF Q)<|bA [72,73] Q Q (c0 Q (fun _=>y5) fun x10=>bU [0,1,14,2,3,4,5,6,7,8,9,10,11,12,13] Q Q)<|bU [0,1,14,2,3,4,5,6,7,8,9,10,11,12,13] Q Q) fun x4 _=>lR b8 11 Q Q Q fun x5 h6 _ h7=>fun hF=>iE 6 h7 h6 Q Q Q Q Q<|T7 oEv [] ((⟨1,w_,aV (s.aJ+1),x3.Cell,0,0,0⟩:Ev)) () bJ Q Q Q Q Q Q Q Q Q Q Q Q Q fun s13=>ap 12 bJ Q Q Q Q Q Q Q (fun h=>(h.o 18 Q)) Q Q hF fun hF s14=>sR Q<|lN b8 15 [] [77] x4 () Q Q Q Q Q Q Q Q<|oN s9 b9.symm [(92,9)] [(1,9),(13,9)] Q Q Q<|fR Q Q<|mD (hT:=tok) (s1,s2,s3,s4,s5,s6,s7,s8,s9,s10,s14) [3,4,5,6,7,8,9,10,19,0,12] hF Q results152 Q Q Q Q
theorem Q8{size:Int}:V0 prog κ 81 (j6 size) [I size] I:=
 cQ tok call81 func81 results81 Q Q<|GN 3 [0] [] Out.brk [] [] Q Q (fun hF1 x2 hr1=>bA [5] Q Q (c0 Q (fun _=>tI) fun x3=>c0 Q (fun _=>bE) fun x4=>bA [11] Q Q (BG hr1 hF1<|cO Q Q)<|BE [] Q)<|yD [] Q)<|cO Q Q
theorem dK{s:Sub}{code:Int}:V0 prog κ 294 (bK s code) [.g [I s.Kind,I s.A,I s.Pc,I s.E,I s.Row,I s.B,I s.H,I s.Out,I s.Code,.b s.cS],I code] (fun r=>.g [I r.Kind,I r.A,I r.Pc,I r.E,I r.Row,I r.B,I r.H,I r.Out,I r.Code,.b r.cS]):=
 cQ tok call294 func294 results294 Q Q<|cO Q Q
theorem V8{s:aK}{s1:AC}:VS prog κ 329 (oQ s) [.g [.h s1 s.aM.length]] [] [ow s1 (s.aM:List Int)] (fun(r:aK×Int) (y:AC)=>.t [.g [.h y r.1.aM.length],I r.2]) (fun(r:aK×Int) (y:AC)=>[ow y r.1.aM]):=
 cQ tok call329 func329 results329 Q Q<|bA [9] Q Q (eO s1 [0] Q Q)<|gG 0 2 (FA s) [2] (fun(x1:Int) (_:Unit)=>[(3,I x1)]) [] (fun x1 _=>[ow (AC.sub s1 1 0) ((s.aM.take ((aV ((s.aM.length:Int) - 1)).toNat)).drop 0:List Int),.box 1 [.h (AC.sub s1 1 0) ((s.aM.take ((aV ((s.aM.length:Int) - 1)).toNat)).drop 0).length]]) Q (eE aC [1] Q<|fun hF=>cpc 0 Q Q fun hc1=>aMH hc1 Q Q Q Q Q Q hF fun hF h1=>wi hF<|lR oI 0 Q Q Q fun x2 h2 _ h3=>fun hF=>iE 2 h3 h2 Q Q Q Q Q<|gE Q Q (sF Q<|kB oI 3 [] h2 () Q Q Q Q Q Q Q<|poR 6 0 ((aV ((s.aM.length:Int) - 1)).toNat) Q Q h1 Q<|mC (p:=(x2)) () [6,2] hF Q) (sF Q<|kB oI 3 [] h2 () Q Q Q Q Q Q Q<|poR 6 0 ((aV ((s.aM.length:Int) - 1)).toNat) Q Q h1 Q<|mC (p:=(x2)) () [6,2] hF Q)) fun x1 _=>eO (AC.sub s1 1 0) [0] Q Q
theorem qP{b:List Int}{at_ width n:Int}{s1:AC}:VS prog κ 297 (rP b at_ width n) [.h s1 b.length,I at_,I width,I n] [] [ow s1 (b:List Int)] (fun(r:(List Int)) (y:AC)=>.h y r.length) (fun(r:(List Int)) (y:AC)=>[ow y r]):=
 cQ tok call297 func297 results297 Q Q<|OR () [1] (fun(p:(List Int)×Int×Int) (_:Unit)=>[(0,.h s1 p.1.length),(3,I p.2.1),(9,I p.2.2)]) [0] [] (fun p _=>[ow s1 (p.1:List Int)]) id [] (fun(x7:(List Int)) (_:Unit)=>[(0,.h s1 x7.length)]) [] (fun x7 _=>[ow s1 (x7:List Int)]) Q Q (fun hF1 ⟨x4,x5,x6⟩ _ hr1=>bA [13] Q Q (lR oI 0 Q Q Q fun x8 h1 _ h2=>fun hG1=>iE 0 h2 h1 Q Q Q Q Q<|sF Q<|lN oI 1 [] [0,16] (Int.tmod x5 256) () Q Q Q Q Q Q Q Q<|nxR () [4] hG1 Q)<|yD [0] Q) fun x7 _=>eO s1 [0] Q Q
theorem aDX{h:aE}{c:Int}{s1 s2:AC}:VS prog κ 352 (nZ h c) [.g [.h s1 h.Bytes.length,.h s2 h.Class.length],I c] [] [ow s1 (h.Bytes:List Int),ow s2 (h.Class:List Int)] (fun(r:aE×(List Int)) (y:AC×AC×AC)=>.t [.g [.h y.1 r.1.Bytes.length,.h y.2.1 r.1.Class.length],.h y.2.2 r.2.length]) (fun(r:aE×(List Int)) (y:AC×AC×AC)=>[ow y.1 r.1.Bytes,ow y.2.1 r.1.Class,ow y.2.2 r.2]):=
 cQ tok call352 func352 results352 Q Q<|GN 6 [1,2,4] [0,1,2,3] Out.brk [2,4] [0,1,2,3] Q Q (fun hF1 x2 hr1=>bA [11] Q Q (gG 3 2 (fun(_:Unit)=>zY x2) [1,2,4,6] (fun(_:Unit) (_:Unit)=>[]) [0,1,2,3] (fun _ _=>[]) Q (lR oI 1 Q Q Q fun x3 h1 _ h2=>fun hG1=>iE 2 h2 h1 Q Q Q Q Q<|wi hG1<|bA [19] Q Q (fun hG1=>sF Q<|kB oI 4 [] h1 () Q Q Q Q Q Q Q<|mC (p:=()) () [0,7,2,3] hG1 Q)<|fun hG1=>iE 2 h2 h1 Q Q Q Q Q<|wi hG1<|lR oI 0 Q Q Q fun x4 h3 _ h4=>fun hG1=>iE 3 h4 h3 Q Q Q Q Q<|ceS oI 7 [] [28,32] 171 () Q Q Q Q Q Q Q Q Q Q<|rh s1 b9.symm [] [(2,0)] Q Q Q<|ceS oI 4 [] [15,23] c () Q Q Q Q Q Q Q Q Q Q<|rh s2 b9.symm [] [(2,1)] Q Q Q<|wi hG1<|lR oI 10 Q Q Q fun x5 h5 _ h6=>fun hG1=>iE 4 h6 h5 Q Q Q Q Q<|ceS oI 12 [] [28,32] c () Q Q Q Q Q Q Q Q Q Q<|rh s1 b9.symm [] [(2,0)] Q Q Q<|wi hG1<|eE aC [2,3,6,9,14] Q<|c0 Q (fun _=>qN) fun x6=>lR oI 15 Q Q Q fun x7 h7 _ h8=>fun hG1=>iE 5 h8 h7 Q Q Q Q Q<|HE (α:=Int) aW Q Q Q Q fun s4=>ceS oI 16 [] [28,32,38] x6 () Q Q Q Q Q Q Q Q Q Q<|rh s1 b9.symm [] [(2,0)] Q Q Q<|wi hG1<|OR (s4,s1) [1,2,4,6] (fun(p:(List Int)×Int×(List Int)) (u:AC×AC)=>[(8,.h u.1 p.1.length),(9,I p.2.1)]) [19,20,2,11,3] [11,3] (fun p u=>[ow u.1 (p.1:List Int),ow u.2 (p.2.2:List Int),.box 0 [.h u.2 p.2.2.length,.h s2 (h.Class.set x2.toNat c).length]]) id [2,4] (fun(p:(List Int)×(List Int)) (u:AC×AC)=>[(8,.h u.1 p.1.length)]) [11,3] (fun p u=>[ow u.1 (p.1:List Int),ow u.2 (p.2:List Int),.box 0 [.h u.2 p.2.length,.h s2 (h.Class.set x2.toNat c).length]]) Q Q (fun hF3 ⟨x11,x12,x13⟩ ⟨s7,s8⟩ hr3=>c0 Q (fun _=>qN) fun x16=>bA [48] Q Q (gG 0 6 (GX x2 x11 x12) [1,2,4,6,8,9] (fun(x17:(List Int)) (s11:AC)=>[]) [0,3,4] (fun x17 s11=>[ow s11 (x17:List Int),.box 0 [.h s11 x17.length,.h s2 (h.Class.set x2.toNat c).length]]) Q (eE aC [4] Q<|fun hG3=>bd hG3 fun x19 hA1 hG3=>bd hG3 fun x20 hA2 hG3=>bd hG3 fun x21 hA3 hG3=>gE Q Q (have hq1:=rb hA1;wi hq1<|c0 Q (fun _=>FK) fun u1=>fun hq1=>match u1,hq1 with | _,rfl=>have hq2:=rb hA2;wi hq2<|c0 Q (fun _=>oK) fun u2=>fun hq2=>match u2,hq2 with | _,rfl=>have hq3:=rb hA3;wi hq3<|nM [1] Q Q Q Q (fun _=>qP) fun u3 s15=>fun hq3=>match u3,hq3 with | _,rfl=>wi hG3<|kZ (p:=(x21)) s15 [5,2,0,3,4] Q Q) (have hq4:=rb hA1;wi hq4<|c0 Q (fun _=>FK) fun u4=>fun hq4=>match u4,hq4 with | _,rfl=>gE Q Q (have hq5:=rb hA2;wi hq5<|c0 Q (fun _=>oK) fun u5=>fun hq5=>match u5,hq5 with | _,rfl=>have hq6:=rb hA3;wi hq6<|nM [1] Q Q Q Q (fun _=>qP) fun u6 s16=>fun hq6=>match u6,hq6 with | _,rfl=>wi hG3<|kZ (p:=(x21)) s16 [5,2,0,3,4] Q Q) (have hq7:=rb hA2;wi hq7<|c0 Q (fun _=>oK) fun u7=>fun hq7=>match u7,hq7 with | _,rfl=>have hq8:=rb hA3;wi hq8<|nM [1] Q Q Q Q (fun _=>qP) fun u8 s17=>fun hq8=>match u8,hq8 with | _,rfl=>wi hG3<|kZ (p:=(x21)) s17 [5,2,0,3,4] Q Q))) fun x17 s11=>c0 Q (fun _=>FK) fun x18=>fun hG3=>lt1 Q aW Q Q Q Q fun s12=>ap 2 aW Q Q Q Q Q Q Q (fun h=>(h.o 5 Q)) Q Q hG3 fun hG3 s13=>wi hG3<|nxW (s13,s11) [2,0,1,3,4] Q)<|bkW (s7,s8) [0,1,2,3,4] Q) fun⟨x14,x15⟩ ⟨s9,s10⟩=>BG hr1 hF1<|eO (s10,s2,s9) [1,3,0] Q Q) fun _ _=>BE [0,1,2,3] Q)<|yD [0,1,2,3] Q)<|fun hF=>HE (α:=Int) aW Q Q Q Q fun s3=>wi hF<|eO (s1,s2,s3) [0,1,4] Q Q
theorem aDY{m:Mem}{c:Int}{s1 s2 s3 s4:AC}:VS prog κ 330 (wY m c) [.g (gM m s1 s2 s3 s4),I c] [] (oM m s1 s2 s3 s4 []) (fun(r:Mem×Int) (y:A4C)=>.t [.g (yM r.1 y),I r.2]) (fun(r:Mem×Int) (y:A4C)=>(zM r.1 y [])):=
 cQ tok call330 func330 results330 Q Q<|nM [0,1] Q Q Q Q (fun _=>aDX) fun x1 s5=>bA [19] Q Q (eO (s5.1,s5.2.1,s3,s4) [6,7,2,3] Q Q)<|eE aC [4,5,9] Q<|lR hO 2 Q Q Q fun x2 h1 s6 h2=>fun hF=>iE 3 h2 h1 Q Q Q Q Q<|cpc 8 Q Q fun hc1=>Y5 hc1 Q Q Q Q Q Q hF fun hF h3=>ap 13 aW Q Q Q Q Q Q Q (fun h=>((h.o 8 Q).sub (HF h3.1 h3.2) h3)) Q Q hF fun hF s7=>iE 3 h2 h1 Q Q Q Q Q<|wi hF<|gG 0 4 (z5 m c x1 x2) [4] (fun(x3:Int) (_:Unit)=>[(5,I x3)]) [6,7,3] (fun x3 _=>[ow s3 (m.aB.Global.set c.toNat (⟨x2.aM++((x1.2.take x1.2.length).drop ((1:Int).toNat))⟩:aK):List aK),.box 1 [.h s5.1 x1.1.Bytes.length,.h s5.2.1 x1.1.Class.length,.h s3 (m.aB.Global.set c.toNat (⟨x2.aM++((x1.2.take x1.2.length).drop ((1:Int).toNat))⟩:aK)).length,.h s4 m.aB.Own.length]]) Q (eE aC [4,9,12] Q<|lR oI 8 Q Q Q fun x4 h4 _ h5=>fun hF=>iE 4 h5 h4 Q Q Q Q Q<|gE Q Q (sF Q<|kB oI 14 [] h4 () Q Q Q Q Q Q Q<|lN hO 10 [13] [23,27] (⟨x2.aM++((x1.2.take x1.2.length).drop ((1:Int).toNat))⟩:aK) s7 Q Q Q Q Q Q Q Q<|oN s3 b9.symm [(0,2),(37,2)] [(4,2),(5,2)] Q Q Q<|fR Q Q<|mC (p:=(x4)) () [18,5,6,7,3] hF Q) (sF Q<|kB oI 14 [] h4 () Q Q Q Q Q Q Q<|lN hO 10 [13] [23,27] (⟨x2.aM++((x1.2.take x1.2.length).drop ((1:Int).toNat))⟩:aK) s7 Q Q Q Q Q Q Q Q<|oN s3 b9.symm [(0,2),(37,2)] [(4,2),(5,2)] Q Q Q<|fR Q Q<|mC (p:=(x4)) () [18,5,6,7,3] hF Q)) fun x3 _=>eO (s5.1,s5.2.1,s3,s4) [2,3,0,4] Q Q
theorem aAJ{slot gen:Int}:V0 prog κ 359 (FB slot gen) [I slot,I gen] I:=
 cQ tok call359 func359 results359 Q Q<|cX 0 0 (p8 slot gen) [0,1] 12 [] Q (c0 Q (fun _=>bE) fun x2=>dQ [7,8] Q Q (bU [] Q Q)<|c0 Q (fun _=>bE) fun x3=>bU [] Q Q) fun x1=>bA [12] Q Q (cO Q Q)<|cO Q Q
theorem aAK{m:Mem}{slot:Int}{s1 s2 s3 s4:AC}(h1:aX κ s1 m.aE.Bytes)(h2:aX κ s2 m.aE.Class)(h3:aX κ s3 m.aB.Global)(h4:aX κ s4 m.aB.Own):V0 prog κ 353 (tC m slot) [.g (gM m s1 s2 s3 s4),I slot] I:=
 cQ tok call353 func353 results353 Q Q<|c0 Q (fun h=>DK (h.a h1) (h.a h2)) fun x1=>c0 Q (fun _=>aAJ) fun x2=>cO Q Q
theorem aDZ{b:aD}{s:Sub}{slot pc:Int}{s1 s2 s3 s4 s5 s6 s7:AC}(h1:aX κ s1 b.Mem.aE.Bytes)(h2:aX κ s2 b.Mem.aE.Class)(h3:aX κ s3 b.Mem.aB.Global)(h4:aX κ s4 b.Mem.aB.Own)(h5:aX κ s5 b.aH.bO)(h6:aX κ s6 b.aU)(h7:aX κ s7 b.mA):V0 prog κ 331 (IE b s slot pc) [.g (gB b s1 s2 s3 s4 s5 s6 s7),.g [I s.Kind,I s.A,I s.Pc,I s.E,I s.Row,I s.B,I s.H,I s.Out,I s.Code,.b s.cS],I slot,I pc] (fun r=>.g [I r.Kind,I r.A,I r.Pc,I r.E,I r.Row,I r.B,I r.H,I r.Out,I r.Code,.b r.cS]):=
 cQ tok call331 func331 results331 Q Q<|bA [10] Q Q (c0 Q (fun h=>aAK (h.a h1) (h.a h2) (h.a h3) (h.a h4)) fun x1=>c0 Q (fun _=>dK) fun x2=>cO Q Q)<|cO Q Q
theorem aAL{b:aD}{w_:Int}{s:Sub}{s1 s2 s3 s4 s5 s6 s7:AC}:VS prog κ 289 (tD b w_ s) [.g (gB b s1 s2 s3 s4 s5 s6 s7),I w_,.g [I s.Kind,I s.A,I s.Pc,I s.E,I s.Row,I s.B,I s.H,I s.Out,I s.Code,.b s.cS]] [] (oB b s1 s2 s3 s4 s5 s6 s7 []) (fun(r:aD×Sub) (y:A7C)=>.t [.g (yB r.1 y),.g [I r.2.Kind,I r.2.A,I r.2.Pc,I r.2.E,I r.2.Row,I r.2.B,I r.2.H,I r.2.Out,I r.2.Code,.b r.2.cS]]) (fun(r:aD×Sub) (y:A7C)=>(zB r.1 y [])):=
 cQ tok call289 func289 results289 Q Q<|c0 Q (fun _=>Q8) fun x1=>bA [15] Q Q (eE aC [7,8] Q<|c0 Q (fun _=>dK) fun x2=>eO (s1,s2,s3,s4,s5,s6,s7) [0,1,2,3,4,5,6] Q Q)<|gG 1 4 (fun(p:Int×aD)=>hJ s p.1 p.2) [3,5,6,7] (fun(p:Int×aD) (u:A4C)=>[(9,I p.1)]) [8,9,10] (fun p u=>(oB p.2 u.1 u.2.1 u.2.2.1 u.2.2.2 s5 s6 s7 [.box 0 (gB p.2 u.1 u.2.1 u.2.2.1 u.2.2.2 s5 s6 s7)])) Q (bA [24,25] Q Q (c0 Q (fun _=>IL) fun x9=>eE aC [7,8,9,10] Q<|lR hO 3 Q Q Q fun x10 h1 s12 h2=>fun hF=>iE 4 h2 h1 Q Q Q Q Q<|wi hF<|nM [14] Q Q Q Q (fun _=>V8) fun x11 s13=>fun hF=>iE 4 h2 h1 Q Q Q Q Q<|sF Q<|lN hO 11 [15] [33,38] x11.1 s13 Q Q Q Q Q Q Q Q<|oN s4 b9.symm [(0,3)] [(7,3)] Q Q Q<|fR Q Q<|mC (p:=(x11.2,({b with Mem:=(⟨b.Mem.aE,(⟨b.Mem.aB.Global,b.Mem.aB.Own.set x9.toNat x11.1⟩:aB)⟩:Mem)}:aD))) (s1,s2,s3,s4) [0,1,2,16,4,5,6,7,8,9,10] hF Q)<|cX 0 4 (qB b s x1) [3,5,6,7,8,20] 46 [0,1,2,3,4,5,6,7,8,9,10] Q (bA [46,47] Q Q (bU [0,1,2,3,4,5,6,7,8,9,10] Q Q)<|bU [0,1,2,3,4,5,6,7,8,9,10] Q Q) fun x12=>bA [46] Q Q (eE aC [7,8,9,10] Q<|lR hO 2 Q Q Q fun x13 h3 s14 h4=>fun hF=>iE 4 h4 h3 Q Q Q Q Q<|wi hF<|nM [14] Q Q Q Q (fun _=>V8) fun x14 s15=>fun hF=>iE 4 h4 h3 Q Q Q Q Q<|sF Q<|lN hO 11 [15] [53,58] x14.1 s15 Q Q Q Q Q Q Q Q<|oN s3 b9.symm [] [(7,2)] Q Q Q<|fR Q Q<|mC (p:=(x14.2,({b with Mem:=(⟨b.Mem.aE,(⟨b.Mem.aB.Global.set x1.toNat x14.1,b.Mem.aB.Own⟩:aB)⟩:Mem)}:aD))) (s1,s2,s3,s4) [0,1,16,3,4,5,6,7,8,9,10] hF Q)<|bA [66,67] Q Q (nM [0,1,2,3] Q Q Q Q (fun _=>aDY) fun x15 s16=>kZ (p:=(x15.2,({b with Mem:=x15.1}:aD))) s16 [11,12,13,14,4,5,6,7,8,9,10] Q Q)<|eE aC [7,8] Q<|c0 Q (fun _=>dK) fun x16=>eO (s1,s2,s3,s4,s5,s6,s7) [0,1,2,3,4,5,6] Q Q) fun⟨x3,x4⟩ ⟨s8,s9,s10,s11⟩=>gG 0 4 (fun(p:Bool×aD)=>qA s x3 p.1 p.2) [3,5,6,7,9] (fun(p:Bool×aD) (_:Unit)=>[(82,.b p.1)]) [8,9,10] (fun p _=>(oB p.2 s8 s9 s10 s11 s5 s6 s7 [.box 0 (gB p.2 s8 s9 s10 s11 s5 s6 s7)])) Q (dQ [77,78] Q Q (bU (p:=(s.Pc == 3,x4)) [0,1,2,3,4,5,6,7,8,9,10] Q Q)<|bU (p:=(false,x4)) [0,1,2,3,4,5,6,7,8,9,10] Q Q) fun⟨x5,x6⟩ _=>bA [82] Q Q (eE aC [7,8] Q<|c0 Q (fun _=>dK) fun x7=>eO (s8,s9,s10,s11,s5,s6,s7) [0,1,2,3,4,5,6] Q Q)<|eE aC [7,8] Q<|c0 Q (fun h=>aDZ (h.o 0 Q) (h.o 1 Q) (h.o 2 Q) (h.o 3 Q) (h.o 4 Q) (h.o 5 Q) (h.o 6 Q)) fun x8=>eO (s8,s9,s10,s11,s5,s6,s7) [0,1,2,3,4,5,6] Q Q
theorem X2{b:aD}{w_:Int}{s:Sub}{s1 s2 s3 s4 s5 s6 s7:AC}:VS prog κ 290 (qC b w_ s) [.g (gB b s1 s2 s3 s4 s5 s6 s7),I w_,.g [I s.Kind,I s.A,I s.Pc,I s.E,I s.Row,I s.B,I s.H,I s.Out,I s.Code,.b s.cS]] [] (oB b s1 s2 s3 s4 s5 s6 s7 []) (fun(r:aD×Sub) (y:A7C)=>.t [.g (yB r.1 y),.g [I r.2.Kind,I r.2.A,I r.2.Pc,I r.2.E,I r.2.Row,I r.2.B,I r.2.H,I r.2.Out,I r.2.Code,.b r.2.cS]]) (fun(r:aD×Sub) (y:A7C)=>(zB r.1 y [])):=
 cQ tok call290 func290 results290 Q Q<|bA [10,11] Q Q (eE aC [7,8] Q<|eO (s1,s2,s3,s4,s5,s6,s7) [0,1,2,3,4,5,6] Q Q)<|bA [19,20] Q Q (c0 Q (fun _=>bE) fun x1=>bA [27] Q Q (eE aC [7,8] Q<|c0 Q (fun _=>dK) fun x2=>eO (s1,s2,s3,s4,s5,s6,s7) [0,1,2,3,4,5,6] Q Q)<|cX 0 4 (n9 b w_ s) [1,3,5,6,7] 44 [0,1,2,3,4,5,6,7,8,9,10] Q (eE aC [7,8,9,10] Q<|c0 Q (fun h=>JL (h.o 0 Q) (h.o 1 Q) (h.o 2 Q) (h.o 3 Q)) fun x8=>dQ [36,37] Q Q (bU [0,1,2,3,4,5,6,7,8,9,10] Q Q)<|c0 Q (fun _=>fP) fun x9=>c0 Q (fun h=>aDU (h.o 5 Q)) fun x10=>bU [0,1,2,3,4,5,6,7,8,9,10] Q Q) fun x3=>bA [44] Q Q (eE aC [7,8] Q<|c0 Q (fun _=>dK) fun x4=>eO (s1,s2,s3,s4,s5,s6,s7) [0,1,2,3,4,5,6] Q Q)<|gG 0 4 (tW b s) [3,5,6,7] (fun(x5:(List aS)) (_:Unit)=>[]) [0,1,2,3,4,6,8,9,10] (fun x5 _=>[ow s6 (x5:List aS),.box 0 [.h s1 b.Mem.aE.Bytes.length,.h s2 b.Mem.aE.Class.length,.h s3 b.Mem.aB.Global.length,.h s4 b.Mem.aB.Own.length,I b.aH.aL,.h s5 b.aH.bO.length,.h s6 x5.length,.h s7 b.mA.length]]) Q (eE aC [7,8,9,10] Q<|lR jI 5 Q Q Q fun x7 h1 s8 h2=>fun hF=>iE 4 h2 h1 Q Q Q Q Q<|nd hF fun hA1 hF=>gE Q Q (T7 qJ [] ((⟨s.A,s.E⟩:c9)) () jS Q Q Q Q Q Q Q Q Q Q Q Q Q fun s11=>have hq1:=rn hA1;ap 14 jS Q Q Q Q Q Q Q (fun h=>(h.o 15 Q)) Q Q hq1 fun hq1 s12=>iE 4 h2 h1 Q Q Q Q Q<|sF Q<|lN jI 11 [14] [49,52] (⟨x7.Rows++([(⟨s.A,s.E⟩:c9)])⟩:aS) s12 Q Q Q Q Q Q Q Q<|oN s6 b9.symm [] [(7,6)] Q Q Q<|fR Q Q<|mC (p:=(b.aU.set w_.toNat (⟨x7.Rows++([(⟨s.A,s.E⟩:c9)])⟩:aS))) () [16,7,0,1,2,3,4,6,8,9,10] hF Q) (T7 qJ [] ((⟨s.A,s.E⟩:c9)) () jS Q Q Q Q Q Q Q Q Q Q Q Q Q fun s13=>have hq2:=rn hA1;ap 14 jS Q Q Q Q Q Q Q (fun h=>(h.o 15 Q)) Q Q hq2 fun hq2 s14=>iE 4 h2 h1 Q Q Q Q Q<|sF Q<|lN jI 11 [14] [49,52] (⟨x7.Rows++([(⟨s.A,s.E⟩:c9)])⟩:aS) s14 Q Q Q Q Q Q Q Q<|oN s6 b9.symm [] [(7,6)] Q Q Q<|fR Q Q<|mC (p:=(b.aU.set w_.toNat (⟨x7.Rows++([(⟨s.A,s.E⟩:c9)])⟩:aS))) () [16,7,0,1,2,3,4,6,8,9,10] hF Q)) fun x5 _=>eE aC [1,8] Q<|c0 Q (fun _=>dK) fun x6=>eO (s1,s2,s3,s4,s5,s6,s7) [2,3,4,5,6,0,7] Q Q)<|eE aC [7,8] Q<|c0 Q (fun _=>dK) fun x11=>eO (s1,s2,s3,s4,s5,s6,s7) [0,1,2,3,4,5,6] Q Q
theorem vX{c:aH}{s1:AC}(h1:aX κ s1 c.bO):VS prog κ 286 (oA c) [.g [I c.aL,.h s1 c.bO.length]] [] [] (fun r (y:AC)=>.g [I r.aL,.h y r.bO.length]) (fun r y=>[ow y r.bO]):=
 cQ tok call286 func286 results286 Q Q<|eE aC [0] Q<|fun hF=>HE (α:=o5) A9 Q Q Q Q fun s2=>ap 2 A9 Q Q Q Q Q Q Q (fun h=>(h.a h1)) Q Q hF fun hF s3=>wi hF<|eO s3 [2] Q Q
theorem aGA{c:aH}{w_ e_:Int}{s1:AC}(h1:aX κ s1 c.bO):VS prog κ 332 (A3 c w_ e_) [.g [I c.aL,.h s1 c.bO.length],I w_,I e_] [] [] (fun r (y:AC)=>.t [.g [I r.1.aL,.h y r.1.bO.length],.b r.2]) (fun r y=>[ow y r.1.bO]):=
 cQ tok call332 func332 results332 Q Q<|c1 Q (fun h=>vX (h.a h1)) fun x1 s2=>cX 0 3 (vG c w_ e_ x1) [1,2,3,6,8] 19 [0,1,2,3] Q (c0 Q (fun h=>vW (h.a h1)) fun x7=>dQ [14,15] Q Q (bU [0,1,2,3] Q Q)<|c0 Q (fun _=>bE) fun x8=>bU [0,1,2,3] Q Q) fun x2=>bA [19] Q Q (eO s2 [2] Q Q)<|o4 aDB Q h1 Q fun x3 _ _=>cX 0 5 (mN w_ x1 x3) [1,6,8,9] 38 [1,2,3,5] Q (dQ [28,29] Q Q (bU [1,2,3,5] Q Q)<|dQ [31,32,33] Q Q (bU [1,2,3,5] Q Q)<|bU [1,2,3,5] Q Q) fun x4=>bA [38] Q Q (eO s2 [1] Q Q)<|bA [42] Q Q (lR sN 1 Q Q Q fun x5 h2 _ h3=>fun hF=>iE 5 h3 h2 Q Q Q Q Q<|iE 5 h3 h2 Q Q Q Q Q<|sR Q<|lN sN 4 [] [44,49] ({x5 with eW:=true,Seen:=0}:o5) () Q Q Q Q Q Q Q Q<|oN s2 b9.symm [(53,1)] [(0,1),(2,1)] Q Q Q<|fR Q Q<|mD (hT:=tok) s2 [7] hF Q results332 Q Q Q Q)<|lR sN 1 Q Q Q fun x6 h4 _ h5=>fun hF=>iE 5 h5 h4 Q Q Q Q Q<|sR Q<|lN sN 4 [] [55] ({x6 with Seen:=aV (x3.Seen+1)}:o5) () Q Q Q Q Q Q Q Q<|oN s2 b9.symm [(62,1)] [(0,1),(2,1)] Q Q Q<|fR Q Q<|mD (hT:=tok) s2 [7] hF Q results332 Q Q Q Q
theorem aKR{c:aH}{e_:Int}{s1:AC}(h1:aX κ s1 c.bO):VS prog κ 333 (IS c e_) [.g [I c.aL,.h s1 c.bO.length],I e_] [] [] (fun r (y:AC)=>.t [.g [I r.1.aL,.h y r.1.bO.length],.b r.2]) (fun r y=>[ow y r.1.bO]):=
 cQ tok call333 func333 results333 Q Q<|c1 Q (fun h=>vX (h.a h1)) fun x1 s2=>cX 0 3 (wZ e_ x1) [1,4,6] 21 [1,2,3] Q (c0 Q (fun h=>vW (h.a h1)) fun x3=>dQ [11,12] Q Q (bU [1,2,3] Q Q)<|dQ [16,17,18] Q Q (bU [1,2,3] Q Q)<|bU [1,2,3] Q Q) fun x2=>bA [21] Q Q (eO s2 [1] Q Q)<|eO s2 [1] Q Q
theorem V9{b:aD}{s:Sub}{s1 s2 s3 s4 s5 s6 s7:AC}:VS prog κ 291 (nG b s) [.g (gB b s1 s2 s3 s4 s5 s6 s7),.g [I s.Kind,I s.A,I s.Pc,I s.E,I s.Row,I s.B,I s.H,I s.Out,I s.Code,.b s.cS]] [] (oB b s1 s2 s3 s4 s5 s6 s7 []) (fun(r:aD×Sub) (y:A7C)=>.t [.g (yB r.1 y),.g [I r.2.Kind,I r.2.A,I r.2.Pc,I r.2.E,I r.2.Row,I r.2.B,I r.2.H,I r.2.Out,I r.2.Code,.b r.2.cS]]) (fun(r:aD×Sub) (y:A7C)=>(zB r.1 y [])):=
 cQ tok call291 func291 results291 Q Q<|bA [9,10] Q Q (eE aC [7,8] Q<|eO (s1,s2,s3,s4,s5,s6,s7) [0,1,2,3,4,5,6] Q Q)<|bA [19,20] Q Q (c0 Q (fun _=>bE) fun x1=>bA [24] Q Q (eE aC [7,8] Q<|c0 Q (fun _=>dK) fun x2=>eO (s1,s2,s3,s4,s5,s6,s7) [0,1,2,3,4,5,6] Q Q)<|c1 Q (fun h=>aGA (h.o 4 Q)) fun x3 s8=>bA [40] Q Q (eE aC [7,8] Q<|c0 Q (fun _=>dK) fun x4=>eO (s1,s2,s3,s4,s8,s6,s7) [0,1,2,3,11,5,6] Q Q)<|gG 0 4 (mO b s x3) [2,3,4,5] (fun(x5:Int) (_:Unit)=>[]) [0,1,2,3,11,5,6,7,9,10] (fun x5 _=>[.box 1 [I s.Kind,I s.A,I x5,I s.E,I s.Row,I (aV (s.B+1)),I s.H,I s.Out,I s.Code,.b s.cS]]) Q (bA [50] Q Q (bU [8,0,1,2,3,11,5,6,7,9,10] Q Q)<|bU [8,0,1,2,3,11,5,6,7,9,10] Q Q) fun x5 _=>eE aC [0,8] Q<|eO (s1,s2,s3,s4,s8,s6,s7) [1,2,3,4,5,6,7] Q Q)<|bA [54,55] Q Q (c1 Q (fun h=>aKR (h.o 4 Q)) fun x6 s9=>gG 0 4 (mP b s x6) [2,3,4,5] (fun(x7:Int) (_:Unit)=>[]) [0,1,2,3,11,5,6,7,9,10] (fun x7 _=>[.box 1 [I s.Kind,I s.A,I s.Pc,I s.E,I s.Row,I s.B,I s.H,I x7,I s.Code,.b s.cS]]) Q (bA [6,63,65] Q Q (bU [8,0,1,2,3,11,5,6,7,9,10] Q Q)<|bU [8,0,1,2,3,11,5,6,7,9,10] Q Q) fun x7 _=>eE aC [0,8] Q<|c0 Q (fun _=>dK) fun x8=>eO (s1,s2,s3,s4,s9,s6,s7) [1,2,3,4,5,6,7] Q Q)<|eE aC [7,8] Q<|c0 Q (fun _=>dK) fun x9=>eO (s1,s2,s3,s4,s5,s6,s7) [0,1,2,3,4,5,6] Q Q
theorem YX{r_:c9}{e_:Int}:V0 prog κ 335 (EC r_ e_) [.g [I r_.Handle,I r_.aL],I e_] .b:=
 cQ tok call335 func335 results335 Q Q<|cX 0 1 CV [] 4 [] Q (dQ [6,7] Q Q (bU [] Q Q)<|bU [] Q Q) fun x1=>cO Q Q
theorem aD0{l:List c9}{from_ e_:Int}{s1:AC}(h1:aX κ s1 l):V0 prog κ 334 (rQ l from_ e_) [.h s1 l.length,I from_,I e_] I:=
 cQ tok call334 func334 results334 Q Q<|fun hF=>aZ2 Q Q Q Q<|wi hF<|GN 7 [0,2] [] Out.brk [] [] Q Q (fun hF1 x2 hr1=>bA [13] Q Q (o4 aDC Q h1 Q fun x3 _ _=>c0 Q (fun _=>YX) fun x4=>bA [21] Q Q (BG hr1 hF1<|cO Q Q)<|BE [] Q)<|yD [] Q)<|cO Q Q
theorem aGB{x:aB}{w_ c slot:Int}{s1 s2:AC}:VS prog κ 354 (KU x w_ c slot) [.g [.h s1 x.Global.length,.h s2 x.Own.length],I w_,I c,I slot] [] [ow s1 (x.Global:List aK),ow s2 (x.Own:List aK)] (fun(r:aB) (y:AC×AC)=>.g [.h y.1 r.Global.length,.h y.2 r.Own.length]) (fun(r:aB) (y:AC×AC)=>[ow y.1 r.Global,ow y.2 r.Own]):=
 cQ tok call354 func354 results354 Q Q<|c0 Q (fun _=>IL) fun x1=>gG 1 2 (fun(p:(List aK)×(List aK))=>CX p.1 p.2) [4,8] (fun(p:(List aK)×(List aK)) (_:Unit)=>[]) [3] (fun p _=>[ow s1 (p.1:List aK),ow s2 (p.2:List aK),.box 0 [.h s1 p.1.length,.h s2 p.2.length]]) Q (lR hO 1 Q Q Q fun x4 h1 s3 h2=>fun hF=>iE 2 h2 h1 Q Q Q Q Q<|wi hF<|bA [20] Q Q (gG 0 3 (fun(_:Unit)=>I8 x slot x1 x4) [4,8] (fun(_:Unit) (_:Unit)=>[]) [0,3] (fun _ _=>[ow s2 (x.Own.set x1.toNat (⟨x4.aM++([slot])⟩:aK):List aK),.box 0 [.h s1 x.Global.length,.h s2 (x.Own.set x1.toNat (⟨x4.aM++([slot])⟩:aK)).length]]) Q (eE aC [2,3,6] Q<|fun hF=>iE 2 h2 h1 Q Q Q Q Q<|nd hF fun hA1 hF=>gE Q Q (lt1 Q aW Q Q Q Q fun s6=>have hq1:=rn hA1;ap 7 aW Q Q Q Q Q Q Q (fun h=>(h.o 8 Q)) Q Q hq1 fun hq1 s7=>iE 2 h2 h1 Q Q Q Q Q<|sF Q<|lN hO 4 [7] [14,22,25] (⟨x4.aM++([slot])⟩:aK) s7 Q Q Q Q Q Q Q Q<|oN s2 b9.symm [(0,1)] [(2,1)] Q Q Q<|fR Q Q<|mC (p:=()) () [9,2,0,3] hF Q) (lt1 Q aW Q Q Q Q fun s8=>have hq2:=rn hA1;ap 7 aW Q Q Q Q Q Q Q (fun h=>(h.o 8 Q)) Q Q hq2 fun hq2 s9=>iE 2 h2 h1 Q Q Q Q Q<|sF Q<|lN hO 4 [7] [14,22,25] (⟨x4.aM++([slot])⟩:aK) s9 Q Q Q Q Q Q Q Q<|oN s2 b9.symm [(0,1)] [(2,1)] Q Q Q<|fR Q Q<|mC (p:=()) () [9,2,0,3] hF Q)) fun _ _=>bU (p:=(x.Global,x.Own.set x1.toNat (⟨x4.aM++([slot])⟩:aK))) [2,0,1,3] Q Q)<|gG 0 3 (I9 x) [4,8] (fun(x5:(List aK)) (_:Unit)=>[]) [3] (fun x5 _=>[ow s1 (x5:List aK),ow s2 (x.Own:List aK),.box 0 [.h s1 x5.length,.h s2 x.Own.length]]) Q (eE aC [2,3,6] Q<|lR hO 0 Q Q Q fun x6 h3 s10 h4=>fun hF=>iE 3 h4 h3 Q Q Q Q Q<|nd hF fun hA2 hF=>gE Q Q (lt1 Q aW Q Q Q Q fun s13=>have hq3:=rn hA2;ap 11 aW Q Q Q Q Q Q Q (fun h=>(h.o 12 Q)) Q Q hq3 fun hq3 s14=>iE 3 h4 h3 Q Q Q Q Q<|sF Q<|lN hO 8 [11] [36,39] (⟨x6.aM++([slot])⟩:aK) s14 Q Q Q Q Q Q Q Q<|oN s1 b9.symm [(0,0)] [(2,0)] Q Q Q<|kB hO 4 [7] h1 s3 Q Q Q Q Q Q Q<|fR Q Q<|mC (p:=(x.Global.set c.toNat (⟨x6.aM++([slot])⟩:aK))) () [13,14,2,3] hF Q) (lt1 Q aW Q Q Q Q fun s15=>have hq4:=rn hA2;ap 11 aW Q Q Q Q Q Q Q (fun h=>(h.o 12 Q)) Q Q hq4 fun hq4 s16=>iE 3 h4 h3 Q Q Q Q Q<|sF Q<|lN hO 8 [11] [36,39] (⟨x6.aM++([slot])⟩:aK) s16 Q Q Q Q Q Q Q Q<|oN s1 b9.symm [(0,0)] [(2,0)] Q Q Q<|kB hO 4 [7] h1 s3 Q Q Q Q Q Q Q<|fR Q Q<|mC (p:=(x.Global.set c.toNat (⟨x6.aM++([slot])⟩:aK))) () [13,14,2,3] hF Q)) fun x5 _=>bU (p:=(x5,x.Own)) [0,1,2,3] Q Q) fun⟨x2,x3⟩ _=>eO (s1,s2) [0,1] Q Q
theorem TF{x:Mem}{w_ slot:Int}{s1 s2 s3 s4:AC}:VS prog κ 336 (A4 x w_ slot) [.g (gM x s1 s2 s3 s4),I w_,I slot] [] (oM x s1 s2 s3 s4 []) (fun(r:Mem) (y:A4C)=>.g (yM r y)) (fun(r:Mem) (y:A4C)=>(zM r y [])):=
 cQ tok call336 func336 results336 Q Q<|c0 Q (fun h=>qO (h.o 0 Q) (h.o 1 Q)) fun x1=>c0 Q (fun h=>DK (h.o 0 Q) (h.o 1 Q)) fun x2=>gG 0 2 (CZ x w_ slot x1 x2) [1,2,3,6,7,8] (fun(x3:(List Int)) (s5:AC)=>[]) [1,2,3,5] (fun x3 s5=>[ow s5 (x3:List Int),.box 0 [.h s5 x3.length,.h s2 x.aE.Class.length,.h s3 x.aB.Global.length,.h s4 x.aB.Own.length]]) Q (eE aC [5] Q<|fun hF=>bd hF fun x7 hA1 hF=>bd hF fun x8 hA2 hF=>gE Q Q (have hq1:=rb hA1;wi hq1<|c0 Q (fun _=>oK) fun u1=>fun hq1=>match u1,hq1 with | _,rfl=>have hq2:=rb hA2;wi hq2<|nM [0] Q Q Q Q (fun _=>qP) fun u2 s10=>fun hq2=>match u2,hq2 with | _,rfl=>wi hF<|kZ (p:=(x8)) s10 [6,4,1,2,3,5] Q Q) (have hq3:=rb hA1;wi hq3<|c0 Q (fun _=>oK) fun u3=>fun hq3=>match u3,hq3 with | _,rfl=>have hq4:=rb hA2;wi hq4<|nM [0] Q Q Q Q (fun _=>qP) fun u4 s11=>fun hq4=>match u4,hq4 with | _,rfl=>wi hF<|kZ (p:=(x8)) s11 [6,4,1,2,3,5] Q Q)) fun x3 s5=>gG 0 2 (fun(p:(List aK)×(List aK))=>CY x x3 p.1 p.2) [3,6] (fun(p:(List aK)×(List aK)) (u:AC×AC)=>[]) [0,2,5] (fun p u=>[ow u.1 (p.1:List aK),ow u.2 (p.2:List aK),.box 0 [.h s5 x3.length,.h s2 x.aE.Class.length,.h u.1 p.1.length,.h u.2 p.2.length]]) Q (bA [29] Q Q (nM [3,4] Q Q Q Q (fun _=>aGB) fun x6 s8=>kZ (p:=(x6.Global,x6.Own)) (s8.1,s8.2) [6,7,1,0,2,5] Q Q)<|kZ (p:=(x.aB.Global,x.aB.Own)) (s3,s4) [3,4,1,0,2,5] Q Q) fun⟨x4,x5⟩ ⟨s6,s7⟩=>eO (s5,s2,s6,s7) [3,4,0,1] Q Q
theorem WA{b:aD}{w_:Int}{s:Sub}{s1 s2 s3 s4 s5 s6 s7:AC}:VS prog κ 292 (nH b w_ s) [.g (gB b s1 s2 s3 s4 s5 s6 s7),I w_,.g [I s.Kind,I s.A,I s.Pc,I s.E,I s.Row,I s.B,I s.H,I s.Out,I s.Code,.b s.cS]] [] (oB b s1 s2 s3 s4 s5 s6 s7 []) (fun(r:aD×Sub) (y:A7C)=>.t [.g (yB r.1 y),.g [I r.2.Kind,I r.2.A,I r.2.Pc,I r.2.E,I r.2.Row,I r.2.B,I r.2.H,I r.2.Out,I r.2.Code,.b r.2.cS]]) (fun(r:aD×Sub) (y:A7C)=>(zB r.1 y [])):=
 cQ tok call292 func292 results292 Q Q<|lR jI 5 Q Q Q fun x1 h1 s8 h2=>fun hF=>iE 4 h2 h1 Q Q Q Q Q<|wi hF<|bA [18,19] Q Q (eE aC [7,8,13] Q<|fun hF=>sR Q<|kB jI 11 [14] h1 s8 Q Q Q Q Q Q Q<|mD (hT:=tok) (s1,s2,s3,s4,s5,s6,s7) [0,1,2,3,4,15,6] hF Q results292 Q Q Q Q)<|bA [28,29] Q Q (c0 Q (fun h=>aD0 (h.o 14 Q)) fun x2=>bA [37] Q Q (eE aC [7,8,13] Q<|c0 Q (fun _=>dK) fun x3=>fun hF=>sR Q<|kB jI 11 [14] h1 s8 Q Q Q Q Q Q Q<|mD (hT:=tok) (s1,s2,s3,s4,s5,s6,s7) [0,1,2,3,4,15,6] hF Q results292 Q Q Q Q)<|lR qJ 14 Q Q Q fun x4 h3 _ h4=>fun hF=>iE 5 h4 h3 Q Q Q Q Q<|wi hF<|eE aC [7,8,13,17] Q<|fun hF=>sR Q<|kB qJ 15 [] h3 () Q Q Q Q Q Q Q<|kB jI 11 [18] h1 s8 Q Q Q Q Q Q Q<|mD (hT:=tok) (s1,s2,s3,s4,s5,s6,s7) [0,1,2,3,4,19,6] hF Q results292 Q Q Q Q)<|bA [53,54] Q Q (gG 0 5 (eF b s) [3,5,6,7] (fun(x5:Bool) (_:Unit)=>[(78,.b x5)]) [0,1,2,3,4,6,7,8,9,10] (fun x5 _=>[ow s6 (b.aU:List aS)]) Q (eE aC [7,8,9,10,13] Q<|c0 Q (fun _=>bE) fun x9=>dQ [58,59] Q Q (fun hF=>sF Q<|kB jI 11 [14] h1 s8 Q Q Q Q Q Q Q<|mC () [15,0,1,2,3,4,6,7,8,9,10] hF Q)<|c0 Q (fun _=>bE) fun x10=>dQ [66,67,68] Q Q (fun hF=>sF Q<|kB jI 11 [14] h1 s8 Q Q Q Q Q Q Q<|mC () [15,0,1,2,3,4,6,7,8,9,10] hF Q)<|lR qJ 14 Q Q Q fun x11 h7 _ h8=>fun hF=>iE 5 h8 h7 Q Q Q Q Q<|sF Q<|kB qJ 15 [] h7 () Q Q Q Q Q Q Q<|kB jI 11 [18] h1 s8 Q Q Q Q Q Q Q<|mC () [19,0,1,2,3,4,6,7,8,9,10] hF Q) fun x5 _=>bA [78] Q Q (eE aC [7,8] Q<|c0 Q (fun _=>dK) fun x6=>eO (s1,s2,s3,s4,s5,s6,s7) [1,2,3,4,5,0,6] Q Q)<|eE aC [7,8,9,10] Q<|lR oI 6 Q Q Q fun x7 h5 _ h6=>fun hF=>iE 5 h6 h5 Q Q Q Q Q<|wi hF<|bA [90] Q Q (eE aC [7,8,13] Q<|fun hF=>sR Q<|kB oI 11 [] h5 () Q Q Q Q Q Q Q<|mD (hT:=tok) (s1,s2,s3,s4,s5,s6,s7) [1,2,3,4,5,0,14] hF Q results292 Q Q Q Q)<|gG 0 6 (mQ b s) [3,5,6,7] (fun(x8:Int) (_:Unit)=>[]) [1,2,3,4,5,0,7,9,10] (fun x8 _=>[ow s7 (b.mA:List Int),.box 1 [I s.Kind,I s.A,I x8,I s.E,I s.Row,I (aV (s.B+1)),I s.H,I s.Out,I s.Code,.b s.cS]]) Q (bA [104] Q Q (fun hF=>sF Q<|kB oI 11 [] h5 () Q Q Q Q Q Q Q<|mC () [14,8,1,2,3,4,5,0,7,9,10] hF Q)<|fun hF=>sF Q<|kB oI 11 [] h5 () Q Q Q Q Q Q Q<|mC () [14,8,1,2,3,4,5,0,7,9,10] hF Q) fun x8 _=>eE aC [1,8] Q<|eO (s1,s2,s3,s4,s5,s6,s7) [2,3,4,5,6,7,0] Q Q)<|bA [108,109] Q Q (cX 0 5 (eG b w_ s x1) [1,3,5,6,7,8] 138 [14,0,1,2,3,4,6,7,8,9,10,11,12,13] Q (eE aC [7,8,9,10,13] Q<|c0 Q (fun _=>bE) fun x17=>dQ [116,117] Q Q (bU [14,0,1,2,3,4,6,7,8,9,10,11,12,13] Q Q)<|lR qJ 14 Q Q Q fun x18 h12 _ h13=>fun hF=>iE 5 h13 h12 Q Q Q Q Q<|wi hF<|dQ [126,127,128] Q Q (fun hF=>sF Q<|kB qJ 15 [] h12 () Q Q Q Q Q Q Q<|mC () [18,0,1,2,3,4,6,7,8,9,10,11,12,13] hF Q)<|fun hF=>iE 5 h13 h12 Q Q Q Q Q<|wi hF<|c0 Q (fun _=>YX) fun x19=>fun hF=>sF Q<|kB qJ 15 [] h12 () Q Q Q Q Q Q Q<|mC () [18,0,1,2,3,4,6,7,8,9,10,11,12,13] hF Q) fun x12=>bA [138] Q Q (eE aC [7,8,13] Q<|c0 Q (fun _=>dK) fun x13=>fun hF=>sR Q<|kB jI 11 [0] h1 s8 Q Q Q Q Q Q Q<|mD (hT:=tok) (s1,s2,s3,s4,s5,s6,s7) [1,2,3,4,5,14,6] hF Q results292 Q Q Q Q)<|eE aC [7,8,9,10,13] Q<|fun hF=>cpc 0 Q Q fun hc1=>aMH hc1 Q Q Q Q Q Q hF fun hF h9=>Y5 hc1 Q Q Q Q Q Q hF fun hF h10=>nd hF fun hab hF=>ap2 0 s.Row.toNat ((aV (s.Row+1)).toNat) ⟨hab,h10.1⟩ Q Q Q Q Q Q Q Q Q fun h11=>iE 4 h2 h1 Q Q Q Q Q<|wi hF<|gG 0 5 (rR s) [3,5,6,7] (fun(x14:aD) (u:A4C)=>[]) [8,9,10] (fun x14 u=>(oB x14 u.1 u.2.1 u.2.2.1 u.2.2.2 s5 s6 s7 [.box 0 (gB x14 u.1 u.2.1 u.2.2.1 u.2.2.2 s5 s6 s7)])) Q (eE aC [8,9,10,13] Q<|fun hF=>bd hF fun x15 hA1 hF=>bd hF fun x16 hA2 hF=>gE Q Q (have hq1:=rb hA1;wi hq1<|c0 Q (fun _=>fP) fun u1=>fun hq1=>match u1,hq1 with | _,rfl=>have hq2:=rb hA2;wi hq2<|nM [1,2,3,4] Q Q Q Q (fun _=>TF) fun u2 s14=>fun hq2=>match u2,hq2 with | _,rfl=>sF Q<|poR 0 0 (s.Row.toNat+(x1.Rows.length - ((aV (s.Row+1)).toNat))) Q Q h11 Q<|lN jI 11 [0] [143] (⟨((dE x1.Rows s.Row.toNat (x1.Rows.drop ((aV (s.Row+1)).toNat))).take (s.Row.toNat+(x1.Rows.length - ((aV (s.Row+1)).toNat)))).drop 0⟩:aS) (AC.sub s8 2 0) Q Q Q Q Q Q Q Q<|oN s6 b9.symm [] [(7,6)] Q Q Q<|fR Q Q<|mC (p:=(({b with Mem:=x16,aU:=b.aU.set w_.toNat (⟨((dE x1.Rows s.Row.toNat (x1.Rows.drop ((aV (s.Row+1)).toNat))).take (s.Row.toNat+(x1.Rows.length - ((aV (s.Row+1)).toNat)))).drop 0⟩:aS)}:aD))) s14 [14,15,16,17,5,18,6,7,8,9,10] hF Q) (have hq3:=rb hA1;wi hq3<|c0 Q (fun _=>fP) fun u3=>fun hq3=>match u3,hq3 with | _,rfl=>have hq4:=rb hA2;wi hq4<|nM [1,2,3,4] Q Q Q Q (fun _=>TF) fun u4 s15=>fun hq4=>match u4,hq4 with | _,rfl=>sF Q<|poR 0 0 (s.Row.toNat+(x1.Rows.length - ((aV (s.Row+1)).toNat))) Q Q h11 Q<|lN jI 11 [0] [143] (⟨((dE x1.Rows s.Row.toNat (x1.Rows.drop ((aV (s.Row+1)).toNat))).take (s.Row.toNat+(x1.Rows.length - ((aV (s.Row+1)).toNat)))).drop 0⟩:aS) (AC.sub s8 2 0) Q Q Q Q Q Q Q Q<|oN s6 b9.symm [] [(7,6)] Q Q Q<|fR Q Q<|mC (p:=(({b with Mem:=x16,aU:=b.aU.set w_.toNat (⟨((dE x1.Rows s.Row.toNat (x1.Rows.drop ((aV (s.Row+1)).toNat))).take (s.Row.toNat+(x1.Rows.length - ((aV (s.Row+1)).toNat)))).drop 0⟩:aS)}:aD))) s15 [14,15,16,17,5,18,6,7,8,9,10] hF Q)) fun x14 ⟨s9,s10,s11,s12⟩=>eE aC [7,8] Q<|eO (s9,s10,s11,s12,s5,s6,s7) [0,1,2,3,4,5,6] Q Q)<|eE aC [7,8,13] Q<|c0 Q (fun _=>dK) fun x20=>fun hF=>sR Q<|kB jI 11 [14] h1 s8 Q Q Q Q Q Q Q<|mD (hT:=tok) (s1,s2,s3,s4,s5,s6,s7) [0,1,2,3,4,15,6] hF Q results292 Q Q Q Q
theorem aIP{c:aH}{w_ e_:Int}{s1:AC}(h1:aX κ s1 c.bO):VS prog κ 337 (ED c w_ e_) [.g [I c.aL,.h s1 c.bO.length],I w_,I e_] [] [] (fun r (y:AC)=>.t [.g [I r.1.aL,.h y r.1.bO.length],.b r.2]) (fun r y=>[ow y r.1.bO]):=
 cQ tok call337 func337 results337 Q Q<|c1 Q (fun h=>vX (h.a h1)) fun x1 s2=>cX 0 3 (tE w_ e_ x1) [1,2,6,8] 25 [1,2,3] Q (c0 Q (fun h=>vW (h.a h1)) fun x4=>dQ [13,14] Q Q (bU [1,2,3] Q Q)<|c0 Q (fun _=>bE) fun x5=>dQ [17,18,19] Q Q (bU [1,2,3] Q Q)<|c0 Q (fun _=>bE) fun x6=>bU [1,2,3] Q Q) fun x2=>bA [25] Q Q (eO s2 [1] Q Q)<|lR sN 1 Q Q Q fun x3 h2 _ h3=>fun hF=>iE 3 h3 h2 Q Q Q Q Q<|sR Q<|lN sN 3 [] [28] (⟨true,e_,false,0⟩:o5) () Q Q Q Q Q Q Q Q<|oN s2 b9.symm [(33,1)] [(0,1),(2,1)] Q Q Q<|fR Q Q<|mD (hT:=tok) s2 [6] hF Q results337 Q Q Q Q
theorem aGC{b:aD}{w_:Int}{s:Sub}{s1 s2 s3 s4 s5 s6 s7:AC}:VS prog κ 293 (A5 b w_ s) [.g (gB b s1 s2 s3 s4 s5 s6 s7),I w_,.g [I s.Kind,I s.A,I s.Pc,I s.E,I s.Row,I s.B,I s.H,I s.Out,I s.Code,.b s.cS]] [] (oB b s1 s2 s3 s4 s5 s6 s7 []) (fun(r:aD×Sub) (y:A7C)=>.t [.g (yB r.1 y),.g [I r.2.Kind,I r.2.A,I r.2.Pc,I r.2.E,I r.2.Row,I r.2.B,I r.2.H,I r.2.Out,I r.2.Code,.b r.2.cS]]) (fun(r:aD×Sub) (y:A7C)=>(zB r.1 y [])):=
 cQ tok call293 func293 results293 Q Q<|bA [11,12] Q Q (eE aC [7,8] Q<|eO (s1,s2,s3,s4,s5,s6,s7) [0,1,2,3,4,5,6] Q Q)<|bA [20,21] Q Q (c1 Q (fun h=>aIP (h.o 4 Q)) fun x1 s8=>bA [33] Q Q (eE aC [7,8] Q<|c0 Q (fun _=>dK) fun x2=>eO (s1,s2,s3,s4,s8,s6,s7) [0,1,2,3,11,5,6] Q Q)<|eE aC [7,8] Q<|eO (s1,s2,s3,s4,s8,s6,s7) [0,1,2,3,11,5,6] Q Q)<|bA [40,41] Q Q (bA [47] Q Q (eE aC [7,8] Q<|c0 Q (fun _=>dK) fun x3=>eO (s1,s2,s3,s4,s5,s6,s7) [0,1,2,3,4,5,6] Q Q)<|eE aC [7,8] Q<|eO (s1,s2,s3,s4,s5,s6,s7) [0,1,2,3,4,5,6] Q Q)<|eE aC [7,8] Q<|c0 Q (fun _=>dK) fun x4=>eO (s1,s2,s3,s4,s5,s6,s7) [0,1,2,3,4,5,6] Q Q
theorem IM{b:aD}{w_:Int}{s:Sub}{s1 s2 s3 s4 s5 s6 s7:AC}:VS prog κ 225 (rS b w_ s) [.g (gB b s1 s2 s3 s4 s5 s6 s7),I w_,.g [I s.Kind,I s.A,I s.Pc,I s.E,I s.Row,I s.B,I s.H,I s.Out,I s.Code,.b s.cS]] [] (oB b s1 s2 s3 s4 s5 s6 s7 []) (fun(r:aD×Sub) (y:A7C)=>.t [.g (yB r.1 y),.g [I r.2.Kind,I r.2.A,I r.2.Pc,I r.2.E,I r.2.Row,I r.2.B,I r.2.H,I r.2.Out,I r.2.Code,.b r.2.cS]]) (fun(r:aD×Sub) (y:A7C)=>(zB r.1 y [])):=
 cQ tok call225 func225 results225 Q Q<|bA [9] Q Q (eE aC [7,8] Q<|eO (s1,s2,s3,s4,s5,s6,s7) [0,1,2,3,4,5,6] Q Q)<|bA [14,15] Q Q (nM [0,1,2,3,4,5,6] Q Q Q Q (fun _=>aAL) fun x1 s8=>eO s8 [11,12,13,14,15,16,17] Q Q)<|bA [22,23] Q Q (nM [0,1,2,3,4,5,6] Q Q Q Q (fun _=>X2) fun x2 s9=>eO s9 [11,12,13,14,15,16,17] Q Q)<|bA [30,31] Q Q (nM [0,1,2,3,4,5,6] Q Q Q Q (fun _=>V9) fun x3 s10=>eO s10 [11,12,13,14,15,16,17] Q Q)<|bA [37,38] Q Q (nM [0,1,2,3,4,5,6] Q Q Q Q (fun _=>WA) fun x4 s11=>eO s11 [11,12,13,14,15,16,17] Q Q)<|bA [45,46] Q Q (nM [0,1,2,3,4,5,6] Q Q Q Q (fun _=>aGC) fun x5 s12=>eO s12 [11,12,13,14,15,16,17] Q Q)<|eE aC [7,8] Q<|c0 Q (fun _=>dK) fun x6=>eO (s1,s2,s3,s4,s5,s6,s7) [0,1,2,3,4,5,6] Q Q
theorem bN{j:bR}{pc code:Int}:V0 prog κ 226 (bC j pc code) [.g [.b j.fV,I j.Op.Kind,I j.Op.Cell,I j.Op.dU,I j.Op.eH,I j.aJ,I j.Pc,I j.Sub.Kind,I j.Sub.A,I j.Sub.Pc,I j.Sub.E,I j.Sub.Row,I j.Sub.B,I j.Sub.H,I j.Sub.Out,I j.Sub.Code,.b j.Sub.cS,I j.H,I j.Old,I j.eH,I j.Code],I pc,I code] (fun r=>.g [.b r.fV,I r.Op.Kind,I r.Op.Cell,I r.Op.dU,I r.Op.eH,I r.aJ,I r.Pc,I r.Sub.Kind,I r.Sub.A,I r.Sub.Pc,I r.Sub.E,I r.Sub.Row,I r.Sub.B,I r.Sub.H,I r.Sub.Out,I r.Sub.Code,.b r.Sub.cS,I r.H,I r.Old,I r.eH,I r.Code]):=
 cQ tok call226 func226 results226 Q Q<|cO Q Q
theorem dY{b:List Int}{s1:AC}(h1:aX κ s1 b):VS prog κ 219 (l9 b) [.h s1 b.length] [] [] (fun r (y:AC)=>.h y r.length) (fun r y=>[ow y r]):=
 cQ tok call219 func219 results219 Q Q<|fun hF=>HE (α:=Int) aW Q Q Q Q fun s2=>ap 0 aW Q Q Q Q Q Q Q (fun h=>(h.a h1)) Q Q hF fun hF s3=>wi hF<|eO s3 [0] Q Q
theorem aGD{h:aE}{s1 s2:AC}(h1:aX κ s1 h.Bytes)(h2:aX κ s2 h.Class):VS prog κ 327 (KV h) [.g [.h s1 h.Bytes.length,.h s2 h.Class.length]] [] [] (fun r (y:AC×AC)=>.g [.h y.1 r.Bytes.length,.h y.2 r.Class.length]) (fun r y=>[ow y.1 r.Bytes,ow y.2 r.Class]):=
 cQ tok call327 func327 results327 Q Q<|eE aC [0] Q<|c1 Q (fun h=>dY (h.a h1)) fun x1 s3=>c1 Q (fun h=>dY (h.a h2)) fun x2 s4=>eO (s3,s4) [2,3] Q Q
theorem TG{l:List aK}{s1:AC}(h1:aX κ s1 l):VS prog κ 351 (F9 l) [.h s1 l.length] [] [] (fun r (y:AC)=>.h y r.length) (fun r y=>[ow y r]):=
 cQ tok call351 func351 results351 Q Q<|fun hF=>HE (α:=aK) dI Q Q Q Q fun s2=>wi hF<|OR s2 [0] (fun(p:(List aK)×Int) (s4:AC)=>[(3,.h s4 p.1.length),(4,I p.2)]) [0] [] (fun p s4=>[ow s4 (p.1:List aK)]) id [] (fun(x5:(List aK)) (s5:AC)=>[(3,.h s5 x5.length)]) [] (fun x5 s5=>[ow s5 (x5:List aK)]) Q Q (fun hF1 ⟨x3,x4⟩ s4 hr1=>bA [9] Q Q (o4 qI Q h1 Q fun x6 s6 h2=>c1 Q (fun h=>dY (h.a h2)) fun x7 s7=>fun hG1=>T7 hO [2] ((⟨x7⟩:aK)) s7 dI Q Q Q Q Q Q Q Q Q Q Q Q Q fun s8=>apN 0 3 dI Q Q Q Q Q Q Q Q Q Q Q hG1 fun hG1 s9=>wi hG1<|nxW s9 [4] Q)<|bkW s4 [0] Q) fun x5 s5=>eO s5 [0] Q Q
theorem aGE{l:aB}{s1 s2:AC}(h1:aX κ s1 l.Global)(h2:aX κ s2 l.Own):VS prog κ 328 (KW l) [.g [.h s1 l.Global.length,.h s2 l.Own.length]] [] [] (fun r (y:AC×AC)=>.g [.h y.1 r.Global.length,.h y.2 r.Own.length]) (fun r y=>[ow y.1 r.Global,ow y.2 r.Own]):=
 cQ tok call328 func328 results328 Q Q<|eE aC [0] Q<|c1 Q (fun h=>TG (h.a h1)) fun x1 s3=>c1 Q (fun h=>TG (h.a h2)) fun x2 s4=>eO (s3,s4) [2,3] Q Q
theorem TH{m:Mem}{s1 s2 s3 s4:AC}(h1:aX κ s1 m.aE.Bytes)(h2:aX κ s2 m.aE.Class)(h3:aX κ s3 m.aB.Global)(h4:aX κ s4 m.aB.Own):VS prog κ 285 (GA m) [.g (gM m s1 s2 s3 s4)] [] [] (fun r (y:A4C)=>.g (yM r y)) (fun r y=>(zM r y [])):=
 cQ tok call285 func285 results285 Q Q<|eE aC [0] Q<|c1 Q (fun h=>aGD (h.a h1) (h.a h2)) fun x1 s5=>c1 Q (fun h=>aGE (h.a h3) (h.a h4)) fun x2 s6=>eO (s5.1,s5.2,s6.1,s6.2) [2,3,4,5] Q Q
theorem Q9{slot c:Int}:V0 prog κ 338 (C0 slot c) [I slot,I c] I:=
 cQ tok call338 func338 results338 Q Q<|c0 Q (fun _=>oK) fun x1=>bA [10] Q Q (cO Q Q)<|cO Q Q
theorem aGF{m:Mem}{h at_ width:Int}{s1 s2 s3 s4:AC}(h1:aX κ s1 m.aE.Bytes)(h2:aX κ s2 m.aE.Class)(h3:aX κ s3 m.aB.Global)(h4:aX κ s4 m.aB.Own):V0 prog κ 295 (KX m h at_ width) [.g (gM m s1 s2 s3 s4),I h,I at_,I width] (fun r=>.t [I r.1,I r.2]):=
 cQ tok call295 func295 results295 Q Q<|cX 0 1 (vI m h at_ width) [1,2,3,4] 19 [0] Q (c0 Q (fun h=>V7 (h.a h1) (h.a h2) (h.a h3) (h.a h4)) fun x10=>dQ [14,15] Q Q (bU [0] Q Q)<|c0 Q (fun _=>bE) fun x11=>bU [0] Q Q) fun x1=>bA [19] Q Q (cO Q Q)<|c0 Q (fun h=>JL (h.a h1) (h.a h2) (h.a h3) (h.a h4)) fun x2=>bA [23] Q Q (cO Q Q)<|c0 Q (fun _=>fP) fun x3=>c0 Q (fun h=>qO (h.a h1) (h.a h2)) fun x4=>cX 0 1 (vH at_ x3 x4) [2,10,11] 43 [] Q (c0 Q (fun _=>tI) fun x7=>c0 Q (fun _=>bE) fun x8=>dQ [35,36] Q Q (bU [] Q Q)<|c0 Q (fun _=>tI) fun x9=>bU [] Q Q) fun x5=>bA [43] Q Q (cO Q Q)<|c0 Q (fun _=>Q9) fun x6=>cO Q Q
theorem aIQ{n width:Int}:V0 prog κ 296 (JB n width) [I n,I width] .s:=
 cQ tok call296 func296 results296 Q Q<|cX 0 0 (FD n width) [0,1] 13 [] Q (c0 Q (fun _=>bE) fun x10=>dQ [9,10] Q Q (bU [] Q Q)<|bU [] Q Q) fun x1=>bA [13] Q Q (cO Q Q)<|OR () [1] (fun(p:Int×(List UInt8)×Int) (_:Unit)=>[(0,I p.1),(5,.s p.2.1),(6,I p.2.2)]) [] [] (fun p _=>[]) id [] (fun(p:Int×(List UInt8)) (_:Unit)=>[(0,I p.1),(5,.s p.2)]) [] (fun p _=>[]) Q Q (fun hF2 ⟨x5,x6,x7⟩ _ hr2=>bA [16] Q Q (fun hG2=>T7 oU [] (u8 (Int.tmod x5 256)) () aG7 Q Q Q Q Q Q Q Q Q Q Q Q Q fun s1=>qbo 0 Q Q Q Q Q Q Q<|cat Q Q Q Q hG2 fun hG2=>wi hG2<|BE [] Q)<|yD [] Q) fun⟨x8,x9⟩ _=>bA [29] Q Q (cO Q Q)<|cO Q Q
theorem aD1{m:Mem}{h at_ width n:Int}{s1 s2 s3 s4:AC}(h1:aX κ s1 m.aE.Bytes)(h2:aX κ s2 m.aE.Class)(h3:aX κ s3 m.aB.Global)(h4:aX κ s4 m.aB.Own):VS prog κ 227 (xA m h at_ width n) [.g (gM m s1 s2 s3 s4),I h,I at_,I width,I n] [] [] (fun r (y:A4C)=>.t [.g (yM r.1 y),I r.2]) (fun r y=>(zM r.1 y [])):=
 cQ tok call227 func227 results227 Q Q<|c1 Q (fun h=>TH (h.a h1) (h.a h2) (h.a h3) (h.a h4)) fun x1 s5=>c0 Q (fun h=>aGF (h.a h1) (h.a h2) (h.a h3) (h.a h4)) fun x2=>bA [26] Q Q (eO s5 [2,3,4,5] Q Q)<|c0 Q (fun _=>aIQ) fun x3=>bA [32] Q Q (eO s5 [2,3,4,5] Q Q)<|nM [2] Q Q Q Q (fun _=>qP) fun x4 s6=>eO (s6,s5.2.1,s5.2.2.1,s5.2.2.2) [7,3,4,5] Q Q
theorem aGG{s:aA}{w_:Int}{j:bR}{s1 s2 s3 s4 s5 s6 s7 s8 s9 s10 s11:AC}:VS prog κ 153 (A6 s w_ j) [.g (gS s s1 s2 s3 s4 s5 s6 s7 s8 s9 s10 s11),I w_,.g [.b j.fV,I j.Op.Kind,I j.Op.Cell,I j.Op.dU,I j.Op.eH,I j.aJ,I j.Pc,I j.Sub.Kind,I j.Sub.A,I j.Sub.Pc,I j.Sub.E,I j.Sub.Row,I j.Sub.B,I j.Sub.H,I j.Sub.Out,I j.Sub.Code,.b j.Sub.cS,I j.H,I j.Old,I j.eH,I j.Code]] [] (oS s s1 s2 s3 s4 s5 s6 s7 s8 s9 s10 s11 []) (fun(r:aA×bR) (y:DW)=>.t [.g (yS r.1 y),.g [.b r.2.fV,I r.2.Op.Kind,I r.2.Op.Cell,I r.2.Op.dU,I r.2.Op.eH,I r.2.aJ,I r.2.Pc,I r.2.Sub.Kind,I r.2.Sub.A,I r.2.Sub.Pc,I r.2.Sub.E,I r.2.Sub.Row,I r.2.Sub.B,I r.2.Sub.H,I r.2.Sub.Out,I r.2.Sub.Code,.b r.2.Sub.cS,I r.2.H,I r.2.Old,I r.2.eH,I r.2.Code]]) (fun(r:aA×bR) (y:DW)=>(zS r.1 y [])):=
 cQ tok call153 func153 results153 Q Q<|bA [12,13] Q Q (nM [0,1,2,3,4,5,6] Q Q Q Q (fun _=>IM) fun x1 s12=>bA [28] Q Q (eE aC [11,12] Q<|eO (s12.1,s12.2.1,s12.2.2.1,s12.2.2.2.1,s12.2.2.2.2.1,s12.2.2.2.2.2.1,s12.2.2.2.2.2.2,s8,s9,s10,s11) [15,16,17,18,19,20,21,7,8,9,10] Q Q)<|bA [34] Q Q (eE aC [11,12] Q<|c0 Q (fun _=>bN) fun x2=>eO (s12.1,s12.2.1,s12.2.2.1,s12.2.2.2.1,s12.2.2.2.2.1,s12.2.2.2.2.2.1,s12.2.2.2.2.2.2,s8,s9,s10,s11) [15,16,17,18,19,20,21,7,8,9,10] Q Q)<|c0 Q (fun _=>iK) fun x3=>bA [45] Q Q (eE aC [11,12] Q<|c0 Q (fun _=>bN) fun x4=>eO (s12.1,s12.2.1,s12.2.2.1,s12.2.2.2.1,s12.2.2.2.2.1,s12.2.2.2.2.2.1,s12.2.2.2.2.2.2,s8,s9,s10,s11) [15,16,17,18,19,20,21,7,8,9,10] Q Q)<|eE aC [11,12] Q<|c0 Q (fun _=>bN) fun x5=>eO (s12.1,s12.2.1,s12.2.2.1,s12.2.2.2.1,s12.2.2.2.2.1,s12.2.2.2.2.2.1,s12.2.2.2.2.2.2,s8,s9,s10,s11) [15,16,17,18,19,20,21,7,8,9,10] Q Q)<|bA [56,57] Q Q (c1 Q (fun h=>aD1 (h.o 0 Q) (h.o 1 Q) (h.o 2 Q) (h.o 3 Q)) fun x6 s13=>bA [74] Q Q (eE aC [11,12,19] Q<|c0 Q (fun _=>bN) fun x7=>eO (s13.1,s13.2.1,s13.2.2.1,s13.2.2.2,s5,s6,s7,s8,s9,s10,s11) [15,16,17,18,4,5,6,7,8,9,10] Q Q)<|eE aC [11,12,19] Q<|c0 Q (fun _=>bN) fun x8=>eO (s13.1,s13.2.1,s13.2.2.1,s13.2.2.2,s5,s6,s7,s8,s9,s10,s11) [15,16,17,18,4,5,6,7,8,9,10] Q Q)<|bA [82,83] Q Q (lR oI 7 Q Q Q fun x9 h1 _ h2=>fun hF=>iE 4 h2 h1 Q Q Q Q Q<|iE 4 h2 h1 Q Q Q Q Q<|T7 oEv [] ((⟨2,w_,j.aJ,j.Op.Cell,j.H,j.Op.eH,0⟩:Ev)) () bJ Q Q Q Q Q Q Q Q Q Q Q Q Q fun s14=>ap 10 bJ Q Q Q Q Q Q Q (fun h=>(h.o 18 Q)) Q Q hF fun hF s15=>wi hF<|bA [119] Q Q (eE aC [11,12,17] Q<|c0 Q (fun _=>bN) fun x10=>fun hF=>sR Q<|lN oI 15 [] [85,93] j.H () Q Q Q Q Q Q Q Q<|oN s8 b9.symm [(0,8),(120,8)] [(11,8),(13,8)] Q Q Q<|fR Q Q<|mD (hT:=tok) (s1,s2,s3,s4,s5,s6,s7,s8,s9,s10,s15) [0,1,2,3,4,5,6,19,8,9,10] hF Q results153 Q Q Q Q)<|c0 Q (fun _=>y5) fun x11=>eE aC [11,12,17] Q<|c0 Q (fun _=>bN) fun x12=>fun hF=>sR Q<|lN oI 15 [] [85,93] j.H () Q Q Q Q Q Q Q Q<|oN s8 b9.symm [(0,8),(127,8)] [(11,8),(13,8)] Q Q Q<|fR Q Q<|mD (hT:=tok) (s1,s2,s3,s4,s5,s6,s7,s8,s9,s10,s15) [0,1,2,3,4,5,6,19,8,9,10] hF Q results153 Q Q Q Q)<|bA [130,131] Q Q (nM [0,1,2,3,4,5,6] Q Q Q Q (fun _=>IM) fun x13 s16=>bA [146] Q Q (eE aC [11,12] Q<|eO (s16.1,s16.2.1,s16.2.2.1,s16.2.2.2.1,s16.2.2.2.2.1,s16.2.2.2.2.2.1,s16.2.2.2.2.2.2,s8,s9,s10,s11) [15,16,17,18,19,20,21,7,8,9,10] Q Q)<|eE aC [11,12] Q<|c0 Q (fun _=>bN) fun x14=>eO (s16.1,s16.2.1,s16.2.2.1,s16.2.2.2.1,s16.2.2.2.2.1,s16.2.2.2.2.2.1,s16.2.2.2.2.2.2,s8,s9,s10,s11) [15,16,17,18,19,20,21,7,8,9,10] Q Q)<|eE aC [11,12] Q<|c0 Q (fun _=>bN) fun x15=>eO (s1,s2,s3,s4,s5,s6,s7,s8,s9,s10,s11) [0,1,2,3,4,5,6,7,8,9,10] Q Q
theorem DL{s:aA}{w_:Int}{j:bR}{s1 s2 s3 s4 s5 s6 s7 s8 s9 s10 s11:AC}:VS prog κ 228 (iJ s w_ j) [.g (gS s s1 s2 s3 s4 s5 s6 s7 s8 s9 s10 s11),I w_,.g [.b j.fV,I j.Op.Kind,I j.Op.Cell,I j.Op.dU,I j.Op.eH,I j.aJ,I j.Pc,I j.Sub.Kind,I j.Sub.A,I j.Sub.Pc,I j.Sub.E,I j.Sub.Row,I j.Sub.B,I j.Sub.H,I j.Sub.Out,I j.Sub.Code,.b j.Sub.cS,I j.H,I j.Old,I j.eH,I j.Code]] [] (oS s s1 s2 s3 s4 s5 s6 s7 s8 s9 s10 s11 []) (fun(r:aA) (y:DW)=>.g (yS r y)) (fun(r:aA) (y:DW)=>(zS r y [])):=
 cQ tok call228 func228 results228 Q Q<|fun hF=>T7 oEv [] ((⟨3,w_,j.aJ,j.Op.Cell,j.H,0,0⟩:Ev)) () bJ Q Q Q Q Q Q Q Q Q Q Q Q Q fun s12=>ap 10 bJ Q Q Q Q Q Q Q (fun h=>(h.o 14 Q)) Q Q hF fun hF s13=>wi hF<|eO (s1,s2,s3,s4,s5,s6,s7,s8,s9,s10,s13) [0,1,2,3,4,5,6,7,8,9,10] Q Q
theorem aGH{h:aE}{x at_ width:Int}{s1 s2:AC}(h1:aX κ s1 h.Bytes)(h2:aX κ s2 h.Class):V0 prog κ 298 (GB h x at_ width) [.g [.h s1 h.Bytes.length,.h s2 h.Class.length],I x,I at_,I width] (fun r=>.t [I r.1,.b r.2]):=
 cQ tok call298 func298 results298 Q Q<|cX 0 1 (vJ h x at_ width) [1,2,3,4] 18 [0] Q (c0 Q (fun _=>iK) fun x11=>dQ [13,14] Q Q (bU [0] Q Q)<|c0 Q (fun _=>bE) fun x12=>bU [0] Q Q) fun x1=>bA [18] Q Q (cO Q Q)<|eE aC [0] Q<|c0 Q (fun _=>fP) fun x2=>c0 Q (fun h=>qO (h.a h1) (h.a h2)) fun x3=>cX 0 1 (kI h x at_ width x3) [1,2,3,4,10] 40 [0] Q (dQ [24,25] Q Q (bU [0] Q Q)<|c0 Q (fun _=>tI) fun x8=>c0 Q (fun _=>bE) fun x9=>dQ [31,32,33] Q Q (bU [0] Q Q)<|c0 Q (fun _=>tI) fun x10=>bU [0] Q Q) fun x4=>bA [40] Q Q (cO Q Q)<|eE aC [0] Q<|c0 Q (fun _=>fP) fun x5=>c0 Q (fun _=>Q9) fun x6=>c0 Q (fun h=>L4 (h.a h1)) fun x7=>cO Q Q
theorem JM{s:aA}{j:bR}{s1 s2 s3 s4 s5 s6 s7 s8 s9 s10 s11:AC}(h1:aX κ s1 s.aD.Mem.aE.Bytes)(h2:aX κ s2 s.aD.Mem.aE.Class)(h3:aX κ s3 s.aD.Mem.aB.Global)(h4:aX κ s4 s.aD.Mem.aB.Own)(h5:aX κ s5 s.aD.aH.bO)(h6:aX κ s6 s.aD.aU)(h7:aX κ s7 s.aD.mA)(h8:aX κ s8 s.Cells)(h9:aX κ s9 s.aQ)(h10:aX κ s10 s.cE)(h11:aX κ s11 s.Log):V0 prog κ 229 (l5 s j) [.g (gS s s1 s2 s3 s4 s5 s6 s7 s8 s9 s10 s11),.g [.b j.fV,I j.Op.Kind,I j.Op.Cell,I j.Op.dU,I j.Op.eH,I j.aJ,I j.Pc,I j.Sub.Kind,I j.Sub.A,I j.Sub.Pc,I j.Sub.E,I j.Sub.Row,I j.Sub.B,I j.Sub.H,I j.Sub.Out,I j.Sub.Code,.b j.Sub.cS,I j.H,I j.Old,I j.eH,I j.Code]] I:=
 cQ tok call229 func229 results229 Q Q<|c0 Q (fun h=>aGH (h.a h1) (h.a h2)) fun x1=>cO Q Q
theorem PK{s:aA}{w_:Int}{j:bR}{pc:Int}{s1 s2 s3 s4 s5 s6 s7 s8 s9 s10 s11:AC}(h1:aX κ s1 s.aD.Mem.aE.Bytes)(h2:aX κ s2 s.aD.Mem.aE.Class)(h3:aX κ s3 s.aD.Mem.aB.Global)(h4:aX κ s4 s.aD.Mem.aB.Own)(h5:aX κ s5 s.aD.aH.bO)(h6:aX κ s6 s.aD.aU)(h7:aX κ s7 s.aD.mA)(h8:aX κ s8 s.Cells)(h9:aX κ s9 s.aQ)(h10:aX κ s10 s.cE)(h11:aX κ s11 s.Log):V0 prog κ 230 (oR s w_ j pc) [.g (gS s s1 s2 s3 s4 s5 s6 s7 s8 s9 s10 s11),I w_,.g [.b j.fV,I j.Op.Kind,I j.Op.Cell,I j.Op.dU,I j.Op.eH,I j.aJ,I j.Pc,I j.Sub.Kind,I j.Sub.A,I j.Sub.Pc,I j.Sub.E,I j.Sub.Row,I j.Sub.B,I j.Sub.H,I j.Sub.Out,I j.Sub.Code,.b j.Sub.cS,I j.H,I j.Old,I j.eH,I j.Code],I pc] (fun r=>.g [.b r.fV,I r.Op.Kind,I r.Op.Cell,I r.Op.dU,I r.Op.eH,I r.aJ,I r.Pc,I r.Sub.Kind,I r.Sub.A,I r.Sub.Pc,I r.Sub.E,I r.Sub.Row,I r.Sub.B,I r.Sub.H,I r.Sub.Out,I r.Sub.Code,.b r.Sub.cS,I r.H,I r.Old,I r.eH,I r.Code]):=
 cQ tok call230 func230 results230 Q Q<|o4 aDB Q h5 Q fun x1 _ _=>cX 0 5 (jQ j pc) [3,6,8] 23 [1,2] Q (dQ [18,19] Q Q (bU [1,2] Q Q)<|bU [1,2] Q Q) fun x2=>bA [23] Q Q (c0 Q (fun _=>bN) fun x3=>cO Q Q)<|c0 Q (fun _=>bN) fun x4=>cO Q Q
theorem WB{c:aH}{w_:Int}{s1:AC}(h1:aX κ s1 c.bO):VS prog κ 231 (AK c w_) [.g [I c.aL,.h s1 c.bO.length],I w_] [] [] (fun r (y:AC)=>.t [.g [I r.1.aL,.h y r.1.bO.length],.b r.2]) (fun r y=>[ow y r.1.bO]):=
 cQ tok call231 func231 results231 Q Q<|c1 Q (fun h=>vX (h.a h1)) fun x1 s2=>cX 0 3 (tF w_ x1) [1,4,6] 25 [1,2,3] Q (c0 Q (fun h=>vW (h.a h1)) fun x4=>dQ [11,12] Q Q (bU [1,2,3] Q Q)<|c0 Q (fun _=>bE) fun x5=>dQ [15,16,17] Q Q (bU [1,2,3] Q Q)<|o4 aDB Q h1 Q fun x6 _ _=>bU [1,2,3] Q Q) fun x2=>bA [25] Q Q (eO s2 [1] Q Q)<|lR sN 1 Q Q Q fun x3 h2 _ h3=>fun hF=>iE 3 h3 h2 Q Q Q Q Q<|sR Q<|lN sN 3 [] [28] (⟨false,0,false,0⟩:o5) () Q Q Q Q Q Q Q Q<|oN s2 b9.symm [(32,1)] [(0,1),(2,1)] Q Q Q<|fR Q Q<|mD (hT:=tok) s2 [6] hF Q results231 Q Q Q Q
theorem aGI{s:aA}{w_:Int}{j:bR}{s1 s2 s3 s4 s5 s6 s7 s8 s9 s10 s11:AC}:VS prog κ 154 (A7 s w_ j) [.g (gS s s1 s2 s3 s4 s5 s6 s7 s8 s9 s10 s11),I w_,.g [.b j.fV,I j.Op.Kind,I j.Op.Cell,I j.Op.dU,I j.Op.eH,I j.aJ,I j.Pc,I j.Sub.Kind,I j.Sub.A,I j.Sub.Pc,I j.Sub.E,I j.Sub.Row,I j.Sub.B,I j.Sub.H,I j.Sub.Out,I j.Sub.Code,.b j.Sub.cS,I j.H,I j.Old,I j.eH,I j.Code]] [] (oS s s1 s2 s3 s4 s5 s6 s7 s8 s9 s10 s11 []) (fun(r:aA×bR) (y:DW)=>.t [.g (yS r.1 y),.g [.b r.2.fV,I r.2.Op.Kind,I r.2.Op.Cell,I r.2.Op.dU,I r.2.Op.eH,I r.2.aJ,I r.2.Pc,I r.2.Sub.Kind,I r.2.Sub.A,I r.2.Sub.Pc,I r.2.Sub.E,I r.2.Sub.Row,I r.2.Sub.B,I r.2.Sub.H,I r.2.Sub.Out,I r.2.Sub.Code,.b r.2.Sub.cS,I r.2.H,I r.2.Old,I r.2.eH,I r.2.Code]]) (fun(r:aA×bR) (y:DW)=>(zS r.1 y [])):=
 cQ tok call154 func154 results154 Q Q<|bA [10,11] Q Q (nM [0,1,2,3,4,5,6] Q Q Q Q (fun _=>IM) fun x1 s12=>bA [26] Q Q (eE aC [11,12] Q<|eO (s12.1,s12.2.1,s12.2.2.1,s12.2.2.2.1,s12.2.2.2.2.1,s12.2.2.2.2.2.1,s12.2.2.2.2.2.2,s8,s9,s10,s11) [15,16,17,18,19,20,21,7,8,9,10] Q Q)<|eE aC [11,12] Q<|c0 Q (fun _=>bN) fun x2=>eO (s12.1,s12.2.1,s12.2.2.1,s12.2.2.2.1,s12.2.2.2.2.1,s12.2.2.2.2.2.1,s12.2.2.2.2.2.2,s8,s9,s10,s11) [15,16,17,18,19,20,21,7,8,9,10] Q Q)<|bA [32,33] Q Q (lR oI 7 Q Q Q fun x3 h1 _ h2=>fun hF=>iE 4 h2 h1 Q Q Q Q Q<|ME oI 15 [] h1 () Q Q Q Q Q Q Q Q Q<|wi hF<|nM [0,1,2,3,4,5,6,18,8,9,10] Q Q Q Q (fun _=>DL) fun x4 s13=>bA [48] Q Q (eE aC [11,12,17] Q<|c0 Q (fun _=>bN) fun x5=>eO s13 [19,20,21,22,23,24,25,26,27,28,29] Q Q)<|eE aC [11,12,17] Q<|c0 Q (fun _=>bN) fun x6=>eO s13 [19,20,21,22,23,24,25,26,27,28,29] Q Q)<|bA [55,56] Q Q (c0 Q (fun h=>JM (h.o 0 Q) (h.o 1 Q) (h.o 2 Q) (h.o 3 Q) (h.o 4 Q) (h.o 5 Q) (h.o 6 Q) (h.o 7 Q) (h.o 8 Q) (h.o 9 Q) (h.o 10 Q)) fun x7=>eE aC [11,12] Q<|c0 Q (fun _=>bN) fun x8=>eO (s1,s2,s3,s4,s5,s6,s7,s8,s9,s10,s11) [0,1,2,3,4,5,6,7,8,9,10] Q Q)<|bA [64,65] Q Q (eE aC [11,12] Q<|c0 Q (fun h=>PK (h.o 0 Q) (h.o 1 Q) (h.o 2 Q) (h.o 3 Q) (h.o 4 Q) (h.o 5 Q) (h.o 6 Q) (h.o 7 Q) (h.o 8 Q) (h.o 9 Q) (h.o 10 Q)) fun x9=>eO (s1,s2,s3,s4,s5,s6,s7,s8,s9,s10,s11) [0,1,2,3,4,5,6,7,8,9,10] Q Q)<|bA [71,72] Q Q (c1 Q (fun h=>WB (h.o 4 Q)) fun x10 s14=>eE aC [11,12] Q<|c0 Q (fun _=>bN) fun x11=>eO (s1,s2,s3,s4,s14,s6,s7,s8,s9,s10,s11) [0,1,2,3,15,5,6,7,8,9,10] Q Q)<|eE aC [11,12] Q<|c0 Q (fun _=>bN) fun x12=>eO (s1,s2,s3,s4,s5,s6,s7,s8,s9,s10,s11) [0,1,2,3,4,5,6,7,8,9,10] Q Q
theorem aD2{z:List Int}{w_ h:Int}{s1:AC}(h1:aX κ s1 z):VS prog κ 232 (xB z w_ h) [.h s1 z.length,I w_,I h] [] [] (fun r (y:AC)=>.t [.h y r.1.length,.b r.2]) (fun r y=>[ow y r.1]):=
 cQ tok call232 func232 results232 Q Q<|c1 Q (fun h=>dY (h.a h1)) fun x1 s2=>cX 0 0 (nI w_ h x1) [1,2,8] 23 [0] Q (c0 Q (fun h=>OA (h.a h1)) fun x4=>dQ [13,14] Q Q (bU [0] Q Q)<|c0 Q (fun _=>bE) fun x5=>dQ [17,18,19] Q Q (bU [0] Q Q)<|c0 Q (fun _=>iK) fun x6=>bU [0] Q Q) fun x2=>bA [23] Q Q (eO s2 [0] Q Q)<|lR oI 0 Q Q Q fun x3 h2 _ h3=>fun hF=>iE 0 h3 h2 Q Q Q Q Q<|sR Q<|lN oI 1 [] [6,8,25,29] h () Q Q Q Q Q Q Q Q<|mD (hT:=tok) s2 [4] hF Q results232 Q Q Q Q
theorem aIR{z:List Int}{w_:Int}{s1:AC}(h1:aX κ s1 z):VS prog κ 233 (EE z w_) [.h s1 z.length,I w_] [] [] (fun r (y:AC)=>.t [.h y r.1.length,.b r.2]) (fun r y=>[ow y r.1]):=
 cQ tok call233 func233 results233 Q Q<|c1 Q (fun h=>dY (h.a h1)) fun x1 s2=>cX 0 0 (tG w_ x1) [1,6] 23 [0] Q (c0 Q (fun h=>OA (h.a h1)) fun x4=>dQ [11,12] Q Q (bU [0] Q Q)<|c0 Q (fun _=>bE) fun x5=>dQ [15,16,17] Q Q (bU [0] Q Q)<|NJ Q h1 Q fun x6=>bU [0] Q Q) fun x2=>bA [23] Q Q (eO s2 [0] Q Q)<|lR oI 0 Q Q Q fun x3 h2 _ h3=>fun hF=>iE 0 h3 h2 Q Q Q Q Q<|sR Q<|lN oI 1 [] [4,6,25,28] 0 () Q Q Q Q Q Q Q Q<|mD (hT:=tok) s2 [4] hF Q results233 Q Q Q Q
theorem aGJ{s:aA}{w_:Int}{j:bR}{s1 s2 s3 s4 s5 s6 s7 s8 s9 s10 s11:AC}:VS prog κ 155 (A8 s w_ j) [.g (gS s s1 s2 s3 s4 s5 s6 s7 s8 s9 s10 s11),I w_,.g [.b j.fV,I j.Op.Kind,I j.Op.Cell,I j.Op.dU,I j.Op.eH,I j.aJ,I j.Pc,I j.Sub.Kind,I j.Sub.A,I j.Sub.Pc,I j.Sub.E,I j.Sub.Row,I j.Sub.B,I j.Sub.H,I j.Sub.Out,I j.Sub.Code,.b j.Sub.cS,I j.H,I j.Old,I j.eH,I j.Code]] [] (oS s s1 s2 s3 s4 s5 s6 s7 s8 s9 s10 s11 []) (fun(r:aA×bR) (y:DW)=>.t [.g (yS r.1 y),.g [.b r.2.fV,I r.2.Op.Kind,I r.2.Op.Cell,I r.2.Op.dU,I r.2.Op.eH,I r.2.aJ,I r.2.Pc,I r.2.Sub.Kind,I r.2.Sub.A,I r.2.Sub.Pc,I r.2.Sub.E,I r.2.Sub.Row,I r.2.Sub.B,I r.2.Sub.H,I r.2.Sub.Out,I r.2.Sub.Code,.b r.2.Sub.cS,I r.2.H,I r.2.Old,I r.2.eH,I r.2.Code]]) (fun(r:aA×bR) (y:DW)=>(zS r.1 y [])):=
 cQ tok call155 func155 results155 Q Q<|bA [10,11] Q Q (lR oI 7 Q Q Q fun x1 h1 _ h2=>fun hF=>iE 4 h2 h1 Q Q Q Q Q<|wi hF<|bA [22] Q Q (eE aC [11,12,17] Q<|fun hF=>ME oI 15 [] h1 () Q Q Q Q Q Q Q Q Q<|wi hF<|nM [0,1,2,3,4,5,6,18,8,9,10] Q Q Q Q (fun _=>DL) fun x2 s12=>c0 Q (fun _=>bN) fun x3=>eO s12 [19,20,21,22,23,24,25,26,27,28,29] Q Q)<|eE aC [11,12,17] Q<|c0 Q (fun _=>bN) fun x4=>fun hF=>sR Q<|kB oI 15 [] h1 () Q Q Q Q Q Q Q<|mD (hT:=tok) (s1,s2,s3,s4,s5,s6,s7,s8,s9,s10,s11) [0,1,2,3,4,5,6,18,8,9,10] hF Q results155 Q Q Q Q)<|bA [32,33] Q Q (c1 Q (fun h=>aD2 (h.o 6 Q)) fun x5 s13=>eE aC [11,12] Q<|c0 Q (fun _=>bN) fun x6=>eO (s1,s2,s3,s4,s5,s6,s13,s8,s9,s10,s11) [0,1,2,3,4,5,15,7,8,9,10] Q Q)<|bA [49,50] Q Q (eE aC [11,12,13,14] Q<|lR oI 7 Q Q Q fun x7 h3 _ h4=>fun hF=>iE 4 h4 h3 Q Q Q Q Q<|wi hF<|bA [60] Q Q (eE aC [11,12,17] Q<|c0 Q (fun _=>bN) fun x8=>fun hF=>sR Q<|kB oI 15 [] h3 () Q Q Q Q Q Q Q<|mD (hT:=tok) (s1,s2,s3,s4,s5,s6,s7,s8,s9,s10,s11) [0,1,2,3,4,5,6,18,8,9,10] hF Q results155 Q Q Q Q)<|eE aC [11,12,17] Q<|fun hF=>ME oI 15 [] h3 () Q Q Q Q Q Q Q Q Q<|wi hF<|nM [0,1,2,3,4,5,6,18,8,9,10] Q Q Q Q (fun _=>DL) fun x9 s14=>c0 Q (fun _=>bN) fun x10=>eO s14 [19,20,21,22,23,24,25,26,27,28,29] Q Q)<|bA [70,71] Q Q (c0 Q (fun h=>JM (h.o 0 Q) (h.o 1 Q) (h.o 2 Q) (h.o 3 Q) (h.o 4 Q) (h.o 5 Q) (h.o 6 Q) (h.o 7 Q) (h.o 8 Q) (h.o 9 Q) (h.o 10 Q)) fun x11=>eE aC [11,12] Q<|c0 Q (fun _=>bN) fun x12=>eO (s1,s2,s3,s4,s5,s6,s7,s8,s9,s10,s11) [0,1,2,3,4,5,6,7,8,9,10] Q Q)<|bA [79,80] Q Q (c1 Q (fun h=>aIR (h.o 6 Q)) fun x13 s15=>eE aC [11,12] Q<|c0 Q (fun _=>bN) fun x14=>eO (s1,s2,s3,s4,s5,s6,s15,s8,s9,s10,s11) [0,1,2,3,4,5,15,7,8,9,10] Q Q)<|eE aC [11,12] Q<|c0 Q (fun _=>bN) fun x15=>eO (s1,s2,s3,s4,s5,s6,s7,s8,s9,s10,s11) [0,1,2,3,4,5,6,7,8,9,10] Q Q
theorem aD3{s:aA}{w_:Int}{j:bR}{s1 s2 s3 s4 s5 s6 s7 s8 s9 s10 s11:AC}:VS prog κ 156 (xC s w_ j) [.g (gS s s1 s2 s3 s4 s5 s6 s7 s8 s9 s10 s11),I w_,.g [.b j.fV,I j.Op.Kind,I j.Op.Cell,I j.Op.dU,I j.Op.eH,I j.aJ,I j.Pc,I j.Sub.Kind,I j.Sub.A,I j.Sub.Pc,I j.Sub.E,I j.Sub.Row,I j.Sub.B,I j.Sub.H,I j.Sub.Out,I j.Sub.Code,.b j.Sub.cS,I j.H,I j.Old,I j.eH,I j.Code]] [] (oS s s1 s2 s3 s4 s5 s6 s7 s8 s9 s10 s11 []) (fun(r:aA×bR) (y:DW)=>.t [.g (yS r.1 y),.g [.b r.2.fV,I r.2.Op.Kind,I r.2.Op.Cell,I r.2.Op.dU,I r.2.Op.eH,I r.2.aJ,I r.2.Pc,I r.2.Sub.Kind,I r.2.Sub.A,I r.2.Sub.Pc,I r.2.Sub.E,I r.2.Sub.Row,I r.2.Sub.B,I r.2.Sub.H,I r.2.Sub.Out,I r.2.Sub.Code,.b r.2.Sub.cS,I r.2.H,I r.2.Old,I r.2.eH,I r.2.Code]]) (fun(r:aA×bR) (y:DW)=>(zS r.1 y [])):=
 cQ tok call156 func156 results156 Q Q<|lR sN 4 Q Q Q fun x1 h1 _ h2=>fun hF=>iE 4 h2 h1 Q Q Q Q Q<|wi hF<|bA [18,19] Q Q (bA [22] Q Q (eE aC [11,12,17,18] Q<|c0 Q (fun _=>bN) fun x2=>fun hF=>sR Q<|kB sN 15 [] h1 () Q Q Q Q Q Q Q<|mD (hT:=tok) (s1,s2,s3,s4,s5,s6,s7,s8,s9,s10,s11) [0,1,2,3,19,5,6,7,8,9,10] hF Q results156 Q Q Q Q)<|bA [27] Q Q (eE aC [11,12,17,18] Q<|c0 Q (fun _=>bN) fun x3=>fun hF=>sR Q<|kB sN 15 [] h1 () Q Q Q Q Q Q Q<|mD (hT:=tok) (s1,s2,s3,s4,s5,s6,s7,s8,s9,s10,s11) [0,1,2,3,19,5,6,7,8,9,10] hF Q results156 Q Q Q Q)<|lR oI 7 Q Q Q fun x4 h3 _ h4=>fun hF=>iE 6 h4 h3 Q Q Q Q Q<|ME oI 19 [] h3 () Q Q Q Q Q Q Q Q Q<|ME sN 15 [] h1 () Q Q Q Q Q Q Q Q Q<|wi hF<|nM [0,1,2,3,23,5,6,22,8,9,10] Q Q Q Q (fun _=>DL) fun x5 s12=>bA [45] Q Q (eE aC [11,12,17,18,21] Q<|c0 Q (fun _=>bN) fun x6=>eO s12 [24,25,26,27,28,29,30,31,32,33,34] Q Q)<|eE aC [11,12,17,18,21] Q<|c0 Q (fun _=>bN) fun x7=>eO s12 [24,25,26,27,28,29,30,31,32,33,34] Q Q)<|bA [52,53] Q Q (fun hF=>ME sN 15 [] h1 () Q Q Q Q Q Q Q Q Q<|wi hF<|c0 Q (fun h=>JM (h.o 0 Q) (h.o 1 Q) (h.o 2 Q) (h.o 3 Q) (h.o 19 Q) (h.o 5 Q) (h.o 6 Q) (h.o 7 Q) (h.o 8 Q) (h.o 9 Q) (h.o 10 Q)) fun x8=>eE aC [11,12,17,18] Q<|c0 Q (fun _=>bN) fun x9=>eO (s1,s2,s3,s4,s5,s6,s7,s8,s9,s10,s11) [0,1,2,3,19,5,6,7,8,9,10] Q Q)<|bA [61,62] Q Q (eE aC [11,12,17,18] Q<|fun hF=>ME sN 15 [] h1 () Q Q Q Q Q Q Q Q Q<|wi hF<|c0 Q (fun h=>PK (h.o 0 Q) (h.o 1 Q) (h.o 2 Q) (h.o 3 Q) (h.o 19 Q) (h.o 5 Q) (h.o 6 Q) (h.o 7 Q) (h.o 8 Q) (h.o 9 Q) (h.o 10 Q)) fun x10=>eO (s1,s2,s3,s4,s5,s6,s7,s8,s9,s10,s11) [0,1,2,3,19,5,6,7,8,9,10] Q Q)<|eE aC [11,12,17,18] Q<|c0 Q (fun _=>bN) fun x11=>fun hF=>sR Q<|kB sN 15 [] h1 () Q Q Q Q Q Q Q<|mD (hT:=tok) (s1,s2,s3,s4,s5,s6,s7,s8,s9,s10,s11) [0,1,2,3,19,5,6,7,8,9,10] hF Q results156 Q Q Q Q
theorem aAM{s:aA}{w_:Int}{j:bR}{s1 s2 s3 s4 s5 s6 s7 s8 s9 s10 s11:AC}:VS prog κ 157 (tH s w_ j) [.g (gS s s1 s2 s3 s4 s5 s6 s7 s8 s9 s10 s11),I w_,.g [.b j.fV,I j.Op.Kind,I j.Op.Cell,I j.Op.dU,I j.Op.eH,I j.aJ,I j.Pc,I j.Sub.Kind,I j.Sub.A,I j.Sub.Pc,I j.Sub.E,I j.Sub.Row,I j.Sub.B,I j.Sub.H,I j.Sub.Out,I j.Sub.Code,.b j.Sub.cS,I j.H,I j.Old,I j.eH,I j.Code]] [] (oS s s1 s2 s3 s4 s5 s6 s7 s8 s9 s10 s11 []) (fun(r:aA×bR) (y:DW)=>.t [.g (yS r.1 y),.g [.b r.2.fV,I r.2.Op.Kind,I r.2.Op.Cell,I r.2.Op.dU,I r.2.Op.eH,I r.2.aJ,I r.2.Pc,I r.2.Sub.Kind,I r.2.Sub.A,I r.2.Sub.Pc,I r.2.Sub.E,I r.2.Sub.Row,I r.2.Sub.B,I r.2.Sub.H,I r.2.Sub.Out,I r.2.Sub.Code,.b r.2.Sub.cS,I r.2.H,I r.2.Old,I r.2.eH,I r.2.Code]]) (fun(r:aA×bR) (y:DW)=>(zS r.1 y [])):=
 cQ tok call157 func157 results157 Q Q<|cX 0 4 (qD s w_ j) [1,3,5,6,7] 18 [0,1,2,3,4,5,6,7,8,9,10,11,12,13,14] Q (dQ [13,14] Q Q (bU [0,1,2,3,4,5,6,7,8,9,10,11,12,13,14] Q Q)<|bU [0,1,2,3,4,5,6,7,8,9,10,11,12,13,14] Q Q) fun x1=>bA [18] Q Q (c1 Q (fun h=>WB (h.o 4 Q)) fun x2 s12=>bA [31] Q Q (eE aC [11,12,16] Q<|c0 Q (fun _=>bN) fun x3=>eO (s1,s2,s3,s4,s12,s6,s7,s8,s9,s10,s11) [0,1,2,3,15,5,6,7,8,9,10] Q Q)<|eE aC [11,12,16] Q<|c0 Q (fun _=>bN) fun x4=>eO (s1,s2,s3,s4,s12,s6,s7,s8,s9,s10,s11) [0,1,2,3,15,5,6,7,8,9,10] Q Q)<|cX 0 4 (fW s w_ j) [1,3,5,6,7] 57 [0,1,2,3,4,5,6,7,8,9,10,11,12,13,14] Q (dQ [41,42] Q Q (bU [0,1,2,3,4,5,6,7,8,9,10,11,12,13,14] Q Q)<|dQ [45,46] Q Q (dQ [49,50] Q Q (bU [0,1,2,3,4,5,6,7,8,9,10,11,12,13,14] Q Q)<|bU [0,1,2,3,4,5,6,7,8,9,10,11,12,13,14] Q Q)<|bU [0,1,2,3,4,5,6,7,8,9,10,11,12,13,14] Q Q) fun x5=>bA [57] Q Q (eE aC [11,12] Q<|c0 Q (fun _=>bN) fun x6=>eO (s1,s2,s3,s4,s5,s6,s7,s8,s9,s10,s11) [0,1,2,3,4,5,6,7,8,9,10] Q Q)<|nM [0,1,2,3,4,5,6] Q Q Q Q (fun _=>IM) fun x7 s13=>bA [75] Q Q (eE aC [11,12] Q<|eO (s13.1,s13.2.1,s13.2.2.1,s13.2.2.2.1,s13.2.2.2.2.1,s13.2.2.2.2.2.1,s13.2.2.2.2.2.2,s8,s9,s10,s11) [15,16,17,18,19,20,21,7,8,9,10] Q Q)<|bA [81] Q Q (eE aC [11,12] Q<|c0 Q (fun _=>bN) fun x8=>eO (s13.1,s13.2.1,s13.2.2.1,s13.2.2.2.1,s13.2.2.2.2.1,s13.2.2.2.2.2.1,s13.2.2.2.2.2.2,s8,s9,s10,s11) [15,16,17,18,19,20,21,7,8,9,10] Q Q)<|bA [90] Q Q (c0 Q (fun _=>y5) fun x9=>eE aC [11,12] Q<|c0 Q (fun _=>bN) fun x10=>eO (s13.1,s13.2.1,s13.2.2.1,s13.2.2.2.1,s13.2.2.2.2.1,s13.2.2.2.2.2.1,s13.2.2.2.2.2.2,s8,s9,s10,s11) [15,16,17,18,19,20,21,7,8,9,10] Q Q)<|eE aC [11,12] Q<|c0 Q (fun _=>bN) fun x11=>eO (s13.1,s13.2.1,s13.2.2.1,s13.2.2.2.1,s13.2.2.2.2.1,s13.2.2.2.2.2.1,s13.2.2.2.2.2.2,s8,s9,s10,s11) [15,16,17,18,19,20,21,7,8,9,10] Q Q
theorem WC{s:aA}{w_:Int}{s1 s2 s3 s4 s5 s6 s7 s8 s9 s10 s11:AC}:VS prog κ 88 (vK s w_) [.g (gS s s1 s2 s3 s4 s5 s6 s7 s8 s9 s10 s11),I w_] [] (oS s s1 s2 s3 s4 s5 s6 s7 s8 s9 s10 s11 []) (fun(r:aA) (y:DW)=>.g (yS r y)) (fun(r:aA) (y:DW)=>(zS r y [])):=
 cQ tok call88 func88 results88 Q Q<|lR b8 8 Q Q Q fun x1 h1 _ h2=>fun hF=>iE 2 h2 h1 Q Q Q Q Q<|wi hF<|bA [13] Q Q (fun hF=>ME b8 13 [] h1 () Q Q Q Q Q Q Q Q Q<|wi hF<|nM [0,1,2,3,4,5,6,7,17,9,10] Q Q Q Q (fun _=>aAI) fun x2 s12=>eO s12 [18,19,20,21,22,23,24,25,26,27,28] Q Q)<|bA [19] Q Q (fun hF=>T7 oEv [] ((⟨4,w_,x1.aJ,x1.Op.Cell,x1.H,x1.eH,x1.Code⟩:Ev)) () bJ Q Q Q Q Q Q Q Q Q Q Q Q Q fun s13=>ap 10 bJ Q Q Q Q Q Q Q (fun h=>(h.o 17 Q)) Q Q hF fun hF s14=>iE 2 h2 h1 Q Q Q Q Q<|sR Q<|lN b8 13 [] [7,39] (⟨false,(⟨0,0,0,0⟩:eU),0,0,(⟨0,0,0,0,0,0,0,0,0,false⟩:Sub),0,0,0,0⟩:bR) () Q Q Q Q Q Q Q Q<|oN s9 b9.symm [(0,9),(43,9)] [(11,9),(12,9)] Q Q Q<|fR Q Q<|mD (hT:=tok) (s1,s2,s3,s4,s5,s6,s7,s8,s9,s10,s14) [0,1,2,3,4,5,6,7,18,9,10] hF Q results88 Q Q Q Q)<|gG 1 4 (fun(p:aA×bR)=>cN w_ p.1 p.2) [1,2,4,5] (fun(p:aA×bR) (u:DW)=>[]) [12] (fun p u=>(zS p.1 u [.box 0 (yS p.1 u),.box 3 [.b p.2.fV,I p.2.Op.Kind,I p.2.Op.Cell,I p.2.Op.dU,I p.2.Op.eH,I p.2.aJ,I p.2.Pc,I p.2.Sub.Kind,I p.2.Sub.A,I p.2.Sub.Pc,I p.2.Sub.E,I p.2.Sub.Row,I p.2.Sub.B,I p.2.Sub.H,I p.2.Sub.Out,I p.2.Sub.Code,.b p.2.Sub.cS,I p.2.H,I p.2.Old,I p.2.eH,I p.2.Code]])) Q (bA [54,55] Q Q (fun hF=>ME b8 13 [] h1 () Q Q Q Q Q Q Q Q Q<|wi hF<|nM [0,1,2,3,4,5,6,7,17,9,10] Q Q Q Q (fun _=>aGG) fun x6 s26=>kZ (p:=(x6.1,x6.2)) s26 [18,19,20,21,22,23,24,25,26,27,28,11,16,12] Q Q)<|bA [63,64] Q Q (fun hF=>ME b8 13 [] h1 () Q Q Q Q Q Q Q Q Q<|wi hF<|nM [0,1,2,3,4,5,6,7,17,9,10] Q Q Q Q (fun _=>aGI) fun x7 s27=>kZ (p:=(x7.1,x7.2)) s27 [18,19,20,21,22,23,24,25,26,27,28,11,16,12] Q Q)<|bA [72,73] Q Q (fun hF=>ME b8 13 [] h1 () Q Q Q Q Q Q Q Q Q<|wi hF<|nM [0,1,2,3,4,5,6,7,17,9,10] Q Q Q Q (fun _=>aGJ) fun x8 s28=>kZ (p:=(x8.1,x8.2)) s28 [18,19,20,21,22,23,24,25,26,27,28,11,16,12] Q Q)<|bA [81,82] Q Q (fun hF=>ME b8 13 [] h1 () Q Q Q Q Q Q Q Q Q<|wi hF<|nM [0,1,2,3,4,5,6,7,17,9,10] Q Q Q Q (fun _=>aD3) fun x9 s29=>kZ (p:=(x9.1,x9.2)) s29 [18,19,20,21,22,23,24,25,26,27,28,11,16,12] Q Q)<|fun hF=>ME b8 13 [] h1 () Q Q Q Q Q Q Q Q Q<|wi hF<|nM [0,1,2,3,4,5,6,7,17,9,10] Q Q Q Q (fun _=>aAM) fun x10 s30=>kZ (p:=(x10.1,x10.2)) s30 [18,19,20,21,22,23,24,25,26,27,28,11,16,12] Q Q) fun⟨x3,x4⟩ ⟨s15,s16,s17,s18,s19,s20,s21,s22,s23,s24,s25⟩=>lR b8 8 Q Q Q fun x5 h3 _ h4=>fun hF=>iE 4 h4 h3 Q Q Q Q Q<|sR Q<|lN b8 14 [] [91] x4 () Q Q Q Q Q Q Q Q<|oN s23 b9.symm [(95,9)] [(11,9),(13,9)] Q Q Q<|fR Q Q<|mD (hT:=tok) (s15,s16,s17,s18,s19,s20,s21,s22,s23,s24,s25) [0,1,2,3,4,5,6,7,17,9,10] hF Q results88 Q Q Q Q
theorem aD4{l:List aS}{s1:AC}(h1:aX κ s1 l):VS prog κ 287 (IF l) [.h s1 l.length] [] [] (fun r (y:AC)=>.h y r.length) (fun r y=>[ow y r]):=
 cQ tok call287 func287 results287 Q Q<|fun hF=>HE (α:=aS) rA Q Q Q Q fun s2=>wi hF<|OR s2 [0] (fun(p:(List aS)×Int) (s4:AC)=>[(3,.h s4 p.1.length),(4,I p.2)]) [0] [] (fun p s4=>[ow s4 (p.1:List aS)]) id [] (fun(x5:(List aS)) (s5:AC)=>[(3,.h s5 x5.length)]) [] (fun x5 s5=>[ow s5 (x5:List aS)]) Q Q (fun hF1 ⟨x3,x4⟩ s4 hr1=>bA [9] Q Q (fun hG1=>HE (α:=c9) jS Q Q Q Q fun s6=>wi hG1<|o4 EI Q h1 Q fun x6 s7 h2=>fun hG1=>ap 1 jS Q Q Q Q Q Q Q (fun h=>(h.a h2)) Q Q hG1 fun hG1 s8=>T7 jI [1] ((⟨([]:List c9)++x6.Rows⟩:aS)) s8 rA Q Q Q Q Q Q Q Q Q Q Q Q Q fun s9=>apN 0 3 rA Q Q Q Q Q Q Q Q Q Q Q hG1 fun hG1 s10=>wi hG1<|nxW s10 [4] Q)<|bkW s4 [0] Q) fun x5 s5=>eO s5 [0] Q Q
theorem vY{b:aD}{s1 s2 s3 s4 s5 s6 s7:AC}(h1:aX κ s1 b.Mem.aE.Bytes)(h2:aX κ s2 b.Mem.aE.Class)(h3:aX κ s3 b.Mem.aB.Global)(h4:aX κ s4 b.Mem.aB.Own)(h5:aX κ s5 b.aH.bO)(h6:aX κ s6 b.aU)(h7:aX κ s7 b.mA):VS prog κ 218 (IG b) [.g (gB b s1 s2 s3 s4 s5 s6 s7)] [] [] (fun r (y:A7C)=>.g (yB r y)) (fun r y=>(zB r y [])):=
 cQ tok call218 func218 results218 Q Q<|eE aC [0] Q<|c1 Q (fun h=>TH (h.a h1) (h.a h2) (h.a h3) (h.a h4)) fun x1 s8=>c1 Q (fun h=>vX (h.a h5)) fun x2 s9=>c1 Q (fun h=>aD4 (h.a h6)) fun x3 s10=>c1 Q (fun h=>dY (h.a h7)) fun x4 s11=>eO (s8.1,s8.2.1,s8.2.2.1,s8.2.2.2,s9,s10,s11) [2,3,4,5,6,7,8] Q Q
theorem RB{s:aA}{s1 s2 s3 s4 s5 s6 s7 s8 s9 s10 s11:AC}(h1:aX κ s1 s.aD.Mem.aE.Bytes)(h2:aX κ s2 s.aD.Mem.aE.Class)(h3:aX κ s3 s.aD.Mem.aB.Global)(h4:aX κ s4 s.aD.Mem.aB.Own)(h5:aX κ s5 s.aD.aH.bO)(h6:aX κ s6 s.aD.aU)(h7:aX κ s7 s.aD.mA)(h8:aX κ s8 s.Cells)(h9:aX κ s9 s.aQ)(h10:aX κ s10 s.cE)(h11:aX κ s11 s.Log):VS prog κ 145 (C1 s) [.g (gS s s1 s2 s3 s4 s5 s6 s7 s8 s9 s10 s11)] [] [] (fun r (y:DW)=>.g (yS r y)) (fun r y=>(zS r y [])):=
 cQ tok call145 func145 results145 Q Q<|gG 0 2 GZ [2] (fun(x1:aA) (u:DW)=>[]) [] (fun x1 u=>(zS x1 u [.box 1 (yS x1 u)])) Q (eE aC [0] Q<|fun hF=>bd hF fun x2 hA1 hF=>bd hF fun x3 hA2 hF=>nd hF fun hA3 hF=>bd hF fun x4 hA4 hF=>nd hF fun hA5 hF=>aMB Q Q (have hq1:=rb hA1;wi hq1<|c1 Q (fun h=>vY (h.a h1) (h.a h2) (h.a h3) (h.a h4) (h.a h5) (h.a h6) (h.a h7)) fun u1 s30=>fun hq1=>match u1,hq1 with | _,rfl=>aMB Q Q (have hq2:=rb hA2;wi hq2<|c1 Q (fun h=>dY (h.a h8)) fun u2 s31=>fun hq2=>match u2,hq2 with | _,rfl=>gE Q Q (HE (α:=bR) bS Q Q Q Q fun s32=>gE Q Q (have hq3:=rn hA3;ap 10 bS Q Q Q Q Q Q Q (fun h=>(h.a h9)) Q Q hq3 fun hq3 s33=>gE Q Q (have hq4:=rb hA4;wi hq4<|c1 Q (fun h=>bH (h.a h10)) fun u3 s34=>fun hq4=>match u3,hq4 with | _,rfl=>HE (α:=Ev) bJ Q Q Q Q fun s35=>have hq5:=rn hA5;ap 12 bJ Q Q Q Q Q Q Q (fun h=>(h.a h11)) Q Q hq5 fun hq5 s36=>wi hF<|kZ (p:=((⟨x2,x3,([]:List bR)++s.aQ,x4,([]:List Ev)++s.Log,s.aJ⟩:aA))) (s30.1,s30.2.1,s30.2.2.1,s30.2.2.2.1,s30.2.2.2.2.1,s30.2.2.2.2.2.1,s30.2.2.2.2.2.2,s31,s33,s34,s36) [2,3,4,5,6,7,8,9,10,11,12,1] Q Q) (HE (α:=Ev) bJ Q Q Q Q fun s37=>have hq6:=rb hA4;wi hq6<|c1 Q (fun h=>bH (h.a h10)) fun u4 s38=>fun hq6=>match u4,hq6 with | _,rfl=>have hq7:=rn hA5;ap 11 bJ Q Q Q Q Q Q Q (fun h=>(h.a h11)) Q Q hq7 fun hq7 s39=>wi hF<|kZ (p:=((⟨x2,x3,([]:List bR)++s.aQ,x4,([]:List Ev)++s.Log,s.aJ⟩:aA))) (s30.1,s30.2.1,s30.2.2.1,s30.2.2.2.1,s30.2.2.2.2.1,s30.2.2.2.2.2.1,s30.2.2.2.2.2.2,s31,s33,s38,s39) [2,3,4,5,6,7,8,9,10,12,11,1] Q Q)) (HE (α:=Ev) bJ Q Q Q Q fun s40=>have hq8:=rn hA3;ap 10 bS Q Q Q Q Q Q Q (fun h=>(h.a h9)) Q Q hq8 fun hq8 s41=>have hq9:=rb hA4;wi hq9<|c1 Q (fun h=>bH (h.a h10)) fun u5 s42=>fun hq9=>match u5,hq9 with | _,rfl=>have hq10:=rn hA5;ap 11 bJ Q Q Q Q Q Q Q (fun h=>(h.a h11)) Q Q hq10 fun hq10 s43=>wi hF<|kZ (p:=((⟨x2,x3,([]:List bR)++s.aQ,x4,([]:List Ev)++s.Log,s.aJ⟩:aA))) (s30.1,s30.2.1,s30.2.2.1,s30.2.2.2.1,s30.2.2.2.2.1,s30.2.2.2.2.2.1,s30.2.2.2.2.2.2,s31,s41,s42,s43) [2,3,4,5,6,7,8,9,10,12,11,1] Q Q)) (HE (α:=Ev) bJ Q Q Q Q fun s44=>HE (α:=bR) bS Q Q Q Q fun s45=>have hq11:=rn hA3;ap 11 bS Q Q Q Q Q Q Q (fun h=>(h.a h9)) Q Q hq11 fun hq11 s46=>have hq12:=rb hA4;wi hq12<|c1 Q (fun h=>bH (h.a h10)) fun u6 s47=>fun hq12=>match u6,hq12 with | _,rfl=>have hq13:=rn hA5;ap 10 bJ Q Q Q Q Q Q Q (fun h=>(h.a h11)) Q Q hq13 fun hq13 s48=>wi hF<|kZ (p:=((⟨x2,x3,([]:List bR)++s.aQ,x4,([]:List Ev)++s.Log,s.aJ⟩:aA))) (s30.1,s30.2.1,s30.2.2.1,s30.2.2.2.1,s30.2.2.2.2.1,s30.2.2.2.2.2.1,s30.2.2.2.2.2.2,s31,s46,s47,s48) [2,3,4,5,6,7,8,9,11,12,10,1] Q Q)) (HE (α:=bR) bS Q Q Q Q fun s49=>gE Q Q (have hq14:=rb hA2;wi hq14<|c1 Q (fun h=>dY (h.a h8)) fun u7 s50=>fun hq14=>match u7,hq14 with | _,rfl=>gE Q Q (have hq15:=rn hA3;ap 9 bS Q Q Q Q Q Q Q (fun h=>(h.a h9)) Q Q hq15 fun hq15 s51=>gE Q Q (have hq16:=rb hA4;wi hq16<|c1 Q (fun h=>bH (h.a h10)) fun u8 s52=>fun hq16=>match u8,hq16 with | _,rfl=>HE (α:=Ev) bJ Q Q Q Q fun s53=>have hq17:=rn hA5;ap 12 bJ Q Q Q Q Q Q Q (fun h=>(h.a h11)) Q Q hq17 fun hq17 s54=>wi hF<|kZ (p:=((⟨x2,x3,([]:List bR)++s.aQ,x4,([]:List Ev)++s.Log,s.aJ⟩:aA))) (s30.1,s30.2.1,s30.2.2.1,s30.2.2.2.1,s30.2.2.2.2.1,s30.2.2.2.2.2.1,s30.2.2.2.2.2.2,s50,s51,s52,s54) [2,3,4,5,6,7,8,10,9,11,12,1] Q Q) (HE (α:=Ev) bJ Q Q Q Q fun s55=>have hq18:=rb hA4;wi hq18<|c1 Q (fun h=>bH (h.a h10)) fun u9 s56=>fun hq18=>match u9,hq18 with | _,rfl=>have hq19:=rn hA5;ap 11 bJ Q Q Q Q Q Q Q (fun h=>(h.a h11)) Q Q hq19 fun hq19 s57=>wi hF<|kZ (p:=((⟨x2,x3,([]:List bR)++s.aQ,x4,([]:List Ev)++s.Log,s.aJ⟩:aA))) (s30.1,s30.2.1,s30.2.2.1,s30.2.2.2.1,s30.2.2.2.2.1,s30.2.2.2.2.2.1,s30.2.2.2.2.2.2,s50,s51,s56,s57) [2,3,4,5,6,7,8,10,9,12,11,1] Q Q)) (HE (α:=Ev) bJ Q Q Q Q fun s58=>have hq20:=rn hA3;ap 9 bS Q Q Q Q Q Q Q (fun h=>(h.a h9)) Q Q hq20 fun hq20 s59=>have hq21:=rb hA4;wi hq21<|c1 Q (fun h=>bH (h.a h10)) fun u10 s60=>fun hq21=>match u10,hq21 with | _,rfl=>have hq22:=rn hA5;ap 11 bJ Q Q Q Q Q Q Q (fun h=>(h.a h11)) Q Q hq22 fun hq22 s61=>wi hF<|kZ (p:=((⟨x2,x3,([]:List bR)++s.aQ,x4,([]:List Ev)++s.Log,s.aJ⟩:aA))) (s30.1,s30.2.1,s30.2.2.1,s30.2.2.2.1,s30.2.2.2.2.1,s30.2.2.2.2.2.1,s30.2.2.2.2.2.2,s50,s59,s60,s61) [2,3,4,5,6,7,8,10,9,12,11,1] Q Q)) (HE (α:=Ev) bJ Q Q Q Q fun s62=>have hq23:=rb hA2;wi hq23<|c1 Q (fun h=>dY (h.a h8)) fun u11 s63=>fun hq23=>match u11,hq23 with | _,rfl=>have hq24:=rn hA3;ap 9 bS Q Q Q Q Q Q Q (fun h=>(h.a h9)) Q Q hq24 fun hq24 s64=>have hq25:=rb hA4;wi hq25<|c1 Q (fun h=>bH (h.a h10)) fun u12 s65=>fun hq25=>match u12,hq25 with | _,rfl=>have hq26:=rn hA5;ap 10 bJ Q Q Q Q Q Q Q (fun h=>(h.a h11)) Q Q hq26 fun hq26 s66=>wi hF<|kZ (p:=((⟨x2,x3,([]:List bR)++s.aQ,x4,([]:List Ev)++s.Log,s.aJ⟩:aA))) (s30.1,s30.2.1,s30.2.2.1,s30.2.2.2.1,s30.2.2.2.2.1,s30.2.2.2.2.2.1,s30.2.2.2.2.2.2,s63,s64,s65,s66) [2,3,4,5,6,7,8,11,9,12,10,1] Q Q)) (HE (α:=Ev) bJ Q Q Q Q fun s67=>gE Q Q (have hq27:=rb hA2;wi hq27<|c1 Q (fun h=>dY (h.a h8)) fun u13 s68=>fun hq27=>match u13,hq27 with | _,rfl=>HE (α:=bR) bS Q Q Q Q fun s69=>have hq28:=rn hA3;ap 11 bS Q Q Q Q Q Q Q (fun h=>(h.a h9)) Q Q hq28 fun hq28 s70=>have hq29:=rb hA4;wi hq29<|c1 Q (fun h=>bH (h.a h10)) fun u14 s71=>fun hq29=>match u14,hq29 with | _,rfl=>have hq30:=rn hA5;ap 9 bJ Q Q Q Q Q Q Q (fun h=>(h.a h11)) Q Q hq30 fun hq30 s72=>wi hF<|kZ (p:=((⟨x2,x3,([]:List bR)++s.aQ,x4,([]:List Ev)++s.Log,s.aJ⟩:aA))) (s30.1,s30.2.1,s30.2.2.1,s30.2.2.2.1,s30.2.2.2.2.1,s30.2.2.2.2.2.1,s30.2.2.2.2.2.2,s68,s70,s71,s72) [2,3,4,5,6,7,8,10,11,12,9,1] Q Q) (HE (α:=bR) bS Q Q Q Q fun s73=>have hq31:=rb hA2;wi hq31<|c1 Q (fun h=>dY (h.a h8)) fun u15 s74=>fun hq31=>match u15,hq31 with | _,rfl=>have hq32:=rn hA3;ap 10 bS Q Q Q Q Q Q Q (fun h=>(h.a h9)) Q Q hq32 fun hq32 s75=>have hq33:=rb hA4;wi hq33<|c1 Q (fun h=>bH (h.a h10)) fun u16 s76=>fun hq33=>match u16,hq33 with | _,rfl=>have hq34:=rn hA5;ap 9 bJ Q Q Q Q Q Q Q (fun h=>(h.a h11)) Q Q hq34 fun hq34 s77=>wi hF<|kZ (p:=((⟨x2,x3,([]:List bR)++s.aQ,x4,([]:List Ev)++s.Log,s.aJ⟩:aA))) (s30.1,s30.2.1,s30.2.2.1,s30.2.2.2.1,s30.2.2.2.2.1,s30.2.2.2.2.2.1,s30.2.2.2.2.2.2,s74,s75,s76,s77) [2,3,4,5,6,7,8,11,10,12,9,1] Q Q))) (HE (α:=bR) bS Q Q Q Q fun s78=>gE Q Q (have hq35:=rb hA1;wi hq35<|c1 Q (fun h=>vY (h.a h1) (h.a h2) (h.a h3) (h.a h4) (h.a h5) (h.a h6) (h.a h7)) fun u17 s79=>fun hq35=>match u17,hq35 with | _,rfl=>gE Q Q (have hq36:=rb hA2;wi hq36<|c1 Q (fun h=>dY (h.a h8)) fun u18 s80=>fun hq36=>match u18,hq36 with | _,rfl=>gE Q Q (have hq37:=rn hA3;ap 2 bS Q Q Q Q Q Q Q (fun h=>(h.a h9)) Q Q hq37 fun hq37 s81=>gE Q Q (have hq38:=rb hA4;wi hq38<|c1 Q (fun h=>bH (h.a h10)) fun u19 s82=>fun hq38=>match u19,hq38 with | _,rfl=>HE (α:=Ev) bJ Q Q Q Q fun s83=>have hq39:=rn hA5;ap 12 bJ Q Q Q Q Q Q Q (fun h=>(h.a h11)) Q Q hq39 fun hq39 s84=>wi hF<|kZ (p:=((⟨x2,x3,([]:List bR)++s.aQ,x4,([]:List Ev)++s.Log,s.aJ⟩:aA))) (s79.1,s79.2.1,s79.2.2.1,s79.2.2.2.1,s79.2.2.2.2.1,s79.2.2.2.2.2.1,s79.2.2.2.2.2.2,s80,s81,s82,s84) [3,4,5,6,7,8,9,10,2,11,12,1] Q Q) (HE (α:=Ev) bJ Q Q Q Q fun s85=>have hq40:=rb hA4;wi hq40<|c1 Q (fun h=>bH (h.a h10)) fun u20 s86=>fun hq40=>match u20,hq40 with | _,rfl=>have hq41:=rn hA5;ap 11 bJ Q Q Q Q Q Q Q (fun h=>(h.a h11)) Q Q hq41 fun hq41 s87=>wi hF<|kZ (p:=((⟨x2,x3,([]:List bR)++s.aQ,x4,([]:List Ev)++s.Log,s.aJ⟩:aA))) (s79.1,s79.2.1,s79.2.2.1,s79.2.2.2.1,s79.2.2.2.2.1,s79.2.2.2.2.2.1,s79.2.2.2.2.2.2,s80,s81,s86,s87) [3,4,5,6,7,8,9,10,2,12,11,1] Q Q)) (HE (α:=Ev) bJ Q Q Q Q fun s88=>have hq42:=rn hA3;ap 2 bS Q Q Q Q Q Q Q (fun h=>(h.a h9)) Q Q hq42 fun hq42 s89=>have hq43:=rb hA4;wi hq43<|c1 Q (fun h=>bH (h.a h10)) fun u21 s90=>fun hq43=>match u21,hq43 with | _,rfl=>have hq44:=rn hA5;ap 11 bJ Q Q Q Q Q Q Q (fun h=>(h.a h11)) Q Q hq44 fun hq44 s91=>wi hF<|kZ (p:=((⟨x2,x3,([]:List bR)++s.aQ,x4,([]:List Ev)++s.Log,s.aJ⟩:aA))) (s79.1,s79.2.1,s79.2.2.1,s79.2.2.2.1,s79.2.2.2.2.1,s79.2.2.2.2.2.1,s79.2.2.2.2.2.2,s80,s89,s90,s91) [3,4,5,6,7,8,9,10,2,12,11,1] Q Q)) (HE (α:=Ev) bJ Q Q Q Q fun s92=>have hq45:=rb hA2;wi hq45<|c1 Q (fun h=>dY (h.a h8)) fun u22 s93=>fun hq45=>match u22,hq45 with | _,rfl=>have hq46:=rn hA3;ap 2 bS Q Q Q Q Q Q Q (fun h=>(h.a h9)) Q Q hq46 fun hq46 s94=>have hq47:=rb hA4;wi hq47<|c1 Q (fun h=>bH (h.a h10)) fun u23 s95=>fun hq47=>match u23,hq47 with | _,rfl=>have hq48:=rn hA5;ap 10 bJ Q Q Q Q Q Q Q (fun h=>(h.a h11)) Q Q hq48 fun hq48 s96=>wi hF<|kZ (p:=((⟨x2,x3,([]:List bR)++s.aQ,x4,([]:List Ev)++s.Log,s.aJ⟩:aA))) (s79.1,s79.2.1,s79.2.2.1,s79.2.2.2.1,s79.2.2.2.2.1,s79.2.2.2.2.2.1,s79.2.2.2.2.2.2,s93,s94,s95,s96) [3,4,5,6,7,8,9,11,2,12,10,1] Q Q)) (HE (α:=Ev) bJ Q Q Q Q fun s97=>have hq49:=rb hA1;wi hq49<|c1 Q (fun h=>vY (h.a h1) (h.a h2) (h.a h3) (h.a h4) (h.a h5) (h.a h6) (h.a h7)) fun u24 s98=>fun hq49=>match u24,hq49 with | _,rfl=>have hq50:=rb hA2;wi hq50<|c1 Q (fun h=>dY (h.a h8)) fun u25 s99=>fun hq50=>match u25,hq50 with | _,rfl=>have hq51:=rn hA3;ap 2 bS Q Q Q Q Q Q Q (fun h=>(h.a h9)) Q Q hq51 fun hq51 s100=>have hq52:=rb hA4;wi hq52<|c1 Q (fun h=>bH (h.a h10)) fun u26 s101=>fun hq52=>match u26,hq52 with | _,rfl=>have hq53:=rn hA5;ap 3 bJ Q Q Q Q Q Q Q (fun h=>(h.a h11)) Q Q hq53 fun hq53 s102=>wi hF<|kZ (p:=((⟨x2,x3,([]:List bR)++s.aQ,x4,([]:List Ev)++s.Log,s.aJ⟩:aA))) (s98.1,s98.2.1,s98.2.2.1,s98.2.2.2.1,s98.2.2.2.2.1,s98.2.2.2.2.2.1,s98.2.2.2.2.2.2,s99,s100,s101,s102) [4,5,6,7,8,9,10,11,2,12,3,1] Q Q)) (HE (α:=Ev) bJ Q Q Q Q fun s103=>gE Q Q (have hq54:=rb hA1;wi hq54<|c1 Q (fun h=>vY (h.a h1) (h.a h2) (h.a h3) (h.a h4) (h.a h5) (h.a h6) (h.a h7)) fun u27 s104=>fun hq54=>match u27,hq54 with | _,rfl=>gE Q Q (have hq55:=rb hA2;wi hq55<|c1 Q (fun h=>dY (h.a h8)) fun u28 s105=>fun hq55=>match u28,hq55 with | _,rfl=>HE (α:=bR) bS Q Q Q Q fun s106=>have hq56:=rn hA3;ap 11 bS Q Q Q Q Q Q Q (fun h=>(h.a h9)) Q Q hq56 fun hq56 s107=>have hq57:=rb hA4;wi hq57<|c1 Q (fun h=>bH (h.a h10)) fun u29 s108=>fun hq57=>match u29,hq57 with | _,rfl=>have hq58:=rn hA5;ap 2 bJ Q Q Q Q Q Q Q (fun h=>(h.a h11)) Q Q hq58 fun hq58 s109=>wi hF<|kZ (p:=((⟨x2,x3,([]:List bR)++s.aQ,x4,([]:List Ev)++s.Log,s.aJ⟩:aA))) (s104.1,s104.2.1,s104.2.2.1,s104.2.2.2.1,s104.2.2.2.2.1,s104.2.2.2.2.2.1,s104.2.2.2.2.2.2,s105,s107,s108,s109) [3,4,5,6,7,8,9,10,11,12,2,1] Q Q) (HE (α:=bR) bS Q Q Q Q fun s110=>have hq59:=rb hA2;wi hq59<|c1 Q (fun h=>dY (h.a h8)) fun u30 s111=>fun hq59=>match u30,hq59 with | _,rfl=>have hq60:=rn hA3;ap 10 bS Q Q Q Q Q Q Q (fun h=>(h.a h9)) Q Q hq60 fun hq60 s112=>have hq61:=rb hA4;wi hq61<|c1 Q (fun h=>bH (h.a h10)) fun u31 s113=>fun hq61=>match u31,hq61 with | _,rfl=>have hq62:=rn hA5;ap 2 bJ Q Q Q Q Q Q Q (fun h=>(h.a h11)) Q Q hq62 fun hq62 s114=>wi hF<|kZ (p:=((⟨x2,x3,([]:List bR)++s.aQ,x4,([]:List Ev)++s.Log,s.aJ⟩:aA))) (s104.1,s104.2.1,s104.2.2.1,s104.2.2.2.1,s104.2.2.2.2.1,s104.2.2.2.2.2.1,s104.2.2.2.2.2.2,s111,s112,s113,s114) [3,4,5,6,7,8,9,11,10,12,2,1] Q Q)) (HE (α:=bR) bS Q Q Q Q fun s115=>have hq63:=rb hA1;wi hq63<|c1 Q (fun h=>vY (h.a h1) (h.a h2) (h.a h3) (h.a h4) (h.a h5) (h.a h6) (h.a h7)) fun u32 s116=>fun hq63=>match u32,hq63 with | _,rfl=>have hq64:=rb hA2;wi hq64<|c1 Q (fun h=>dY (h.a h8)) fun u33 s117=>fun hq64=>match u33,hq64 with | _,rfl=>have hq65:=rn hA3;ap 3 bS Q Q Q Q Q Q Q (fun h=>(h.a h9)) Q Q hq65 fun hq65 s118=>have hq66:=rb hA4;wi hq66<|c1 Q (fun h=>bH (h.a h10)) fun u34 s119=>fun hq66=>match u34,hq66 with | _,rfl=>have hq67:=rn hA5;ap 2 bJ Q Q Q Q Q Q Q (fun h=>(h.a h11)) Q Q hq67 fun hq67 s120=>wi hF<|kZ (p:=((⟨x2,x3,([]:List bR)++s.aQ,x4,([]:List Ev)++s.Log,s.aJ⟩:aA))) (s116.1,s116.2.1,s116.2.2.1,s116.2.2.2.1,s116.2.2.2.2.1,s116.2.2.2.2.2.1,s116.2.2.2.2.2.2,s117,s118,s119,s120) [4,5,6,7,8,9,10,11,3,12,2,1] Q Q))) fun x1 ⟨s12,s13,s14,s15,s16,s17,s18,s19,s20,s21,s22⟩=>eO (s12,s13,s14,s15,s16,s17,s18,s19,s20,s21,s22) [0,1,2,3,4,5,6,7,8,9,10] Q Q
theorem aAN{x:fQ}{s1 s2:AC}(h1:aX κ s1 x.cE)(h2:aX κ s2 x.aY):VS prog κ 79 (FE x) [.g [.h s1 x.cE.length,.h s2 x.aY.length]] [] [] (fun r (y:AC)=>.h y r.length) (fun r y=>[ow y r]):=
 cQ tok call79 func79 results79 Q Q<|fun hF=>HE (α:=aA) vO Q Q Q Q fun s3=>wi hF<|c1 Q (fun h=>PE (h.a h1)) fun x1 s4=>bA [13] Q Q (eO s3 [1] Q Q)<|c1 Q (fun h=>RB (h.o 2 Q) (h.o 3 Q) (h.o 4 Q) (h.o 5 Q) (h.o 6 Q) (h.o 7 Q) (h.o 8 Q) (h.o 9 Q) (h.o 10 Q) (h.o 11 Q) (h.o 12 Q)) fun x2 s5=>fun hF=>T7 G4 [14,15,16,17,18,19,20,21,22,23,24] (x2) s5 vO Q Q Q Q Q Q Q Q Q Q Q Q Q fun s6=>apN 1 25 vO Q Q Q Q Q Q Q Q Q Q Q hF fun hF s7=>wi hF<|OR (s7,s4.1,s4.2.1,s4.2.2.1,s4.2.2.2.1,s4.2.2.2.2.1,s4.2.2.2.2.2.1,s4.2.2.2.2.2.2.1,s4.2.2.2.2.2.2.2.1,s4.2.2.2.2.2.2.2.2.1,s4.2.2.2.2.2.2.2.2.2.1,s4.2.2.2.2.2.2.2.2.2.2) [1,4] (fun(p:(List aA)×Int×aA) (u:AC×AC×AC×AC×AC×AC×AC×AC×AC×AC×AC×AC)=>[(3,.h u.1 p.1.length),(5,I p.2.1)]) [26,2,3,4,5,6,7,8,9,10,11,12,13,0] [0] (fun p u=>([ow u.1 (p.1:List aA)]++(zS p.2.2 u.2 [.box 1 (yS p.2.2 u.2)]))) id [] (fun(x9:(List aA)) (s32:AC)=>[(3,.h s32 x9.length)]) [] (fun x9 s32=>[ow s32 (x9:List aA)]) Q Q (fun hF1 ⟨x6,x7,x8⟩ ⟨s20,s21,s22,s23,s24,s25,s26,s27,s28,s29,s30,s31⟩ hr1=>gG 0 2 (fun(p:Bool×aA)=>qE x x6 x7 p.1 p.2) [1,3,4,5] (fun(p:Bool×aA) (_:Unit)=>[(28,.b p.1)]) [0,13] (fun p _=>(oS p.2 s21 s22 s23 s24 s25 s26 s27 s28 s29 s30 s31 [.box 1 (gS p.2 s21 s22 s23 s24 s25 s26 s27 s28 s29 s30 s31)])) Q (dQ [24,25] Q Q (bU (p:=(decide (x7 < 400),x8)) [1,2,3,4,5,6,7,8,9,10,11,12,0,13] Q Q)<|bU (p:=(false,x8)) [1,2,3,4,5,6,7,8,9,10,11,12,0,13] Q Q) fun⟨x10,x11⟩ _=>bA [28] Q Q (gG 2 2 (fun(p:(List aA)×aA)=>xD x7 p.1 p.2) [1,4,5] (fun(p:(List aA)×aA) (u:AC×AC×AC×AC×AC×AC×AC×AC×AC×AC×AC×AC)=>[(3,.h u.1 p.1.length)]) [13] (fun p u=>([ow u.1 (p.1:List aA)]++(zS p.2 u.2 [.box 1 (yS p.2 u.2)]))) Q (NJ Q h2 Q fun x14=>c0 Q (fun _=>bE) fun x15=>bA [36] Q Q (eE aC [13,14] Q<|NJ Q h2 Q fun x16=>nM [0,1,2,3,4,5,6,7,8,9,10] Q Q Q Q (fun _=>WC) fun x17 s45=>c1 Q (fun h=>RB (h.o 16 Q) (h.o 17 Q) (h.o 18 Q) (h.o 19 Q) (h.o 20 Q) (h.o 21 Q) (h.o 22 Q) (h.o 23 Q) (h.o 24 Q) (h.o 25 Q) (h.o 26 Q)) fun x18 s46=>fun hG1=>T7 G4 [27,28,29,30,31,32,33,34,35,36,37] (x18) s46 vO Q Q Q Q Q Q Q Q Q Q Q Q Q fun s47=>apN 12 38 vO Q Q Q Q Q Q Q Q Q Q Q hG1 fun hG1 s48=>wi hG1<|kZ (p:=(x6++([x18]),x17)) (s48,s45.1,s45.2.1,s45.2.2.1,s45.2.2.2.1,s45.2.2.2.2.1,s45.2.2.2.2.2.1,s45.2.2.2.2.2.2.1,s45.2.2.2.2.2.2.2.1,s45.2.2.2.2.2.2.2.2.1,s45.2.2.2.2.2.2.2.2.2.1,s45.2.2.2.2.2.2.2.2.2.2) [39,16,17,18,19,20,21,22,23,24,25,26,11,13] Q Q)<|kZ (p:=(x6,x11)) (s20,s21,s22,s23,s24,s25,s26,s27,s28,s29,s30,s31) [12,0,1,2,3,4,5,6,7,8,9,10,11,13] Q Q) fun⟨x12,x13⟩ ⟨s33,s34,s35,s36,s37,s38,s39,s40,s41,s42,s43,s44⟩=>nxW (s33,s34,s35,s36,s37,s38,s39,s40,s41,s42,s43,s44) [0,1,2,3,4,5,6,7,8,9,10,11,12,13] Q)<|bkW s20 [12] Q) fun x9 s32=>eO s32 [0] Q Q
theorem aAO{code:List UInt8}{s1:AC}(h1:aX κ s1 code):VS prog κ 38 (FF code) [.h s1 code.length] [] [] (fun r (y:AC)=>.h y r.length) (fun r y=>[ow y r]):=
 cQ tok call38 func38 results38 Q Q<|cP Q (fun h=>VV (h.a h1)) fun x1=>dX 0 0 0 3 [] Q Q Q Q Q (fun h=>Q7 (c:=(⟨code,x1.1,x1.2⟩:gQ)) (h.a h1)) fun x2 s2=>c1 Q (fun h=>aAN (h.o 1 Q) (h.o 2 Q)) fun x3 s3=>gG 0 1 (qG code x2) [3] (fun(x4:(List aA)) (s4:AC)=>[(4,.h s4 x4.length)]) [0] (fun x4 s4=>[ow s4 (x4:List aA)]) Q (bA [15] Q Q (fun hF=>cpc 3 Q Q fun hc2=>Y5 hc2 Q Q Q Q Q Q hF fun hF h11=>sF Q<|poR 3 ((aV ((x3.length:Int) - 40)).toNat) x3.length Q Q h11 Q<|mC (AC.sub s3 13 ((aV ((x3.length:Int) - 40)).toNat)) [3,0] hF Q)<|kZ s3 [3,0] Q Q) fun x4 s4=>dX 1 0 0 3 [] Q Q Q Q Q (fun h=>fK (c:=(⟨code,x2.2.1,x2.2.2⟩:gQ)) (h.a h1)) fun x5 _=>dX 1 0 0 3 [] Q Q Q Q Q (fun h=>fK (c:=(⟨code,x5.2.1,x5.2.2⟩:gQ)) (h.a h1)) fun x6 _=>gG 1 1 EF [] (fun(x7:(List aA)) (_:Unit)=>[(4,.h s4 x7.length)]) [] (fun x7 _=>[ow s4 (x7:List aA)]) Q (dX 1 0 0 3 [] Q Q Q Q Q (fun h=>fK (c:=(⟨code,x6.2.1,x6.2.2⟩:gQ)) (h.a h1)) fun x8 _=>bA [29,30] Q Q (OR () [5,6] (fun(p:(List aA)×Int) (_:Unit)=>[(4,.h s4 p.1.length),(7,I p.2)]) [0] [] (fun p _=>[ow s4 (p.1:List aA)]) id [] (fun(x13:(List aA)) (_:Unit)=>[(4,.h s4 x13.length)]) [] (fun x13 _=>[ow s4 (x13:List aA)]) Q Q (fun hF3 ⟨x11,x12⟩ _ hr3=>a1E 0 (mI x6 x11 x12) [4,5,6,7] 56 Q (fun hb1 hk1=>eE aC [] Q<|dQ [35,36] Q Q (o4 G3 Q (hk1.o 0 Q) Q fun x18 s6 h6=>o4 SI Q h6.2.2.2.2.2.2.2.2.1 Q fun x19 _ _=>o4 G3 Q (hk1.o 0 Q) Q fun x20 s7 h7=>o4 SI Q h7.2.2.2.2.2.2.2.2.1 Q fun x21 _ _=>jnV hb1 () [] Q Q)<|jnV hb1 () [] Q Q) fun x14=>bA [56] Q Q (gG 2 1 (xE x12) [5,6,7] (fun(x15:(List aA)) (_:Unit)=>[(4,.h s4 x15.length)]) [] (fun x15 _=>[ow s4 (x15:List aA)]) Q (lR G4 0 Q Q Q fun x16 h2 s5 h3=>fun hG3=>iE 1 h3 h2 Q Q Q Q Q<|wi hG3<|lR b8 12 Q Q Q fun x17 h4 _ h5=>fun hG3=>iE 2 h5 h4 Q Q Q Q Q<|wi hG3<|bA [67] Q Q (fun hG3=>iE 1 h3 h2 Q Q Q Q Q<|iE 2 h5 h4 Q Q Q Q Q<|sF Q<|fR Q Q<|lN b8 15 [] [63,72] ({x17 with Code:=3}:bR) () Q Q Q Q Q Q Q Q<|oN s5.2.2.2.2.2.2.2.2.1 b9.symm [] [(2,9)] Q Q Q<|fR Q Q<|lN G4 1 [4,5,6,7,8,9,10,11,18,13,14] [4,59,68] ({x16 with aQ:=x16.aQ.set x6.1.toNat ({x17 with Code:=3}:bR)}:aA) s5 Q Q Q Q Q Q Q Q<|fR Q Q<|mC () [19] hG3 Q)<|fun hG3=>sF Q<|fR Q Q<|kB b8 15 [] h4 () Q Q Q Q Q Q Q<|fR Q Q<|kB G4 1 [4,5,6,7,8,9,10,11,18,13,14] h2 s5 Q Q Q Q Q Q Q<|fR Q Q<|mC () [19] hG3 Q) fun x15 _=>BE [0] Q)<|yD [0] Q) fun x13 _=>bU (p:=(x13)) [0] Q Q)<|bA [76,77] Q Q (gG 1 1 (EG x5) [5] (fun(x22:(List aA)) (_:Unit)=>[(4,.h s4 x22.length)]) [] (fun x22 _=>[ow s4 (x22:List aA)]) Q (dX 1 0 0 3 [] Q Q Q Q Q (fun h=>aFU (c:=(⟨code,x8.2.1,x8.2.2⟩:gQ)) (h.a h1)) fun x23 _=>bA [79] Q Q (lR G4 0 Q Q Q fun x24 h9 s8 h10=>fun hF=>iE 1 h10 h9 Q Q Q Q Q<|sF Q<|fR Q Q<|lN G4 2 [5,6,7,8,9,10,11,12,13,14,15] [4,22,80] ({x24 with aJ:=(-1)}:aA) s8 Q Q Q Q Q Q Q Q<|fR Q Q<|mC () [16] hF Q)<|bU [0] Q Q) fun x22 _=>fun hF=>cpc 0 Q Q fun hc1=>Y5 hc1 Q Q Q Q Q Q hF fun hF h8=>sR Q<|poR 0 x5.1.toNat x22.length Q Q h8 Q<|mD (hT:=tok) (AC.sub s4 13 x5.1.toNat) [0] hF Q results38 Q Q Q Q)<|bU [0] Q Q) fun x7 _=>eO s4 [0] Q Q
theorem aD5{s:aA}{w_ c:Int}{s1 s2 s3 s4 s5 s6 s7 s8 s9 s10 s11:AC}(h1:aX κ s1 s.aD.Mem.aE.Bytes)(h2:aX κ s2 s.aD.Mem.aE.Class)(h3:aX κ s3 s.aD.Mem.aB.Global)(h4:aX κ s4 s.aD.Mem.aB.Own)(h5:aX κ s5 s.aD.aH.bO)(h6:aX κ s6 s.aD.aU)(h7:aX κ s7 s.aD.mA)(h8:aX κ s8 s.Cells)(h9:aX κ s9 s.aQ)(h10:aX κ s10 s.cE)(h11:aX κ s11 s.Log):V0 prog κ 82 (oC s w_ c) [.g (gS s s1 s2 s3 s4 s5 s6 s7 s8 s9 s10 s11),I w_,I c] .b:=
 cQ tok call82 func82 results82 Q Q<|cX 0 1 lI [] 6 [] Q (eE aC [0] Q<|o4 qI Q h3 Q fun x2 s12 h12=>dQ [17,18] Q Q (c0 Q (fun _=>IL) fun x3=>o4 qI Q h4 Q fun x4 s13 h13=>dQ [31,32,33] Q Q (c0 Q (fun h=>M9 (h.a h1) (h.a h2)) fun x5=>bU [] Q Q)<|bU [] Q Q)<|bU [] Q Q) fun x1=>cO Q Q
theorem YY{l:List aA}{s1:AC}(h1:aX κ s1 l):V0 prog κ 39 (M1 l) [.h s1 l.length] .b:=
 cQ tok call39 func39 results39 Q Q<|fun hF=>DU (false:Bool) aPJ (fun w=>mM Q w) Q Q Q Q Q Q Q hF fun hF s2=>wi hF<|OR () [0] (fun(p:(List Bool)×Int) (_:Unit)=>[(3,.h s2 p.1.length),(4,I p.2)]) [0] [] (fun p _=>[ow s2 (p.1:List Bool)]) Out.brk [] (fun(_:Unit) (_:Unit)=>[]) [] (fun _ _=>[]) Q Q (fun hF1 ⟨x3,x4⟩ _ hr1=>bA [12] Q Q (o4 G3 Q h1 Q fun x5 s3 h2=>c0 Q (fun h=>aDW (h.a h2.1) (h.a h2.2.1) (h.a h2.2.2.1) (h.a h2.2.2.2.1) (h.a h2.2.2.2.2.1) (h.a h2.2.2.2.2.2.1) (h.a h2.2.2.2.2.2.2.1) (h.a h2.2.2.2.2.2.2.2.1) (h.a h2.2.2.2.2.2.2.2.2.1) (h.a h2.2.2.2.2.2.2.2.2.2.1) (h.a h2.2.2.2.2.2.2.2.2.2.2)) fun x6=>bA [20] Q Q (BG hr1 hF1<|cO Q Q)<|OR () [0,4] (fun(p:(List Bool)×Int) (_:Unit)=>[(3,.h s2 p.1.length),(5,I p.2)]) [0] [] (fun p _=>[ow s2 (p.1:List Bool)]) Out.brk [0,4] (fun(x11:(List Bool)) (_:Unit)=>[(3,.h s2 x11.length)]) [] (fun x11 _=>[ow s2 (x11:List Bool)]) Q Q (fun hF2 ⟨x9,x10⟩ _ hr2=>bA [22] Q Q (gG 2 1 (xF x10) [0,4,5] (fun(x12:(List Bool)) (_:Unit)=>[(3,.h s2 x12.length)]) [] (fun x12 _=>[ow s2 (x12:List Bool)]) Q (o4 G3 Q h1 Q fun x13 s4 h3=>o4 SI Q h3.2.2.2.2.2.2.2.2.1 Q fun x14 _ _=>c0 Q (fun _=>Q8) fun x15=>gG 1 4 (oD l x4 x10 x14 x15) [0,4,5,6,7] (fun(x16:(List Bool)) (_:Unit)=>[(3,.h s2 x16.length)]) [3] (fun x16 _=>[ow s2 (x16:List Bool)]) Q (cX 0 4 (C2 l x4 x9 x10 x14 x15) [0,3,4,5,6,7] 58 [0,3] Q (eE aC [1,2,3] Q<|dQ [38,39] Q Q (bU [0,3] Q Q)<|dQ [42,43,44] Q Q (bU [0,3] Q Q)<|o4 G3 Q h1 Q fun x26 s6 h11=>o4 SI Q h11.2.2.2.2.2.2.2.2.1 Q fun x27 _ _=>bU [0,3] Q Q) fun x24=>bA [58] Q Q (lR Go.Gv.oB 0 Q Q Q fun x25 h9 _ h10=>fun hG2=>iE 4 h10 h9 Q Q Q Q Q<|sF Q<|lN Go.Gv.oB 2 [] [3,59] false () Q Q Q Q Q Q Q Q<|mC () [5,1] hG2 Q)<|bU [0,1] Q Q) fun x16 _=>cX 0 4 (xH l x4 x10 x14 x15 x16) [0,3,4,5,6,7] 74 [0,1] Q (dQ [64,65] Q Q (bU [0,1] Q Q)<|dQ [69,70,71] Q Q (bU [0,1] Q Q)<|bU [0,1] Q Q) fun x17=>bA [74] Q Q (bU [0] Q Q)<|gG 0 4 (xG x10 x14) [0,4,5,6] (fun(x18:(List Bool)) (_:Unit)=>[(3,.h s2 x18.length)]) [1] (fun x18 _=>[ow s2 (x18:List Bool)]) Q (lR Go.Gv.oB 0 Q Q Q fun x21 h6 _ h7=>fun hG2=>iE 4 h7 h6 Q Q Q Q Q<|wi hG2<|dQ [80,81] Q Q (fun hG2=>iE 4 h7 h6 Q Q Q Q Q<|sF Q<|lN Go.Gv.oB 2 [] [3,75,77] true () Q Q Q Q Q Q Q Q<|mC () [5,1] hG2 Q)<|o4 G3 Q h1 Q fun x22 s5 h8=>c0 Q (fun h=>aD5 (h.a h8.1) (h.a h8.2.1) (h.a h8.2.2.1) (h.a h8.2.2.2.1) (h.a h8.2.2.2.2.1) (h.a h8.2.2.2.2.2.1) (h.a h8.2.2.2.2.2.2.1) (h.a h8.2.2.2.2.2.2.2.1) (h.a h8.2.2.2.2.2.2.2.2.1) (h.a h8.2.2.2.2.2.2.2.2.2.1) (h.a h8.2.2.2.2.2.2.2.2.2.2)) fun x23=>fun hG2=>iE 4 h7 h6 Q Q Q Q Q<|sF Q<|lN Go.Gv.oB 2 [] [3,75,77] x23 () Q Q Q Q Q Q Q Q<|mC () [6,1] hG2 Q) fun x18 _=>cX 0 4 (IH x10 x18) [0,3,4,5] 100 [0] Q (dQ [93,94] Q Q (lR Go.Gv.oB 0 Q Q Q fun x20 h4 _ h5=>fun hG2=>iE 4 h5 h4 Q Q Q Q Q<|sF Q<|kB Go.Gv.oB 2 [] h4 () Q Q Q Q Q Q Q<|mC () [5] hG2 Q)<|bU [0] Q Q) fun x19=>bA [100] Q Q (BG hr2 hF2<|BG hr1 hF1<|cO Q Q)<|bU [0] Q Q) fun x12 _=>BE [0] Q)<|yD [0] Q) fun x11 _=>BE [0] Q)<|yD [] Q) fun() _=>cO Q Q
theorem WD{j:bR}:V0 prog κ 83 (rU j) [.g [.b j.fV,I j.Op.Kind,I j.Op.Cell,I j.Op.dU,I j.Op.eH,I j.aJ,I j.Pc,I j.Sub.Kind,I j.Sub.A,I j.Sub.Pc,I j.Sub.E,I j.Sub.Row,I j.Sub.B,I j.Sub.H,I j.Sub.Out,I j.Sub.Code,.b j.Sub.cS,I j.H,I j.Old,I j.eH,I j.Code]] .b:=
 cQ tok call83 func83 results83 Q Q<|cX 0 1 oT [] 2 [] Q (dQ [4,5] Q Q (dQ [9,10,11] Q Q (c0 Q (fun _=>JH) fun x2=>bU [] Q Q)<|bU [] Q Q)<|bU [] Q Q) fun x1=>cO Q Q
theorem X3{h:aE}{s1 s2:AC}(h1:aX κ s1 h.Bytes)(h2:aX κ s2 h.Class):V0 prog κ 221 (JC h) [.g [.h s1 h.Bytes.length,.h s2 h.Class.length]] I:=
 cQ tok call221 func221 results221 Q Q<|OR () [7,8] (fun(p:Int×Int) (_:Unit)=>[(3,I p.1),(9,I p.2)]) [] [] (fun p _=>[]) id [] (fun(x5:Int) (_:Unit)=>[(3,I x5)]) [] (fun x5 _=>[]) Q Q (fun hF1 ⟨x3,x4⟩ _ hr1=>bA [10] Q Q (gG 2 1 (C3 x4) [7,8,9] (fun(x6:Int) (_:Unit)=>[(3,I x6)]) [] (fun x6 _=>[]) Q (NJ Q h2 Q fun x7=>bA [14] Q Q (bU [] Q Q)<|bU [] Q Q) fun x6 _=>BE [] Q)<|yD [] Q) fun x5 _=>cO Q Q
theorem X4{s:aA}{w_:Int}{s1 s2 s3 s4 s5 s6 s7 s8 s9 s10 s11:AC}(h1:aX κ s1 s.aD.Mem.aE.Bytes)(h2:aX κ s2 s.aD.Mem.aE.Class)(h3:aX κ s3 s.aD.Mem.aB.Global)(h4:aX κ s4 s.aD.Mem.aB.Own)(h5:aX κ s5 s.aD.aH.bO)(h6:aX κ s6 s.aD.aU)(h7:aX κ s7 s.aD.mA)(h8:aX κ s8 s.Cells)(h9:aX κ s9 s.aQ)(h10:aX κ s10 s.cE)(h11:aX κ s11 s.Log):V0 prog κ 148 (kJ s w_) [.g (gS s s1 s2 s3 s4 s5 s6 s7 s8 s9 s10 s11),I w_] .b:=
 cQ tok call148 func148 results148 Q Q<|o4 SI Q h9 Q fun x1 _ _=>c0 Q (fun _=>WD) fun x2=>bA [14] Q Q (cO Q Q)<|c0 Q (fun _=>JH) fun x3=>cX 0 3 oF [] 4 [] Q (eE aC [0,1,2] Q<|o4 qI Q h3 Q fun x5 s12 h12=>dQ [29,30] Q Q (c0 Q (fun _=>N6) fun x6=>o4 qI Q h4 Q fun x7 s13 h13=>dQ [43,44,45] Q Q (c0 Q (fun h=>X3 (h.a h1) (h.a h2)) fun x8=>bU [] Q Q)<|bU [] Q Q)<|bU [] Q Q) fun x4=>cO Q Q
theorem SM{l:List aA}{w_:Int}{s1:AC}(h1:aX κ s1 l):V0 prog κ 84 (tX l w_) [.h s1 l.length,I w_] .b:=
 cQ tok call84 func84 results84 Q Q<|o4 G3 Q h1 Q fun x1 s2 h2=>o4 SI Q h2.2.2.2.2.2.2.2.2.1 Q fun x2 _ _=>GN 6 [0,1,5] [] Out.brk [] [] Q Q (fun hF1 x4 hr1=>cX 0 2 (iS l w_ x4) [0,1,5,6] 46 [] Q (dQ [22,23] Q Q (o4 G3 Q h1 Q fun x8 s4 h4=>o4 SI Q h4.2.2.2.2.2.2.2.2.1 Q fun x9 _ _=>dQ [32,33,34] Q Q (o4 G3 Q h1 Q fun x10 s5 h5=>o4 SI Q h5.2.2.2.2.2.2.2.2.1 Q fun x11 _ _=>bU [] Q Q)<|bU [] Q Q)<|bU [] Q Q) fun x5=>bA [46] Q Q (o4 G3 Q h1 Q fun x6 s3 h3=>c0 Q (fun h=>X4 (h.a h3.1) (h.a h3.2.1) (h.a h3.2.2.1) (h.a h3.2.2.2.1) (h.a h3.2.2.2.2.1) (h.a h3.2.2.2.2.2.1) (h.a h3.2.2.2.2.2.2.1) (h.a h3.2.2.2.2.2.2.2.1) (h.a h3.2.2.2.2.2.2.2.2.1) (h.a h3.2.2.2.2.2.2.2.2.2.1) (h.a h3.2.2.2.2.2.2.2.2.2.2)) fun x7=>bA [54] Q Q (BG hr1 hF1<|cO Q Q)<|BE [] Q)<|yD [] Q)<|cO Q Q
theorem YZ{l:List aA}{s1:AC}(h1:aX κ s1 l):V0 prog κ 40 (M3 l) [.h s1 l.length] .b:=
 cQ tok call40 func40 results40 Q Q<|GN 9 [0,7,8] [] Out.brk [] [] Q Q (fun hF1 x2 hr1=>bA [10] Q Q (o4 G3 Q h1 Q fun x3 s2 h2=>c0 Q (fun h=>aDH (h.a h2.1) (h.a h2.2.1) (h.a h2.2.2.1) (h.a h2.2.2.2.1) (h.a h2.2.2.2.2.1) (h.a h2.2.2.2.2.2.1) (h.a h2.2.2.2.2.2.2.1) (h.a h2.2.2.2.2.2.2.2.1) (h.a h2.2.2.2.2.2.2.2.2.1) (h.a h2.2.2.2.2.2.2.2.2.2.1) (h.a h2.2.2.2.2.2.2.2.2.2.2)) fun x4=>bA [16] Q Q (BG hr1 hF1<|cO Q Q)<|GN 20 [0,3,7,8,9,18,19] [] Out.brk [0,7,8,9] [] Q Q (fun hF2 x6 hr2=>bA [21] Q Q (o4 SI Q h2.2.2.2.2.2.2.2.2.1 Q fun x7 _ _=>cX 0 4 (C4 x6) [0,3,7,8,9,18,19,20] 40 [] Q (c0 Q (fun _=>WD) fun x9=>dQ [26,27] Q Q (dQ [30,31,32] Q Q (fun hG2=>aSJ Q Q Q Q Q h1 Q Q hG2 fun hG2 s3 h3=>wi hG2<|c0 Q (fun h=>SM (h.a h3)) fun x10=>bU [] Q Q)<|bU [] Q Q)<|bU [] Q Q) fun x8=>bA [40] Q Q (BG hr2 hF2<|BG hr1 hF1<|cO Q Q)<|BE [] Q)<|yD [] Q)<|BE [] Q)<|yD [] Q)<|cO Q Q
theorem qQ{a_ b:List Int}{s1:AC}{s2:AC}(h1:aX κ s1 a_)(h2:aX κ s2 b):V0 prog κ 86 (kL a_ b) [.h s1 a_.length,.h s2 b.length] .b:=
 cQ tok call86 func86 results86 Q Q<|bA [10] Q Q (cO Q Q)<|GN 5 [0,1] [] Out.brk [] [] Q Q (fun hF1 x2 hr1=>bA [14] Q Q (eE aC [] Q<|NJ Q h1 Q fun x3=>NJ Q h2 Q fun x4=>bA [25] Q Q (BG hr1 hF1<|cO Q Q)<|BE [] Q)<|yD [] Q)<|cO Q Q
theorem aAP{a_ b:aE}{s1 s2:AC}{s3 s4:AC}(h1:aX κ s1 a_.Bytes)(h2:aX κ s2 a_.Class)(h3:aX κ s3 b.Bytes)(h4:aX κ s4 b.Class):V0 prog κ 222 (LR a_ b) [.g [.h s1 a_.Bytes.length,.h s2 a_.Class.length],.g [.h s3 b.Bytes.length,.h s4 b.Class.length]] .b:=
 cQ tok call222 func222 results222 Q Q<|cX 0 2 EH [] 4 [] Q (c0 Q (fun h=>qQ (h.a h1) (h.a h3)) fun x2=>dQ [9,10] Q Q (c0 Q (fun h=>qQ (h.a h2) (h.a h4)) fun x3=>bU [] Q Q)<|bU [] Q Q) fun x1=>cO Q Q
theorem TJ{a_ b:List aK}{s1:AC}{s2:AC}(h1:aX κ s1 a_)(h2:aX κ s2 b):V0 prog κ 288 (GC a_ b) [.h s1 a_.length,.h s2 b.length] .b:=
 cQ tok call288 func288 results288 Q Q<|bA [10] Q Q (cO Q Q)<|GN 5 [0,1] [] Out.brk [] [] Q Q (fun hF1 x2 hr1=>bA [14] Q Q (eE aC [] Q<|o4 qI Q h1 Q fun x3 s3 h3=>o4 qI Q h2 Q fun x4 s4 h4=>c0 Q (fun h=>qQ (h.a h3) (h.a h4)) fun x5=>bA [28] Q Q (BG hr1 hF1<|cO Q Q)<|BE [] Q)<|yD [] Q)<|cO Q Q
theorem X5{a_ b:aB}{s1 s2:AC}{s3 s4:AC}(h1:aX κ s1 a_.Global)(h2:aX κ s2 a_.Own)(h3:aX κ s3 b.Global)(h4:aX κ s4 b.Own):V0 prog κ 223 (JE a_ b) [.g [.h s1 a_.Global.length,.h s2 a_.Own.length],.g [.h s3 b.Global.length,.h s4 b.Own.length]] .b:=
 cQ tok call223 func223 results223 Q Q<|cX 0 2 C6 [] 4 [] Q (c0 Q (fun h=>TJ (h.a h1) (h.a h3)) fun x2=>dQ [9,10] Q Q (c0 Q (fun h=>TJ (h.a h2) (h.a h4)) fun x3=>bU [] Q Q)<|bU [] Q Q) fun x1=>cO Q Q
theorem aD6{a_ b:Mem}{s1 s2 s3 s4:AC}{s5 s6 s7 s8:AC}(h1:aX κ s1 a_.aE.Bytes)(h2:aX κ s2 a_.aE.Class)(h3:aX κ s3 a_.aB.Global)(h4:aX κ s4 a_.aB.Own)(h5:aX κ s5 b.aE.Bytes)(h6:aX κ s6 b.aE.Class)(h7:aX κ s7 b.aB.Global)(h8:aX κ s8 b.aB.Own):V0 prog κ 149 (II a_ b) [.g (gM a_ s1 s2 s3 s4),.g (gM b s5 s6 s7 s8)] .b:=
 cQ tok call149 func149 results149 Q Q<|cX 0 2 G0 [] 4 [] Q (c0 Q (fun h=>aAP (h.a h1) (h.a h2) (h.a h5) (h.a h6)) fun x2=>dQ [9,10] Q Q (c0 Q (fun h=>X5 (h.a h3) (h.a h4) (h.a h7) (h.a h8)) fun x3=>bU [] Q Q)<|bU [] Q Q) fun x1=>cO Q Q
theorem X6{a_ b:aH}{s1:AC}{s2:AC}(h1:aX κ s1 a_.bO)(h2:aX κ s2 b.bO):V0 prog κ 150 (C8 a_ b) [.g [I a_.aL,.h s1 a_.bO.length],.g [I b.aL,.h s2 b.bO.length]] .b:=
 cQ tok call150 func150 results150 Q Q<|cX 0 2 (tY a_ b) [2,3] 19 [0,1] Q (dQ [10,11] Q Q (bU [0,1] Q Q)<|bU [0,1] Q Q) fun x1=>bA [19] Q Q (cO Q Q)<|GN 5 [2,3] [0,1] Out.brk [] [] Q Q (fun hF2 x3 hr2=>bA [24] Q Q (eE aC [0,1] Q<|o4 aDB Q h1 Q fun x4 _ _=>o4 aDB Q h2 Q fun x5 _ _=>fun hG2=>neS eqGuardType100 stoodInHeld100 underlying100 (QZ 9997 x4 x5) Q Q Q Q Q Q<|wi hG2<|bA [37] Q Q (BG hr2 hF2<|cO Q Q)<|BE [0,1] Q)<|yD [] Q)<|cO Q Q
theorem X7{a_ b:List aS}{s1:AC}{s2:AC}(h1:aX κ s1 a_)(h2:aX κ s2 b):V0 prog κ 151 (DA a_ b) [.h s1 a_.length,.h s2 b.length] .b:=
 cQ tok call151 func151 results151 Q Q<|bA [11] Q Q (cO Q Q)<|GN 5 [0,1] [] Out.brk [] [] Q Q (fun hF1 x2 hr1=>bA [15] Q Q (eE aC [] Q<|o4 EI Q h1 Q fun x3 s3 h3=>o4 EI Q h2 Q fun x4 s4 h4=>bA [30] Q Q (BG hr1 hF1<|cO Q Q)<|GN 6 [0,1,5] [] Out.brk [0,1,5] [] Q Q (fun hF2 x6 hr2=>o4 EI Q h1 Q fun x7 s5 h5=>bA [38] Q Q (eE aC [0] Q<|o4 EI Q h1 Q fun x8 s6 h6=>o4 aDC Q h6 Q fun x9 _ _=>o4 EI Q h2 Q fun x10 s7 h7=>o4 aDC Q h7 Q fun x11 _ _=>fun hG2=>neS eqGuardType97 stoodInHeld97 underlying97 (aMS 9997 x9 x11) Q Q Q Q Q Q<|wi hG2<|bA [57] Q Q (BG hr2 hF2<|BG hr1 hF1<|cO Q Q)<|BE [] Q)<|yD [] Q)<|BE [] Q)<|yD [] Q)<|cO Q Q
theorem aAQ{a_ b:aD}{s1 s2 s3 s4 s5 s6 s7:AC}{s8 s9 s10 s11 s12 s13 s14:AC}(h1:aX κ s1 a_.Mem.aE.Bytes)(h2:aX κ s2 a_.Mem.aE.Class)(h3:aX κ s3 a_.Mem.aB.Global)(h4:aX κ s4 a_.Mem.aB.Own)(h5:aX κ s5 a_.aH.bO)(h6:aX κ s6 a_.aU)(h7:aX κ s7 a_.mA)(h8:aX κ s8 b.Mem.aE.Bytes)(h9:aX κ s9 b.Mem.aE.Class)(h10:aX κ s10 b.Mem.aB.Global)(h11:aX κ s11 b.Mem.aB.Own)(h12:aX κ s12 b.aH.bO)(h13:aX κ s13 b.aU)(h14:aX κ s14 b.mA):V0 prog κ 85 (FG a_ b) [.g (gB a_ s1 s2 s3 s4 s5 s6 s7),.g (gB b s8 s9 s10 s11 s12 s13 s14)] .b:=
 cQ tok call85 func85 results85 Q Q<|cX 0 2 qH [] 4 [] Q (c0 Q (fun h=>aD6 (h.a h1) (h.a h2) (h.a h3) (h.a h4) (h.a h8) (h.a h9) (h.a h10) (h.a h11)) fun x2=>dQ [9,10] Q Q (c0 Q (fun h=>X6 (h.a h5) (h.a h12)) fun x3=>dQ [15,16,17] Q Q (c0 Q (fun h=>X7 (h.a h6) (h.a h13)) fun x4=>dQ [22,23,24] Q Q (c0 Q (fun h=>qQ (h.a h7) (h.a h14)) fun x5=>bU [] Q Q)<|bU [] Q Q)<|bU [] Q Q)<|bU [] Q Q) fun x1=>cO Q Q
theorem EJ{a_ b:aA}{s1 s2 s3 s4 s5 s6 s7 s8 s9 s10 s11:AC}{s12 s13 s14 s15 s16 s17 s18 s19 s20 s21 s22:AC}(h1:aX κ s1 a_.aD.Mem.aE.Bytes)(h2:aX κ s2 a_.aD.Mem.aE.Class)(h3:aX κ s3 a_.aD.Mem.aB.Global)(h4:aX κ s4 a_.aD.Mem.aB.Own)(h5:aX κ s5 a_.aD.aH.bO)(h6:aX κ s6 a_.aD.aU)(h7:aX κ s7 a_.aD.mA)(h8:aX κ s8 a_.Cells)(h9:aX κ s9 a_.aQ)(h10:aX κ s10 a_.cE)(h11:aX κ s11 a_.Log)(h12:aX κ s12 b.aD.Mem.aE.Bytes)(h13:aX κ s13 b.aD.Mem.aE.Class)(h14:aX κ s14 b.aD.Mem.aB.Global)(h15:aX κ s15 b.aD.Mem.aB.Own)(h16:aX κ s16 b.aD.aH.bO)(h17:aX κ s17 b.aD.aU)(h18:aX κ s18 b.aD.mA)(h19:aX κ s19 b.Cells)(h20:aX κ s20 b.aQ)(h21:aX κ s21 b.cE)(h22:aX κ s22 b.Log):V0 prog κ 41 (vL a_ b) [.g (gS a_ s1 s2 s3 s4 s5 s6 s7 s8 s9 s10 s11),.g (gS b s12 s13 s14 s15 s16 s17 s18 s19 s20 s21 s22)] .b:=
 cQ tok call41 func41 results41 Q Q<|cX 0 2 (iC a_ b) [2,3] 56 [0,1] Q (c0 Q (fun h=>aAQ (h.a h1) (h.a h2) (h.a h3) (h.a h4) (h.a h5) (h.a h6) (h.a h7) (h.a h12) (h.a h13) (h.a h14) (h.a h15) (h.a h16) (h.a h17) (h.a h18)) fun x21=>dQ [14,15] Q Q (bU [0,1] Q Q)<|c0 Q (fun h=>qQ (h.a h8) (h.a h19)) fun x22=>dQ [21,22,23] Q Q (bU [0,1] Q Q)<|dQ [30,31,32] Q Q (bU [0,1] Q Q)<|dQ [39,40,41] Q Q (bU [0,1] Q Q)<|dQ [48,49,50] Q Q (bU [0,1] Q Q)<|bU [0,1] Q Q) fun x1=>bA [56] Q Q (cO Q Q)<|GN 5 [2,3] [0,1] Out.brk [2,3] [0,1] Q Q (fun hF2 x3 hr2=>bA [61] Q Q (eE aC [0,1] Q<|o4 SI Q h9 Q fun x19 _ _=>o4 SI Q h20 Q fun x20 _ _=>fun hG2=>neS eqGuardType91 stoodInHeld91 underlying91 (T8 9996 x19 x20) Q Q Q Q Q Q<|wi hG2<|bA [74] Q Q (BG hr2 hF2<|cO Q Q)<|BE [0,1] Q)<|yD [0,1] Q)<|GN 6 [2,3] [0,1] Out.brk [2,3] [0,1] Q Q (fun hF3 x5 hr3=>bA [79] Q Q (eE aC [0,1] Q<|o4 DE Q h10 Q fun x10 s23 h23=>o4 DE Q h21 Q fun x11 s24 h24=>bA [96] Q Q (BG hr3 hF3<|cO Q Q)<|GN 7 [2,3,6] [0,1] Out.brk [2,3,6] [0,1] Q Q (fun hF5 x13 hr5=>o4 DE Q h10 Q fun x14 s25 h25=>bA [105] Q Q (eE aC [0,1,2] Q<|o4 DE Q h10 Q fun x15 s26 h26=>o4 aMT Q h26 Q fun x16 _ _=>o4 DE Q h21 Q fun x17 s27 h27=>o4 aMT Q h27 Q fun x18 _ _=>fun hG5=>neS eqGuardType87 stoodInHeld87 underlying87 (aC8 9997 x16 x18) Q Q Q Q Q Q<|wi hG5<|bA [126] Q Q (BG hr5 hF5<|BG hr3 hF3<|cO Q Q)<|BE [0,1] Q)<|yD [0,1] Q)<|BE [0,1] Q)<|yD [0,1] Q)<|GN 8 [2,3] [0,1] Out.brk [] [] Q Q (fun hF4 x7 hr4=>bA [131] Q Q (eE aC [0,1] Q<|o4 cEv Q h11 Q fun x8 _ _=>o4 cEv Q h22 Q fun x9 _ _=>fun hG4=>neS eqGuardType50 stoodInHeld50 underlying50 (aMR 9997 x8 x9) Q Q Q Q Q Q<|wi hG4<|bA [144] Q Q (BG hr4 hF4<|cO Q Q)<|BE [0,1] Q)<|yD [] Q)<|cO Q Q
theorem EK{x:fQ}{s1 s2:AC}(h1:aX κ s1 x.cE)(h2:aX κ s2 x.aY):VS prog κ 42 (vM x) [.g [.h s1 x.cE.length,.h s2 x.aY.length]] [] [] (fun r (y:DW)=>.g (yS r y)) (fun r y=>(zS r y [])):=
 cQ tok call42 func42 results42 Q Q<|c1 Q (fun h=>PE (h.a h1)) fun x1 s3=>bA [11] Q Q (eO s3 [2,3,4,5,6,7,8,9,10,11,12] Q Q)<|OR s3 [1,2,3] (fun(p:Int×aA) (u:DW)=>[(4,I p.1)]) [2,3,4,5,6,7,8,9,10,11,12,13,0,1] [0,1] (fun p u=>(zS p.2 u [.box 2 (yS p.2 u)])) id [2,3] (fun(x6:aA) (u:DW)=>[]) [1] (fun x6 u=>(zS x6 u [.box 2 (yS x6 u)])) Q Q (fun hF1 ⟨x4,x5⟩ ⟨s15,s16,s17,s18,s19,s20,s21,s22,s23,s24,s25⟩ hr1=>gG 0 3 (fun(p:Bool×aA)=>oH x x4 p.1 p.2) [1,2,3,4] (fun(p:Bool×aA) (_:Unit)=>[(21,.b p.1)]) [12,13] (fun p _=>(oS p.2 s15 s16 s17 s18 s19 s20 s21 s22 s23 s24 s25 [.box 2 (gS p.2 s15 s16 s17 s18 s19 s20 s21 s22 s23 s24 s25)])) Q (dQ [17,18] Q Q (bU (p:=(decide (x4 < 400),x5)) [0,1,2,3,4,5,6,7,8,9,10,11,12,13] Q Q)<|bU (p:=(false,x5)) [0,1,2,3,4,5,6,7,8,9,10,11,12,13] Q Q) fun⟨x7,x8⟩ _=>bA [21] Q Q (gG 2 3 (uB x4) [1,2,3,4] (fun(x9:aA) (u:DW)=>[]) [12,13] (fun x9 u=>(zS x9 u [.box 2 (yS x9 u)])) Q (NJ Q h2 Q fun x10=>c0 Q (fun _=>bE) fun x11=>bA [29] Q Q (eE aC [12,13,14] Q<|NJ Q h2 Q fun x12=>nM [0,1,2,3,4,5,6,7,8,9,10] Q Q Q Q (fun _=>WC) fun x13 s48=>kZ s48 [16,17,18,19,20,21,22,23,24,25,26,11,12,13] Q Q)<|kZ (s15,s16,s17,s18,s19,s20,s21,s22,s23,s24,s25) [0,1,2,3,4,5,6,7,8,9,10,11,12,13] Q Q) fun x9 ⟨s37,s38,s39,s40,s41,s42,s43,s44,s45,s46,s47⟩=>nxW (s37,s38,s39,s40,s41,s42,s43,s44,s45,s46,s47) [0,1,2,3,4,5,6,7,8,9,10,11,12,13] Q)<|bkW (s15,s16,s17,s18,s19,s20,s21,s22,s23,s24,s25) [0,1,2,3,4,5,6,7,8,9,10,11,13] Q) fun x6 ⟨s26,s27,s28,s29,s30,s31,s32,s33,s34,s35,s36⟩=>eO (s26,s27,s28,s29,s30,s31,s32,s33,s34,s35,s36) [0,1,2,3,4,5,6,7,8,9,10] Q Q
theorem aGK{code:List UInt8}{s1:AC}(h1:aX κ s1 code):V0 prog κ 6 (QY code) [.h s1 code.length] .b:=
 cQ tok call6 func6 results6 Q Q<|c0 Q (fun h=>aMU (h.a h1)) fun x1=>bA [11] Q Q (cO Q Q)<|c1 Q (fun h=>SL (h.a h1)) fun x2 s2=>c1 Q (fun h=>XZ (h.o 0 Q) (h.o 1 Q)) fun x3 s3=>c1 Q (fun h=>aIO (h.o 3 Q) (h.o 4 Q) (h.o 5 Q) (h.o 6 Q) (h.o 7 Q) (h.o 8 Q) (h.o 9 Q) (h.o 10 Q) (h.o 11 Q) (h.o 12 Q) (h.o 13 Q)) fun x4 s4=>OR () [0,3,4,5] (fun(p:Int×aA) (_:Unit)=>[(6,I p.1)]) [3,4,5,6,7,8,9,10,11,12,13,14,15,0,1,2] [15,0,1,2] (fun p _=>(zS p.2 s3 [.box 1 (yS p.2 s3)])) Out.brk [0,3,4] (fun(x9:aA) (_:Unit)=>[]) [0,1,2] (fun x9 _=>(zS x9 s3 [.box 1 (yS x9 s3)])) Q Q (fun hF1 ⟨x7,x8⟩ _ hr1=>bA [21] Q Q (gG 0 2 (fun(p:Bool×aA)=>vN x7 p.1 p.2) [0,3,4,5,6] (fun(p:Bool×aA) (_:Unit)=>[(37,.b p.1)]) [12,13,14,15] (fun p _=>(zS p.2 s3 [.box 1 (yS p.2 s3)])) Q (lR oEv 12 Q Q Q fun x24 h5 _ h6=>fun hG1=>iE 2 h6 h5 Q Q Q Q Q<|wi hG1<|dQ [29,30] Q Q (c0 Q (fun h=>M9 (h.o 0 Q) (h.o 1 Q)) fun x25=>fun hG1=>sF Q<|kB oEv 16 [] h5 () Q Q Q Q Q Q Q<|mC (p:=(x25 != 0,x8)) () [0,1,2,3,4,5,6,7,8,9,10,11,19,13,14,15] hG1 Q)<|fun hG1=>sF Q<|kB oEv 16 [] h5 () Q Q Q Q Q Q Q<|mC (p:=(false,x8)) () [0,1,2,3,4,5,6,7,8,9,10,11,19,13,14,15] hG1 Q) fun⟨x22,x23⟩ _=>bA [37] Q Q (BG hr1 hF1<|cO Q Q)<|BE [0,1,2,3,4,5,6,7,8,9,10,11,12,13,14,15] Q)<|yD [0,1,2,3,4,5,6,7,8,9,10,11,13,14,15] Q) fun x9 _=>eE aC [11,14] Q<|fun hF=>aYH Q Q Q Q<|cpc 13 Q Q fun hc1=>aMH hc1 Q Q Q Q Q Q hF fun hF h2=>wi hF<|c1 Q (fun h=>aAH (x:=(⟨x2.cE,(x2.aY.take ((if 60 < (x2.aY.length:Int) then 60 else (x2.aY.length:Int)).toNat)).drop 0⟩:fQ)) (h.o 12 Q) ((h.o 13 Q).sub (HF h2.1 h2.2) h2)) fun x10 s5=>c1 Q (fun h=>aAO (h.a h1)) fun x11 s6=>cX 0 3 mR [] 2 [] Q (eE aC [11,14,15] Q<|dQ [58,59] Q Q (c0 Q (fun h=>YY (h.o 16 Q)) fun x13=>dQ [61,62,63] Q Q (c0 Q (fun h=>YZ (h.o 16 Q)) fun x14=>dQ [65,66,67] Q Q (c0 Q (fun h=>YZ (h.o 17 Q)) fun x15=>c0 Q (fun h=>YY (h.o 17 Q)) fun x16=>dQ [72,73,74] Q Q (c1 Q (fun h=>EK (h.o 12 Q) (h.o 13 Q)) fun x17 s7=>c0 Q (fun h=>EJ (h.o 0 Q) (h.o 1 Q) (h.o 2 Q) (h.o 3 Q) (h.o 4 Q) (h.o 5 Q) (h.o 6 Q) (h.o 7 Q) (h.o 8 Q) (h.o 9 Q) (h.o 10 Q) (h.o 18 Q) (h.o 19 Q) (h.o 20 Q) (h.o 21 Q) (h.o 22 Q) (h.o 23 Q) (h.o 24 Q) (h.o 25 Q) (h.o 26 Q) (h.o 27 Q) (h.o 28 Q)) fun x18=>dQ [78,79,80] Q Q (lR G4 16 Q Q Q fun x19 h3 s8 h4=>fun hF=>iE 3 h4 h3 Q Q Q Q Q<|bd hF fun x20 hA1 hF=>bd hF fun x21 hA2 hF=>gE Q Q (have hq1:=rb hA1;wi hq1<|c1 Q (fun h=>EK (x:=(⟨x2.cE,(x2.aY.take ((if 60 < (x2.aY.length:Int) then 60 else (x2.aY.length:Int)).toNat)).drop 0⟩:fQ)) (h.o 12 Q) ((h.o 13 Q).sub (HF h2.1 h2.2) h2)) fun u1 s10=>fun hq1=>match u1,hq1 with | _,rfl=>have hq2:=rb hA2;wi hq2<|c0 Q (fun h=>EJ (h.o 32 Q) (h.o 33 Q) (h.o 34 Q) (h.o 35 Q) (h.o 36 Q) (h.o 37 Q) (h.o 38 Q) (h.o 39 Q) (h.o 40 Q) (h.o 41 Q) (h.o 42 Q) (h.o 43 Q) (h.o 44 Q) (h.o 45 Q) (h.o 46 Q) (h.o 47 Q) (h.o 48 Q) (h.o 49 Q) (h.o 50 Q) (h.o 51 Q) (h.o 52 Q) (h.o 53 Q)) fun u2=>fun hq2=>match u2,hq2 with | _,rfl=>sF Q<|kB G4 29 [32,33,34,35,36,37,38,39,40,41,42] h3 s8 Q Q Q Q Q Q Q<|mC (p:=(x21)) () [] hF Q) (have hq3:=rb hA1;wi hq3<|c1 Q (fun h=>EK (x:=(⟨x2.cE,(x2.aY.take ((if 60 < (x2.aY.length:Int) then 60 else (x2.aY.length:Int)).toNat)).drop 0⟩:fQ)) (h.o 12 Q) ((h.o 13 Q).sub (HF h2.1 h2.2) h2)) fun u3 s11=>fun hq3=>match u3,hq3 with | _,rfl=>have hq4:=rb hA2;wi hq4<|c0 Q (fun h=>EJ (h.o 32 Q) (h.o 33 Q) (h.o 34 Q) (h.o 35 Q) (h.o 36 Q) (h.o 37 Q) (h.o 38 Q) (h.o 39 Q) (h.o 40 Q) (h.o 41 Q) (h.o 42 Q) (h.o 43 Q) (h.o 44 Q) (h.o 45 Q) (h.o 46 Q) (h.o 47 Q) (h.o 48 Q) (h.o 49 Q) (h.o 50 Q) (h.o 51 Q) (h.o 52 Q) (h.o 53 Q)) fun u4=>fun hq4=>match u4,hq4 with | _,rfl=>sF Q<|kB G4 29 [32,33,34,35,36,37,38,39,40,41,42] h3 s8 Q Q Q Q Q Q Q<|mC (p:=(x21)) () [] hF Q))<|bU (p:=(false)) [] Q Q)<|bU (p:=(false)) [] Q Q)<|bU (p:=(false)) [] Q Q)<|bU (p:=(false)) [] Q Q)<|bU (p:=(false)) [] Q Q) fun x12=>cO Q Q
end
end Go.Proofs.YtabnjpbikjfhoaaGreat
end
noncomputable section
namespace Go.Gv
theorem gD{σ ρ:Type}{f:σ→Option (Step σ ρ)}(n:Nat)(S:Nat→σ)(r:ρ)(hs:∀k,k < n→f (S k)=some (.next (S (k+1))))(he:f (S n)=some (.stop r)):loop f (S 0)=some r:=by
  have key:∀d k,k+d=n→loop f (S k)=some r:=by
    intro d
    induction d with
    | zero => intro k hk; obtain rfl : k = n := by omega
              exact bM he
    | succ d ih=>intro k hk;rw [bX (hs k (by omega))];exact ih (k+1) (by omega)
  exact key n 0 (by omega)
theorem aPK{σ ρ:Type}{f:σ→Option (Step σ ρ)}(n:Nat)(S:Nat→σ)(g:Nat→ρ)
    (h:∀k,k≤n→f (S k)=some (.stop (g k))∨(k < n∧f (S k)=some (.next (S (k+1)))∧g k=g (k+1))):∀k,k≤n→loop f (S k)=some (g k):=by
  have key:∀d k,k+d=n→loop f (S k)=some (g k):=by
    intro d
    induction d with
    | zero =>
      intro k hk
      rcases h k (by omega) with h1 | ⟨h1,_⟩
      · exact bM h1
      · omega
    | succ d ih =>
      intro k hk
      rcases h k (by omega) with h1 | ⟨_,h2,h3⟩
      · exact bM h1
      · rw [bX h2,h3];exact ih (k+1) (by omega)
  intro k hk
  exact key (n - k) k (by omega)
theorem vZ{σ ρ:Type}{f:σ→Option (Step σ ρ)}(n:Nat)(S:Nat→σ)(p:Nat→Prop)[DecidablePred p](yes no:ρ)
    (h1:∀k,k < n→p k→f (S k)=some (.next (S (k+1)))) (h2:∀k,k < n→¬p k→f (S k)=some (.stop no)) (h3:f (S n)=some (.stop yes)) :
    loop f (S 0)=some (if ∀k,k < n→p k then yes else no):=by
  classical
  have key:∀d k,k+d=n→loop f (S k)=some (if ∀j,k≤j→j < n→p j then yes else no):=by
    intro d
    induction d with
    | zero =>
      intro k hk;obtain rfl:k=n:=by omega
      rw [bM h3,if_pos (fun j a b=>by omega)]
    | succ d ih =>
      intro k hk
      by_cases hp:p k
      · rw [bX (h1 k (by omega) hp),ih (k+1) (by omega)]
        by_cases h:∀j,k+1≤j→j < n→p j
        · rw [if_pos h,if_pos]
          intro j a b
          by_cases e:j=k
          · subst e;exact hp
          · exact h j (by omega) b
        · rw [if_neg h,if_neg]
          exact fun q=>h fun j a b=>q j (by omega) b
      · rw [bM (h2 k (by omega) hp),if_neg]
        exact fun q=>hp (q k (iW _) (by omega))
  have:=key n 0 (by omega)
  rw [this]
  by_cases h:∀k,k < n→p k
  · rw [if_pos h,if_pos (fun j _ b=>h j b)]
  · rw [if_neg h,if_neg (fun q=>h fun k a=>q k (xL _) a)]
theorem jT{α σ ρ:Type}{f:σ→Option (Step σ ρ)}(l:List α)(S:Nat→σ)(p:α→Prop)[DecidablePred p](yes no:ρ)
    (h1:∀k (h:k < l.length),p l[k]→f (S k)=some (.next (S (k+1)))) (h2:∀k (h:k < l.length),¬p l[k]→f (S k)=some (.stop no)) (h3:f (S l.length)=some (.stop yes)) :
    loop f (S 0)=some (if ∀x∈l,p x then yes else no):=by
  classical
  have:=vZ (f:=f) l.length S (fun k=>∀h:k < l.length,p l[k]) yes no (fun k h hp=>h1 k h (hp h)) (fun k h hp=>h2 k h (fun q=>hp fun _=>q)) h3
  rw [this]
  by_cases h:∀x∈l,p x
  · rw [if_pos h,if_pos (fun k hk _=>h _ (dP hk))]
  · rw [if_neg h,if_neg]
    intro q
    refine h fun x hx=>?_
    obtain⟨k,hk,rfl⟩:=ON.1 hx
    exact q k hk hk
theorem aP{x:Int}(h1:-9223372036854775808≤x)(h2:x≤9223372036854775807):aV x=x:=IZ ⟨h1,h2⟩
theorem fL{α:Type}{l:List α}{i:Int}(h0:0≤i)(h1:i < l.length):idx l i=some (l[i.toNat]'(by omega)):=idx_eq h0 h1
theorem wrap_i64{x:Int}(h1:-9223372036854775808≤x)(h2:x≤9223372036854775807):IntKind.i64.wrap x=x:=IZ ⟨h1,h2⟩
theorem GD{x y:Int}(h1:0≤x):x.tdiv y=x / y:=Int.tdiv_eq_ediv_of_nonneg h1
theorem y6{x y:Int}(h1:0≤x):x.tmod y=x % y:=Int.tmod_eq_emod_of_nonneg h1
theorem aV1{x:Int}{k:Nat}(h1:0≤x)(hk:k≤63):uG .i64 x k=x / 2 ^ k:=by
  unfold uG
  have:min ((k:Int).toNat) IntKind.i64.bits=k:=by simp [IntKind.bits];omega
  rw [this,Int.fdiv_eq_ediv_of_nonneg _ (by exact Int.le_of_lt (Int.pow_pos (by omega)))]
end Go.Gv
end
noncomputable section
namespace Go.Gv
theorem eA(n a b:Int):cR n a b=some (decide (a≤n∧n≤b)):=by
  unfold cR pM
  by_cases h:a≤n <;> simp [h]
theorem b7(n a b:Int):bT n a b=some (decide (a≤n∧n≤b)):=by
  unfold bT HK
  by_cases h:a≤n <;> simp [h]
theorem map_take{α β:Type}(f:α→β){l:List α}{k:Nat}(h:k < l.length):(l.take (k+1)).map f=(l.take k).map f ++ [f l[k]]:=by
  rw [SQ h,BJ];rfl
end Go.Gv
end
noncomputable section
namespace Go.Gv
def gI(c:Int):Int:=if c=0 then 8 else if c=1 then 16 else if c=2 then 40 else 0
def aT(c:Int):Int:=if c=0 then 12 else if c=1 then 20 else if c=2 then 44 else 0
def cK(c:Int):Int:=if c=0 then 4 else if c=1 then 2 else if c=2 then 1 else 0
theorem gJ{c:Int}(h:0≤c∧c≤2):c=0∨c=1∨c=2:=by omega
theorem aTD{c:Int}(h:¬(0≤c∧c≤2)):gI c=0:=by unfold gI;rw [if_neg (by omega),if_neg (by omega),if_neg (by omega)]
theorem aD7{c:Int}(h:¬(0≤c∧c≤2)):aT c=0:=by unfold aT;rw [if_neg (by omega),if_neg (by omega),if_neg (by omega)]
theorem aIS{c:Int}(h:¬(0≤c∧c≤2)):cK c=0:=by unfold cK;rw [if_neg (by omega),if_neg (by omega),if_neg (by omega)]
theorem mY(c:Int):0≤cK c∧cK c≤4:=by unfold cK;split <;> (try split) <;> (try split) <;> omega
theorem UG(c:Int):0≤aT c∧aT c≤44:=by unfold aT;split <;> (try split) <;> (try split) <;> omega
theorem kN{c:Int}:0 < cK c↔0≤c∧c≤2:=by
  unfold cK;constructor
  · intro h;split at h <;> (try split at h) <;> (try split at h) <;> omega
  · intro h;rcases gJ h with rfl | rfl | rfl <;> decide
theorem qR(c:Int):nW c=some (gI c):=by
  unfold nW gI
  by_cases h0:c=0 <;> by_cases h1:c=1 <;> by_cases h2:c=2 <;> simp [h0,h1,h2]
theorem jF(c:Int):jX c=some (decide (0≤c∧c≤2)):=by simp [jX,eA]
theorem RC(c:Int):AX c=some (gI c):=by
  unfold AX
  rw [jF]
  by_cases h:0≤c∧c≤2
  · rcases gJ h with rfl | rfl | rfl <;> rfl
  · simp [h,aTD h]
theorem X8(c:Int):yP c=some (aT c):=by
  unfold yP
  rw [b7]
  by_cases h:0≤c∧c≤2
  · rcases gJ h with rfl | rfl | rfl <;> rfl
  · simp [h,aD7 h]
theorem NA(c:Int):sV c=some (aT c):=by
  unfold sV
  rw [jF]
  by_cases h:0≤c∧c≤2
  · rcases gJ h with rfl | rfl | rfl <;> rfl
  · simp [h,aD7 h]
theorem gU(c:Int):lZ c=some (cK c):=by
  unfold lZ
  rw [b7]
  by_cases h:0≤c∧c≤2
  · rcases gJ h with rfl | rfl | rfl <;> rfl
  · simp [h,aIS h]
theorem z7(c:Int):nN c=some (cK c):=by
  unfold nN
  rw [jF]
  by_cases h:0≤c∧c≤2
  · rcases gJ h with rfl | rfl | rfl <;> rfl
  · simp [h,aIS h]
theorem RD(s:Int):A1 s=some (if 0≤s∧s≤23 then s / 4 else -1):=by
  unfold A1
  rw [b7]
  by_cases h:0≤s∧s≤23
  · simp [h,GD h.1];rw [aP (by omega) (by omega)]
  · simp [h]
theorem PL(s:Int):wS s=some (if 0≤s∧s≤23 then s % 4 else -1):=by
  unfold wS
  rw [b7]
  by_cases h:0≤s∧s≤23
  · simp [h,y6 h.1]
  · simp [h]
def fM(s c:Int):Int:=if (0≤s∧s≤23)∧s % 4 < cK c then s / 4 * 64+8+s % 4 * aT c else -1
theorem JN{i c:Int}(h0:0≤i)(h1:i < cK c):0≤i * aT c∧i * aT c+aT c≤56:=by
  unfold cK at h1;unfold aT
  split at h1
  · rw [if_pos ‹_›];omega
  · split at h1
    · rw [if_neg ‹_›,if_pos ‹_›];omega
    · split at h1
      · rw [if_neg ‹_›,if_neg ‹_›,if_pos ‹_›];omega
      · omega
theorem tJ(s c:Int):uZ s c=some (fM s c):=by
  unfold uZ E5 fM
  rw [RD,PL,gU,X8]
  by_cases h:0≤s∧s≤23
  · have hp:=mY c
    have h1:¬s / 4 < 0:=by omega
    have h2:aV (cK c - 1)=cK c - 1:=aP (by omega) (by omega)
    by_cases h3:s % 4 < cK c
    · have hm:=JN (by omega) h3
      have hs:=UG c
      have h4:0≤s % 4∧s % 4≤cK c - 1:=by omega
      have h5:¬cK c - 1 < s % 4:=by omega
      have e1:aV (s / 4 * 64)=s / 4 * 64:=aP (by omega) (by omega)
      have e2:aV (s / 4 * 64+8)=s / 4 * 64+8:=aP (by omega) (by omega)
      have e3:aV (s % 4 * aT c)=s % 4 * aT c:=aP (by omega) (by omega)
      have e4:aV (s / 4 * 64+8+s % 4 * aT c)=s / 4 * 64+8+s % 4 * aT c:=aP (by omega) (by omega)
      simp [h,h1,h2,h3,h4,h5,b7,e1,e2,e3,e4]
    · have h4:¬s % 4≤cK c - 1:=by omega
      simp [h,h1,h2,h3,h4,b7]
  · simp [h]
theorem wA(s:Int):l8 s=some (decide (0≤s∧s≤23)):=by simp [l8,eA]
theorem y7(s c:Int):uM s c=some (fM s c):=by
  unfold uM yF fM
  rw [wA,jF,z7,NA]
  by_cases h:0≤s∧s≤23
  · have hp:=mY c
    rw [y6 h.1,GD h.1]
    by_cases h3:s % 4 < cK c
    · have hm:=JN (by omega) h3
      have hs:=UG c
      have hc:0≤c∧c≤2:=kN.1 (by omega)
      have e0:aV (s / 4)=s / 4:=aP (by omega) (by omega)
      have e1:aV (s / 4 * 64)=s / 4 * 64:=aP (by omega) (by omega)
      have e2:aV (s / 4 * 64+8)=s / 4 * 64+8:=aP (by omega) (by omega)
      have e3:aV (s % 4 * aT c)=s % 4 * aT c:=aP (by omega) (by omega)
      have e4:aV (s / 4 * 64+8+s % 4 * aT c)=s / 4 * 64+8+s % 4 * aT c:=aP (by omega) (by omega)
      have h5:¬cK c≤s % 4:=by omega
      simp [h,hc,h3,h5,e0,e1,e2,e3,e4]
    · have h5:cK c≤s % 4:=by omega
      by_cases hc:0≤c∧c≤2 <;> simp [h,hc,h3,h5]
  · simp [h]
end Go.Gv
end
noncomputable section
namespace Go.Gv
def ldF(l:List Int):Int:=l.foldl (fun n x=>n * 256+x) 0
def uE(l:List Int):Prop:=∀x∈l,0≤x∧x≤255
instance (l:List Int):Decidable (uE l):=by unfold uE;infer_instance
theorem aD8{l:List Int}{k:Nat}(h:k < l.length):ldF (l.take (k+1))=ldF (l.take k) * 256+l[k]:=by
  unfold ldF
  rw [SQ h,List.foldl_append];rfl
theorem aG9{l:List Int}(h:uE l):∀k,k≤l.length→0≤ldF (l.take k)∧ldF (l.take k) < 256 ^ k:=by
  intro k
  induction k with
  | zero=>intro _;simp [ldF]
  | succ k ih =>
    intro hk
    have h1:=ih (by omega)
    have h2:=h _ (dP (show k < l.length by omega))
    rw [aD8 (by omega),Int.pow_succ]
    omega
theorem aYS{k:Nat}(h:k≤6):(256:Int) ^ k≤281474976710656:=by
  have h1:(256:Nat) ^ k≤256 ^ 6:=Nat.pow_le_pow_right (by omega) h
  have h2:(256:Nat) ^ 6=281474976710656:=by decide
  rw [h2] at h1
  have h3:((256 ^ k:Nat):Int)≤281474976710656:=by omega
  rw [Int.natCast_pow] at h3
  exact h3
def ld(b:List Int)(at_ w:Nat):Int:=ldF ((b.drop at_).take w)
theorem aON{n x:Int}{k:Nat}(hk:k≤6)(h:0≤n∧n < 256 ^ k)(hx:0≤x∧x≤255):aV (aV (n * 256)+x)=n * 256+x∧aV (aV (256 * n)+x)=n * 256+x:=by
  have:=aYS hk
  rw [Int.mul_comm 256 n,aP (x:=n * 256) (by omega) (by omega),aP (by omega) (by omega)]
  exact⟨rfl,rfl⟩
theorem aMV{b:List Int}{a w:Nat}(h:a+w≤b.length):((b.drop a).take w).length=w:=by simp;omega
theorem aD9{b:List Int}{a w k:Nat}(h:k < ((b.drop a).take w).length)(h':a+k < b.length):((b.drop a).take w)[k]=b[a+k]:=by simp
theorem aIT{b:List Int}(hb:uE b)(a w:Nat):uE ((b.drop a).take w):=fun x hx=>hb x (aBR (aBS hx))
theorem DM{b:List Int}(hb:uE b){a w:Nat}(hw:w≤7)(h:a+w≤b.length)(hl:b.length≤100000):uY b (a:Int) (w:Int)=some (ld b a w):=by
  unfold uY
  have hlen:=aMV h
  have hbb:=aIT hb a w
  have key:loop (uX b (a:Int) (w:Int)) (0,0)=some (ld b a w):=by
    refine gD (f:=uX b (a:Int) (w:Int)) w (fun k=>(ldF (((b.drop a).take w).take k),(k:Int))) _ (fun k hk=>?_) ?_
    · have hb1:=aG9 hbb k (by omega)
      have hk':k < ((b.drop a).take w).length:=by omega
      have hx:=hbb _ (dP hk')
      have hs:=aON (by omega) hb1 hx
      rw [aD9 hk' (by omega)] at hs
      have e1:aV ((a:Int)+k)=((a+k:Nat):Int):=by rw [aP (by omega) (by omega)];omega
      simp only [uX]
      rw [if_pos (by simp;omega),e1,aR (by omega)]
      simp only [aG,hs.1,aD8 hk',aD9 hk' (show a+k < b.length by omega)]
      rw [aP (x:=(k:Int)+1) (by omega) (by omega)];rfl
    · have:((b.drop a).take w).take w=(b.drop a).take w:=by rw [List.take_take];simp
      simp [uX,this,ld]
  rw [key];rfl
theorem z8{b:List Int}(hb:uE b){a w:Nat}(hw:w≤7)(h:a+w≤b.length)(hl:b.length≤100000):lS b (a:Int) (w:Int)=some (ld b a w):=by
  unfold lS
  have hlen:=aMV h
  have hbb:=aIT hb a w
  have e0:aV ((a:Int)+w)=((a+w:Nat):Int):=by rw [aP (by omega) (by omega)];omega
  have e2:(b.take (a+w)).drop a=(b.drop a).take w:=by rw [List.drop_take];congr 1;omega
  rw [aO (by rw [e0];omega)]
  have key:loop (r9 b (a:Int) (w:Int)) (0,0)=some (ld b a w):=by
    refine gD (f:=r9 b (a:Int) (w:Int)) w (fun k=>(ldF (((b.drop a).take w).take k),(k:Int))) _ (fun k hk=>?_) ?_
    · have hb1:=aG9 hbb k (by omega)
      have hk':k < ((b.drop a).take w).length:=by omega
      have hx:=hbb _ (dP hk')
      have hs:=aON (by omega) hb1 hx
      simp only [r9,e0,K9,e2]
      rw [if_pos (by simp;omega),aR hk']
      simp only [aG,hs.2,aD8 hk']
      rw [aP (x:=(k:Int)+1) (by omega) (by omega)];rfl
    · have:((b.drop a).take w).take w=(b.drop a).take w:=by rw [List.take_take];simp
      simp only [r9,e0,K9,e2,this,ld]
      rw [if_neg (by rw [hlen];simp)]
  rw [key];rfl
theorem DN{l:List Int}(hl:l.length≤maxLen)(f:Int→Bool):eJ l (fun x=>some (f x))=some (l.any f):=by
  unfold eJ uK
  have key:∀k:Nat,k≤l.length→loop (iP l (fun x=>some (f x))) (k:Int)=some (if (l.drop k).any f then Out.ret ((k+(l.drop k).findIdx f:Nat):Int) else Out.brk ()):=by
    refine aHU l.length _ fun k hk=>?_
    by_cases h3:k < l.length
    · have hd:l.drop k=l[k] :: l.drop (k+1):=J8 h3
      simp only [iP]
      rw [if_pos (by simp;omega),aR h3,iZ (pK h3 hl),hd]
      simp only [aG,List.any_cons,List.findIdx_cons]
      by_cases h4:f l[k]=true
      · left;simp [h4]
      · right
        have h4:f l[k]=false:=by simpa using h4
        refine⟨h3,by simp [h4],?_⟩
        simp only [h4,Bool.false_or,cond_false]
        congr 2;omega
    · left
      obtain rfl:k=l.length:=by omega
      simp [iP]
  have t0:loop (iP l (fun x=>some (f x))) 0=_:=key 0 (by omega)
  rw [t0]
  simp only [BH]
  by_cases h:l.any f=true
  · simp [h,pN]
  · have h:l.any f=false:=by simpa using h
    simp [h,pN,AW]
def BOk(b:List Int):Prop:=b.length≤1000∧uE b
instance (b:List Int):Decidable (BOk b):=by unfold BOk;infer_instance
theorem aAR{b:List Int}(hl:b.length≤maxLen):H8 b=some (decide (BOk b)):=by
  unfold H8
  have key:loop (m8 b) 0=some (if ∀x∈b,0≤x∧x≤255 then Out.brk () else Out.ret false):=by
    refine jT (f:=m8 b) b (fun k=>(k:Int)) (fun x=>0≤x∧x≤255) _ _ (fun k h hp=>?_) (fun k h hp=>?_) ?_
    · simp only [m8]
      rw [if_pos (by simp;omega),aR h,iZ (pK h hl)]
      simp [b7,hp]
    · simp only [m8]
      rw [if_pos (by simp;omega),aR h]
      simp only [aG,b7,hp,decide_false,iN,if_true]
    · simp [m8]
  rw [key]
  by_cases h:∀x∈b,0≤x∧x≤255
  · rw [if_pos h]
    have:BOk b↔b.length≤1000:=⟨fun q=>q.1,fun q=>⟨q,h⟩⟩
    simp only [aG,GU,O2,this]
    congr 1;rw [J1];simp;omega
  · rw [if_neg h]
    have:¬BOk b:=fun q=>h q.2
    simp [GU,this]
theorem FL{α:Type}{p:α→Prop}[DecidablePred p](l:List α):(l.any fun x=>!decide (p x))=!decide (∀x∈l,p x):=by
  rw [J1];simp
theorem aAS{b:List Int}(hl:b.length≤maxLen):HP b=some (decide (BOk b)):=by
  unfold HP zF
  have e:(fun y0=>BZ y0)=fun y:Int=>some (!decide (0≤y∧y≤255)):=by
    funext y;simp [BZ,QH,eA]
  rw [e,DN hl,FL]
  by_cases h:b.length≤1000
  · have:BOk b↔∀x∈b,0≤x∧x≤255:=⟨fun q=>q.2,fun q=>⟨h,q⟩⟩
    have h':(b.length:Int)≤1000:=by omega
    simp [h',this]
  · have:¬BOk b:=fun q=>h q.1
    have h':¬(b.length:Int)≤1000:=by omega
    simp [h',this]
def eZ(h:aE):Prop:=h.Bytes.length=384∧h.Class.length=6∧uE h.Bytes∧∀c∈h.Class,-1≤c∧c≤2
instance (h:aE):Decidable (eZ h):=by unfold eZ;infer_instance
theorem aAT{h:aE}(hl:h.Bytes.length≤maxLen):H9 h=some (decide (eZ h)):=by
  unfold H9 sG
  by_cases h1:h.Bytes.length=384
  · by_cases h2:h.Class.length=6
    · rw [aAR hl]
      have n1:((h.Bytes.length:Int) != 384)=false:=by simp;omega
      have n2:((h.Class.length:Int) != 6)=false:=by simp;omega
      simp only [n1,n2,aN,if_false,aG]
      by_cases h3:uE h.Bytes
      · have b1:BOk h.Bytes:=⟨by omega,h3⟩
        have key:loop (m9 h) 0=some (if ∀x∈h.Class,-1≤x∧x≤2 then Out.brk () else Out.ret false):=by
          refine jT (f:=m9 h) h.Class (fun k=>(k:Int)) (fun x=>-1≤x∧x≤2) _ _ (fun k h hp=>?_) (fun k h hp=>?_) ?_
          · simp only [m9]
            rw [if_pos (by simp;omega),aR h,aP (by omega) (by omega)]
            simp [b7,hp]
          · simp only [m9]
            rw [if_pos (by simp;omega),aR h]
            simp only [aG,b7]
            rw [bQ hp];rfl
          · simp [m9,h2]
        rw [key]
        have:eZ h↔∀x∈h.Class,-1≤x∧x≤2:=⟨fun q=>q.2.2.2,fun q=>⟨h1,h2,h3,q⟩⟩
        simp only [b1,decide_true,dA,aN,if_false,this]
        by_cases h4:∀x∈h.Class,-1≤x∧x≤2
        · rw [if_pos h4,bD h4];rfl
        · rw [if_neg h4,bQ h4];rfl
      · have b1:¬BOk h.Bytes:=fun q=>h3 q.2
        have:¬eZ h:=fun q=>h3 q.2.2.1
        simp [b1,this]
    · have n1:((h.Bytes.length:Int) != 384)=false:=by simp;omega
      have n2:((h.Class.length:Int) != 6)=true:=by simp;omega
      have:¬eZ h:=fun q=>h2 q.2.1
      simp [n1,n2,this]
  · have n1:((h.Bytes.length:Int) != 384)=true:=by simp;omega
    have:¬eZ h:=fun q=>h1 q.1
    simp [n1,this]
theorem DO{h:aE}(hl:h.Bytes.length≤maxLen):FX h=some (decide (eZ h)):=by
  unfold FX pO
  by_cases h1:h.Bytes.length=384
  · have n1:((h.Bytes.length:Int) == 384)=true:=by simp;omega
    rw [aAS hl]
    by_cases h3:uE h.Bytes
    · have b1:BOk h.Bytes:=⟨by omega,h3⟩
      by_cases h2:h.Class.length=6
      · have n2:((h.Class.length:Int) == 6)=true:=by simp;omega
        have e:(fun y0=>EU y0)=fun y:Int=>some (!decide (-1≤y∧y≤2)):=by
          funext y;simp [EU,eA]
        rw [e,DN (by rw [h2];simp [maxLen]),FL]
        have:eZ h↔∀x∈h.Class,-1≤x∧x≤2:=⟨fun q=>q.2.2.2,fun q=>⟨h1,h2,h3,q⟩⟩
        simp [n1,n2,b1,this]
      · have n2:((h.Class.length:Int) == 6)=false:=by simp;omega
        have:¬eZ h:=fun q=>h2 q.2.1
        simp [n1,n2,b1,this]
    · have b1:¬BOk h.Bytes:=fun q=>h3 q.2
      have:¬eZ h:=fun q=>h3 q.2.2.1
      simp [n1,b1,this]
  · have n1:((h.Bytes.length:Int) == 384)=false:=by simp;omega
    have:¬eZ h:=fun q=>h1 q.1
    simp [n1,this]
end Go.Gv
end
noncomputable section
namespace Go.Gv
def dV(h:aE)(p:Nat):List Int:=(h.Bytes.drop (p * 64)).take 64
def cC(h:aE)(p:Nat):Int:=h.Class.getD p 0
def mU(h:aE)(p:Nat):Prop:=
  if cC h p < 0 then ∀x∈dV h p,x=0
  else ((dV h p).getD 0 0=171∧(dV h p).getD 1 0=cC h p∧(dV h p).getD 2 0=cK (cC h p))∧(∀x∈((dV h p).drop 3).take 5,x=0)∧∀i,i < (cK (cC h p)).toNat→1≤ld h.Bytes (p * 64+8+i * (aT (cC h p)).toNat) 4∧ld h.Bytes (p * 64+8+i * (aT (cC h p)).toNat) 4≤7
instance (h:aE) (p:Nat):Decidable (mU h p):=by unfold mU;infer_instance
noncomputable section
variable {h:aE} (hs:eZ h) {p:Nat} (hp:p < 6)
include hs hp
theorem JO:(dV h p).length=64:=aMV (by have:=hs.1;omega)
theorem RE{k:Nat}(hk:k < 64):h.Bytes[p * 64+k]'(by have:=hs.1;omega)=(dV h p)[k]'(by rw [JO hs hp];exact hk):=(aD9 (show k < ((h.Bytes.drop (p * 64)).take 64).length by have:=JO hs hp;unfold dV at this;omega) _).symm
theorem aHA{k:Nat}(hk:k < 64):h.Bytes[p * 64+k]'(by have:=hs.1;omega)=(dV h p).getD k 0:=by
  rw [RE hs hp hk,iX,eI (by rw [JO hs hp];exact hk)];rfl
theorem OB:h.Class[p]'(by have:=hs.2.1;omega)=cC h p:=by
  unfold cC
  rw [iX,eI (by have:=hs.2.1;omega)];rfl
theorem aBJ:idx h.Class (p:Int)=some (cC h p):=by rw [aR (by have:=hs.2.1;omega),OB hs hp]
theorem aEA{k:Nat}(hk:k < 64):idx h.Bytes (((p * 64+k:Nat)):Int)=some ((dV h p).getD k 0):=by
  rw [aR (by have:=hs.1;omega),aHA hs hp hk]
theorem aPL:uE (dV h p):=aIT hs.2.2.1 _ _
theorem xI{c:Int}(hc:cC h p=c){i:Nat}(hi:i < (cK c).toNat):(8+i * (aT c).toNat)+4≤64∧0≤(i:Int) * aT c∧((8+i * (aT c).toNat:Nat):Int)=8+(i:Int) * aT c:=by
  have h1:(i:Int) < cK c:=by omega
  have hc2:0≤c∧c≤2:=kN.1 (by omega)
  rcases gJ hc2 with rfl | rfl | rfl
  · have e:aT 0=12:=rfl
    have g:(12:Int).toNat=12:=rfl
    have f:(cK 0).toNat=4:=rfl
    rw [e,g];rw [f] at hi;omega
  · have e:aT 1=20:=rfl
    have g:(20:Int).toNat=20:=rfl
    have f:(cK 1).toNat=2:=rfl
    rw [e,g];rw [f] at hi;omega
  · have e:aT 2=44:=rfl
    have g:(44:Int).toNat=44:=rfl
    have f:(cK 2).toNat=1:=rfl
    rw [e,g];rw [f] at hi;omega
theorem aTE{i:Nat}(hi:i < (cK (cC h p)).toNat):fM ((p:Int) * 4+i) (cC h p)=((p * 64+(8+i * (aT (cC h p)).toNat):Nat):Int):=by
  have hz:=xI hs hp rfl hi
  have hle:=mY (cC h p)
  unfold fM
  rw [if_pos (by omega)]
  have e1:((p:Int) * 4+i) / 4=p:=by omega
  have e2:((p:Int) * 4+i) % 4=i:=by omega
  rw [e1,e2]
  omega
theorem RF:KQ h (p:Int)=some (decide (mU h p)):=by
  have hb:=hs.1
  have hl:=JO hs hp
  have e0:aV ((p:Int) * 64)=((p * 64+0:Nat):Int):=by rw [aP (by omega) (by omega)];omega
  have e1:aV (((p * 64+0:Nat):Int)+1)=((p * 64+1:Nat):Int):=by rw [aP (by omega) (by omega)];omega
  have e2:aV (((p * 64+0:Nat):Int)+2)=((p * 64+2:Nat):Int):=by rw [aP (by omega) (by omega)];omega
  have e3:aV (((p * 64+0:Nat):Int)+3)=((p * 64+3:Nat):Int):=by rw [aP (by omega) (by omega)];omega
  have e8:aV (((p * 64+0:Nat):Int)+8)=((p * 64+8:Nat):Int):=by rw [aP (by omega) (by omega)];omega
  have e64:aV (((p * 64+0:Nat):Int)+64)=((p * 64+64:Nat):Int):=by rw [aP (by omega) (by omega)];omega
  unfold KQ
  rw [aBJ hs hp]
  simp only [aG]
  by_cases hc:cC h p < 0
  · simp only [hc,decide_true,if_true,e0]
    have key:loop (pW h (p:Int)) (((p * 64+0:Nat)):Int)=some (if ∀x∈dV h p,x=0 then Out.brk () else Out.ret false):=by
      refine jT (f:=pW h (p:Int)) (dV h p) (fun k=>((p * 64+k:Nat):Int)) (fun x=>x=0) _ _ (fun k hk hx=>?_) (fun k hk hx=>?_) ?_
      · simp only [pW,e0,e64]
        rw [if_pos (by simp;omega),aR (by omega),RE hs hp (by omega),aP (by omega) (by omega)]
        simp only [aG,hx];simp;omega
      · simp only [pW,e0,e64]
        rw [if_pos (by simp;omega),aR (by omega),RE hs hp (by omega)]
        have hx':((dV h p)[k] != 0)=true:=by simpa using hx
        simp only [aG,hx',if_true]
      · simp only [pW,e0,e64,hl]
        rw [if_neg (by simp)]
    rw [key]
    have hP:mU h p↔∀x∈dV h p,x=0:=by unfold mU;rw [if_pos hc]
    by_cases h4:∀x∈dV h p,x=0
    · rw [if_pos h4,bD (hP.2 h4)];rfl
    · rw [if_neg h4,bQ (fun q=>h4 (hP.1 q))];rfl
  · have hP:mU h p↔((dV h p).getD 0 0=171∧(dV h p).getD 1 0=cC h p∧(dV h p).getD 2 0=cK (cC h p))∧(∀x∈((dV h p).drop 3).take 5,x=0)∧∀i,i < (cK (cC h p)).toNat→1≤ld h.Bytes (p * 64+8+i * (aT (cC h p)).toNat) 4∧ld h.Bytes (p * 64+8+i * (aT (cC h p)).toNat) 4≤7:=by unfold mU;rw [if_neg hc]
    simp only [hc,decide_false,aN,if_false,e0,e1,e2,aEA hs hp (show 0 < 64 by omega),aEA hs hp (show 1 < 64 by omega),aEA hs hp (show 2 < 64 by omega),aG,gU]
    by_cases a0:(dV h p).getD 0 0=171
    · by_cases a1:(dV h p).getD 1 0=cC h p
      · by_cases a2:(dV h p).getD 2 0=cK (cC h p)
        · have n0:((dV h p).getD 0 0 != 171)=false:=by simp only [bne_eq_false_iff_eq];exact a0
          have n1:((dV h p).getD 1 0 != cC h p)=false:=by simp only [bne_eq_false_iff_eq];exact a1
          have n2:((dV h p).getD 2 0 != cK (cC h p))=false:=by simp only [bne_eq_false_iff_eq];exact a2
          simp only [n0,n1,n2,aN,if_false,kG,e0,e3]
          have hl5:(((dV h p).drop 3).take 5).length=5:=by simp [hl]
          have key:loop (pY h (p:Int)) (((p * 64+3:Nat)):Int)=some (if ∀x∈((dV h p).drop 3).take 5,x=0 then Out.brk () else Out.ret false):=by
            refine jT (f:=pY h (p:Int)) (((dV h p).drop 3).take 5) (fun k=>((p * 64+(3+k):Nat):Int)) (fun x=>x=0) _ _ (fun k hk hx=>?_) (fun k hk hx=>?_) ?_
            · simp only [pY,e0,e8]
              rw [if_pos (by simp;omega),aR (by omega),RE hs hp (by omega),aP (by omega) (by omega),←aD9 hk (by omega),hx]
              simp;omega
            · simp only [pY,e0,e8]
              rw [if_pos (by simp;omega),aR (by omega),RE hs hp (by omega),←aD9 hk (by omega)]
              have hx':((((dV h p).drop 3).take 5)[k] != 0)=true:=by simp only [bne_iff_ne];exact hx
              simp only [aG,hx',if_true]
            · simp only [pY,e0,e8,hl5]
              rw [if_neg (by simp)]
          rw [key]
          by_cases h4:∀x∈((dV h p).drop 3).take 5,x=0
          · rw [if_pos h4]
            simp only [aG,QU,QT]
            have key2:loop (pX h (p:Int) (cC h p)) 0=some (if ∀i,i < (cK (cC h p)).toNat→1≤ld h.Bytes (p * 64+8+i * (aT (cC h p)).toNat) 4∧ld h.Bytes (p * 64+8+i * (aT (cC h p)).toNat) 4≤7 then Out.brk () else Out.ret false):=by
              have hle:=mY (cC h p)
              have hst:∀k:Nat,k < (cK (cC h p)).toNat→pX h (p:Int) (cC h p) (k:Int)=if 1≤ld h.Bytes (p * 64+8+k * (aT (cC h p)).toNat) 4∧ld h.Bytes (p * 64+8+k * (aT (cC h p)).toNat) 4≤7 then some (.next ((k+1:Nat):Int)) else some (.stop (Out.ret false)):=by
                intro k hk
                have hz:=xI hs hp rfl hk
                have s1:qY (p:Int) (k:Int)=some ((p:Int) * 4+k):=by
                  unfold qY vA
                  rw [b7,b7]
                  have g1:(0:Int)≤p∧(p:Int)≤5:=by omega
                  have g2:(0:Int)≤k∧(k:Int)≤3:=by omega
                  simp only [aG,g1,g2,and_self,decide_true,dA,aN,if_false]
                  rw [aP (x:=(p:Int) * 4) (by omega) (by omega),aP (by omega) (by omega)]
                have l1:=DM hs.2.2.1 (a:=p * 64+(8+k * (aT (cC h p)).toNat)) (w:=4) (by omega) (by omega) (by omega)
                simp only [pX,gU,aG]
                rw [if_pos (by simp;omega),s1]
                simp only [aG,tJ,aTE hs hp hk]
                rw [show((4:Nat):Int)=4 from rfl] at l1
                rw [l1,UP,aP (x:=(k:Int)+1) (by omega) (by omega)]
                simp only [aG,b7]
                by_cases q:1≤ld h.Bytes (p * 64+(8+k * (aT (cC h p)).toNat)) 4∧ld h.Bytes (p * 64+(8+k * (aT (cC h p)).toNat)) 4≤7
                · rw [if_pos q,bD q];rfl
                · rw [if_neg q,bQ q];rfl
              refine vZ (f:=pX h (p:Int) (cC h p)) (cK (cC h p)).toNat (fun k=>(k:Int)) (fun i=>1≤ld h.Bytes (p * 64+8+i * (aT (cC h p)).toNat) 4∧ld h.Bytes (p * 64+8+i * (aT (cC h p)).toNat) 4≤7) _ _ (fun k hk hx=>?_) (fun k hk hx=>?_) ?_
              · rw [hst k hk,if_pos hx]
              · rw [hst k hk,if_neg hx]
              · simp only [pX,gU,aG]
                rw [if_neg (by simp;omega)]
            rw [key2]
            by_cases h5:∀i,i < (cK (cC h p)).toNat→1≤ld h.Bytes (p * 64+8+i * (aT (cC h p)).toNat) 4∧ld h.Bytes (p * 64+8+i * (aT (cC h p)).toNat) 4≤7
            · rw [if_pos h5,bD (hP.2 ⟨⟨a0,a1,a2⟩,h4,h5⟩)];rfl
            · rw [if_neg h5,bQ (fun q=>h5 (hP.1 q).2.2)];rfl
          · rw [if_neg h4,bQ (fun q=>h4 (hP.1 q).2.1)];rfl
        · have n0:((dV h p).getD 0 0 != 171)=false:=by simp only [bne_eq_false_iff_eq];exact a0
          have n1:((dV h p).getD 1 0 != cC h p)=false:=by simp only [bne_eq_false_iff_eq];exact a1
          have n2:((dV h p).getD 2 0 != cK (cC h p))=true:=by simp only [bne_iff_ne];exact a2
          simp only [n0,n1,n2,aN,if_false,kG,if_true]
          rw [bQ (fun q=>a2 (hP.1 q).1.2.2)]
      · have n0:((dV h p).getD 0 0 != 171)=false:=by simp only [bne_eq_false_iff_eq];exact a0
        have n1:((dV h p).getD 1 0 != cC h p)=true:=by simp only [bne_iff_ne];exact a1
        simp only [n0,n1,aN,if_false,kG,if_true]
        rw [bQ (fun q=>a1 (hP.1 q).1.2.1)]
    · have n0:((dV h p).getD 0 0 != 171)=true:=by simp only [bne_iff_ne];exact a0
      simp only [n0,aN,if_false,kG,if_true]
      rw [bQ (fun q=>a0 (hP.1 q).1.1)]
end
end Go.Gv
end
noncomputable section
namespace Go.Gv
theorem RG{l:List Int}(hl:l.length≤maxLen):FY l=some (decide (∀x∈l,x=0)):=by
  unfold FY
  have e:(fun y0=>EV y0)=fun y:Int=>some (!decide (y=0)):=by
    funext y;simp [EV,bne];rfl
  rw [e,DN hl,FL]
  simp
noncomputable section
variable {h:aE} (hs:eZ h) {p:Nat} (hp:p < 6)
include hs hp
theorem aW8:(h.Bytes.take ((p+1) * 64)).drop (p * 64)=dV h p:=by
  unfold dV
  rw [List.drop_take];congr 1;omega
theorem aV2{a:Nat}(ha:a+4≤64):ld (dV h p) a 4=ld h.Bytes (p * 64+a) 4:=by
  unfold ld dV
  rw [List.drop_take,List.take_take,List.drop_drop]
  congr 2;omega
theorem aMW{k:Nat}(hk:k < 64):idx (dV h p) (k:Int)=some ((dV h p).getD k 0):=by
  have:=JO hs hp
  rw [aR (by omega),iX,eI (by omega)];rfl
theorem RH:KM h (p:Int)=some (decide (mU h p)):=by
  have hb:=hs.1
  have hl:=JO hs hp
  have hm:(dV h p).length≤maxLen:=by rw [hl];simp [maxLen]
  have e0:aV ((p:Int) * 64)=((p * 64:Nat):Int):=by rw [aP (by omega) (by omega)];omega
  have e1:aV (aV ((p:Int)+1) * 64)=(((p+1) * 64:Nat):Int):=by rw [aP (x:=(p:Int)+1) (by omega) (by omega),aP (by omega) (by omega)];omega
  have i0:=aMW hs hp (show 0 < 64 by omega)
  have i1:=aMW hs hp (show 1 < 64 by omega)
  have i2:=aMW hs hp (show 2 < 64 by omega)
  rw [show((0:Nat):Int)=0 from rfl] at i0
  rw [show((1:Nat):Int)=1 from rfl] at i1
  rw [show((2:Nat):Int)=2 from rfl] at i2
  unfold KM
  rw [aBJ hs hp]
  simp only [aG,e0,e1,K9,aW8 hs hp]
  rw [aO (by omega)]
  by_cases hc:cC h p < 0
  · have hP:mU h p↔∀x∈dV h p,x=0:=by unfold mU;rw [if_pos hc]
    simp only [hc,decide_true,if_true,RG hm,aG,hP]
  · have hP:mU h p↔((dV h p).getD 0 0=171∧(dV h p).getD 1 0=cC h p∧(dV h p).getD 2 0=cK (cC h p))∧(∀x∈((dV h p).drop 3).take 5,x=0)∧∀i,i < (cK (cC h p)).toNat→1≤ld h.Bytes (p * 64+8+i * (aT (cC h p)).toNat) 4∧ld h.Bytes (p * 64+8+i * (aT (cC h p)).toNat) 4≤7:=by unfold mU;rw [if_neg hc]
    simp only [hc,decide_false,aN,if_false,i0,i1,i2,aG,z7]
    by_cases a0:(dV h p).getD 0 0=171
    · by_cases a1:(dV h p).getD 1 0=cC h p
      · by_cases a2:(dV h p).getD 2 0=cK (cC h p)
        · have n0:((dV h p).getD 0 0 != 171)=false:=by simp only [bne_eq_false_iff_eq];exact a0
          have n1:((dV h p).getD 1 0 != cC h p)=false:=by simp only [bne_eq_false_iff_eq];exact a1
          have n2:((dV h p).getD 2 0 != cK (cC h p))=false:=by simp only [bne_eq_false_iff_eq];exact a2
          have t8:((dV h p).take (8:Int).toNat).drop (3:Int).toNat=((dV h p).drop 3).take 5:=by
            rw [show(8:Int).toNat=8 from rfl,show(3:Int).toNat=3 from rfl,List.drop_take]
          simp only [n0,n1,n2,aN,if_false,i4,t8]
          rw [aO (by omega),RG (by simp [maxLen];omega)]
          by_cases h4:∀x∈((dV h p).drop 3).take 5,x=0
          · simp only [bD h4,aG,dA,aN,if_false,z7]
            have key2:loop (pP h (p:Int) (cC h p) (cK (cC h p))) 0=some (if ∀i,i < (cK (cC h p)).toNat→1≤ld h.Bytes (p * 64+8+i * (aT (cC h p)).toNat) 4∧ld h.Bytes (p * 64+8+i * (aT (cC h p)).toNat) 4≤7 then Out.brk () else Out.ret false):=by
              have hle:=mY (cC h p)
              have hst:∀k:Nat,k < (cK (cC h p)).toNat→pP h (p:Int) (cC h p) (cK (cC h p)) (k:Int)=if 1≤ld h.Bytes (p * 64+8+k * (aT (cC h p)).toNat) 4∧ld h.Bytes (p * 64+8+k * (aT (cC h p)).toNat) 4≤7 then some (.next ((k+1:Nat):Int)) else some (.stop (Out.ret false)):=by
                intro k hk
                have hz:=xI hs hp rfl hk
                have e5:aV (8+aV ((k:Int) * aT (cC h p)))=((8+k * (aT (cC h p)).toNat:Nat):Int):=by
                  rw [aP (x:=(k:Int) * aT (cC h p)) (by omega) (by omega),aP (by omega) (by omega)];omega
                have l1:=z8 (aPL hs hp) (a:=8+k * (aT (cC h p)).toNat) (w:=4) (by omega) (by omega) (by omega)
                rw [show((4:Nat):Int)=4 from rfl,aV2 hs hp (by omega)] at l1
                simp only [pP,NA,aG,e0,e1,K9,aW8 hs hp,e5]
                rw [if_pos (by simp;omega),l1,UP,aP (x:=(k:Int)+1) (by omega) (by omega)]
                simp only [aG,eA]
                by_cases q:1≤ld h.Bytes (p * 64+(8+k * (aT (cC h p)).toNat)) 4∧ld h.Bytes (p * 64+(8+k * (aT (cC h p)).toNat)) 4≤7
                · rw [if_pos q,bD q];rfl
                · rw [if_neg q,bQ q];rfl
              refine vZ (f:=pP h (p:Int) (cC h p) (cK (cC h p))) (cK (cC h p)).toNat (fun k=>(k:Int)) (fun i=>1≤ld h.Bytes (p * 64+8+i * (aT (cC h p)).toNat) 4∧ld h.Bytes (p * 64+8+i * (aT (cC h p)).toNat) 4≤7) _ _ (fun k hk hx=>?_) (fun k hk hx=>?_) ?_
              · rw [hst k hk,if_pos hx]
              · rw [hst k hk,if_neg hx]
              · simp only [pP]
                rw [if_neg (by simp;omega)]
            rw [key2]
            by_cases h5:∀i,i < (cK (cC h p)).toNat→1≤ld h.Bytes (p * 64+8+i * (aT (cC h p)).toNat) 4∧ld h.Bytes (p * 64+8+i * (aT (cC h p)).toNat) 4≤7
            · rw [if_pos h5,bD (hP.2 ⟨⟨a0,a1,a2⟩,h4,h5⟩)];rfl
            · rw [if_neg h5,bQ (fun q=>h5 (hP.1 q).2.2)];rfl
          · simp only [bQ h4,aG,iN,if_true]
            rw [bQ (fun q=>h4 (hP.1 q).2.1)]
        · have n0:((dV h p).getD 0 0 != 171)=false:=by simp only [bne_eq_false_iff_eq];exact a0
          have n1:((dV h p).getD 1 0 != cC h p)=false:=by simp only [bne_eq_false_iff_eq];exact a1
          have n2:((dV h p).getD 2 0 != cK (cC h p))=true:=by simp only [bne_iff_ne];exact a2
          simp only [n0,n1,n2,aN,if_false,i4,if_true]
          rw [bQ (fun q=>a2 (hP.1 q).1.2.2)]
      · have n0:((dV h p).getD 0 0 != 171)=false:=by simp only [bne_eq_false_iff_eq];exact a0
        have n1:((dV h p).getD 1 0 != cC h p)=true:=by simp only [bne_iff_ne];exact a1
        simp only [n0,n1,aN,if_false,i4,if_true]
        rw [bQ (fun q=>a1 (hP.1 q).1.2.1)]
    · have n0:((dV h p).getD 0 0 != 171)=true:=by simp only [bne_iff_ne];exact a0
      simp only [n0,aN,if_false,i4,if_true]
      rw [bQ (fun q=>a0 (hP.1 q).1.1)]
end
instance (h:aE):Decidable (∀p,p < 6→mU h p):=Nat.decidableBallLT 6 fun p _=>mU h p
def WX(h:aE):Prop:=eZ h∧∀p,p < 6→mU h p
instance (h:aE):Decidable (WX h):=by unfold WX;infer_instance
theorem aEB{h:aE}(hl:h.Bytes.length≤maxLen):KR h=some (decide (WX h)):=by
  unfold KR
  rw [aAT hl]
  by_cases hs:eZ h
  · have key:loop (vB h) 0=some (if ∀p,p < 6→mU h p then Out.brk () else Out.ret false):=by
      refine vZ (f:=vB h) 6 (fun k=>(k:Int)) (fun p=>mU h p) _ _ (fun k hk hx=>?_) (fun k hk hx=>?_) ?_
      · simp only [vB]
        rw [if_pos (by simp;omega),RF hs hk,aP (by omega) (by omega),bD hx];rfl
      · simp only [vB]
        rw [if_pos (by simp;omega),RF hs hk,bQ hx];rfl
      · rfl
    simp only [aG,bD hs,dA,aN,if_false]
    rw [key]
    by_cases h4:∀p,p < 6→mU h p
    · rw [if_pos h4,bD (show WX h from ⟨hs,h4⟩)];rfl
    · rw [if_neg h4,bQ (fun q:WX h=>h4 q.2)];rfl
  · rw [bQ (fun q:WX h=>hs q.1),bQ hs];rfl
theorem JQ{h:aE}(hl:h.Bytes.length≤maxLen):FZ h=some (decide (WX h)):=by
  unfold FZ
  rw [DO hl]
  by_cases hs:eZ h
  · have key:loop (uL h) 0=some (if ∀p,p < 6→mU h p then Out.brk () else Out.ret false):=by
      refine vZ (f:=uL h) 6 (fun k=>(k:Int)) (fun p=>mU h p) _ _ (fun k hk hx=>?_) (fun k hk hx=>?_) ?_
      · simp only [uL]
        rw [if_pos (by simp;omega),RH hs hk,aP (by omega) (by omega),bD hx];rfl
      · simp only [uL]
        rw [if_pos (by simp;omega),RH hs hk,bQ hx];rfl
      · rfl
    simp only [aG,bD hs,dA,aN,if_false]
    rw [key]
    by_cases h4:∀p,p < 6→mU h p
    · rw [if_pos h4,bD (show WX h from ⟨hs,h4⟩)];rfl
    · rw [if_neg h4,bQ (fun q:WX h=>h4 q.2)];rfl
  · rw [bQ (fun q:WX h=>hs q.1),bQ hs];rfl
def bG(h:aE)(s:Int):Int:=if (0≤s∧s≤23)∧s % 4 < cK (cC h (s / 4).toNat) then cC h (s / 4).toNat else -1
theorem AA{h:aE}{s:Int}(hc:0≤bG h s):(0≤s∧s≤23)∧s % 4 < cK (cC h (s / 4).toNat)∧bG h s=cC h (s / 4).toNat:=by
  unfold bG at hc ⊢
  split at hc
  · rename_i h1;exact⟨h1.1,h1.2,by rw [if_pos h1]⟩
  · omega
theorem iL{h:aE}(hs:eZ h)(s:Int):l4 h s=some (bG h s):=by
  unfold l4 sH bG
  rw [RD,PL]
  by_cases h1:0≤s∧s≤23
  · obtain⟨k,rfl⟩:=aQE h1.1
    have hk:k / 4 < 6:=by omega
    have e1:((k:Int) / 4)=((k / 4:Nat):Int):=by omega
    have hi:=aBJ hs hk
    have n1:¬((k / 4:Nat):Int) < 0:=by omega
    simp only [h1,and_self,if_true,aG,e1,n1,decide_false,aN,if_false,hi,K9,true_and]
    by_cases h2:cC h (k / 4) < 0
    · have h3:cK (cC h (k / 4))=0:=aIS (by omega)
      have h4:¬(k:Int) % 4 < 0:=by omega
      simp [h2,h3,h4]
    · by_cases h3:(k:Int) % 4 < cK (cC h (k / 4))
      · have h4:¬cK (cC h (k / 4))≤(k:Int) % 4:=by omega
        simp [h2,h3,h4,gU]
      · have h4:cK (cC h (k / 4))≤(k:Int) % 4:=by omega
        simp [h2,h3,h4,gU]
  · simp [h1]
theorem lJ{h:aE}(hs:eZ h)(s:Int):nO h s=some (bG h s):=by
  unfold nO zH bG
  rw [wA]
  by_cases h1:0≤s∧s≤23
  · obtain⟨k,rfl⟩:=aQE h1.1
    have hk:k / 4 < 6:=by omega
    have e1:((k:Int) / 4)=((k / 4:Nat):Int):=by omega
    have hi:=aBJ hs hk
    have e2:aV (Int.tdiv (k:Int) 4)=((k / 4:Nat):Int):=by rw [GD (by omega),aP (by omega) (by omega)];omega
    simp only [h1,and_self,decide_true,dA,aN,if_true,aG,e1,e2,if_false,hi,K9,true_and,y7]
    by_cases h3:(k:Int) % 4 < cK (cC h (k / 4))
    · have hm:=JN (c:=cC h (k / 4)) (by omega) h3
      have hg:¬fM (k:Int) (cC h (k / 4)) < 0:=by
        unfold fM;rw [if_pos ⟨h1,h3⟩];omega
      simp [h3,hg]
    · have hg:fM (k:Int) (cC h (k / 4)) < 0:=by
        unfold fM;rw [if_neg (fun q=>h3 q.2)];omega
      simp [h3,hg]
  · simp [h1]
def mJ(h:aE)(s:Int):Int:=ld h.Bytes (fM s (bG h s)).toNat 4
theorem FM{h:aE}{s:Int}(hc:0≤bG h s):0≤fM s (bG h s)∧fM s (bG h s)+4≤384:=by
  obtain⟨h1,h2,h3⟩:=AA hc
  rw [h3]
  have hm:=JN (c:=cC h (s / 4).toNat) (by omega) h2
  have hst:0 < aT (cC h (s / 4).toNat):=by
    have:0≤cC h (s / 4).toNat∧cC h (s / 4).toNat≤2:=kN.1 (by omega)
    rcases gJ this with e | e | e <;> rw [e] <;> decide
  have:4≤aT (cC h (s / 4).toNat):=by
    have:0≤cC h (s / 4).toNat∧cC h (s / 4).toNat≤2:=kN.1 (by omega)
    rcases gJ this with e | e | e <;> rw [e] <;> decide
  unfold fM;rw [if_pos ⟨h1,h2⟩];omega
theorem oV{h:aE}(hs:eZ h){s:Int}(hc:0≤bG h s):vC h s=some (mJ h s):=by
  have hg:=FM hc
  unfold vC
  rw [iL hs]
  simp only [aG,tJ]
  have l1:=DM hs.2.2.1 (a:=(fM s (bG h s)).toNat) (w:=4) (by omega) (by have:=hs.1;omega) (by have:=hs.1;omega)
  rw [show((4:Nat):Int)=4 from rfl,Int.toNat_of_nonneg hg.1] at l1
  rw [l1];rfl
theorem FN{h:aE}(hs:eZ h){s:Int}(hc:0≤bG h s):AG h s=some (mJ h s):=by
  have hg:=FM hc
  have hm:h.Bytes.length≤maxLen:=by rw [hs.1];simp [maxLen]
  unfold AG rD
  rw [DO hm,lJ hs]
  have l1:=z8 hs.2.2.1 (a:=(fM s (bG h s)).toNat) (w:=4) (by omega) (by have:=hs.1;omega) (by have:=hs.1;omega)
  rw [show((4:Nat):Int)=4 from rfl,Int.toNat_of_nonneg hg.1] at l1
  have n1:¬bG h s < 0:=by omega
  simp [hs,n1,y7,l1,mJ]
end Go.Gv
end
noncomputable section
namespace Go.Gv
def dD(l:List aK):List Int:=l.flatMap aK.aM
def eT(l:aB):List Int:=dD l.Global++dD l.Own
def LOk(l:aB):Prop:=l.Global.length=3∧l.Own.length=9∧(∀s∈l.Own,s.aM.length≤2)∧(∀x∈eT l,0≤x∧x≤23)∧(eT l).Nodup
instance (l:aB):Decidable (LOk l):=by unfold LOk;infer_instance
theorem NB{l:List aK}{k:Nat}(h:k < l.length):dD (l.take (k+1))=dD (l.take k)++l[k].aM:=by
  unfold dD
  rw [SQ h,List.flatMap_append];simp
theorem aIU(l:List aK)(k:Nat):(dD (l.take k)).length≤(dD l).length:=by
  have:dD l=dD (l.take k)++dD (l.drop k):=by
    unfold dD;rw [←List.flatMap_append,UO]
  rw [this];simp
theorem RI(l:List aK){k:Nat}(h:k < l.length):l[k].aM.length≤(dD l).length:=by
  have h1:=aIU l (k+1)
  rw [NB h] at h1
  simp at h1;omega
theorem TL{l:aB}(h:(eT l).length≤1073741824)(hg:l.Global.length≤maxLen)(ho:l.Own.length≤maxLen):I6 l=some (eT l):=by
  have hsum:(dD l.Global).length+(dD l.Own).length≤1073741824:=by simpa [eT] using h
  unfold I6
  have k1:loop (yR l) ([],0)=some (dD l.Global):=by
    refine gD (f:=yR l) l.Global.length (fun k=>(dD (l.Global.take k),(k:Int))) _ (fun k hk=>?_) ?_
    · have h1:=aIU l.Global (k+1)
      rw [NB hk] at h1
      simp only [yR]
      rw [if_pos (by simp;omega),aR hk]
      simp only [aG]
      rw [aO (by simp at h1;omega),NB hk,iZ (pK hk hg)]
    · simp [yR]
  rw [k1]
  simp only [aG,S2,S1]
  have k2:loop (yQ l) (dD l.Global,0)=some (eT l):=by
    have:=gD (f:=yQ l) l.Own.length (fun k=>(dD l.Global++dD (l.Own.take k),(k:Int))) (eT l) (fun k hk=>?_) ?_
    · simpa [dD] using this
    · have h1:=aIU l.Own (k+1)
      rw [NB hk] at h1
      simp only [yQ]
      rw [if_pos (by simp;omega),aR hk]
      simp only [aG]
      rw [aO (by simp at h1 ⊢;omega),NB hk,iZ (pK hk ho),j8]
    · simp [yQ,eT]
  rw [k2];rfl
theorem L7{l:List Int}(hl:l.length≤maxLen)(x:Int):EA l x=some (decide (x∈l)):=by
  unfold EA
  have key:loop (tA l x) 0=some (if ∀y∈l,y≠x then Out.brk () else Out.ret true):=by
    refine jT (f:=tA l x) l (fun k=>(k:Int)) (fun y=>y≠x) _ _ (fun k h hp=>?_) (fun k h hp=>?_) ?_
    · simp only [tA]
      rw [if_pos (by simp;omega),aR h,iZ (pK h hl)]
      have:(l[k] == x)=false:=by simpa using hp
      simp only [aG,this,aN,if_false]
    · simp only [tA]
      rw [if_pos (by simp;omega),aR h]
      have:(l[k] == x)=true:=by simpa using hp
      simp only [aG,this,if_true]
    · simp [tA]
  rw [key]
  by_cases h:x∈l
  · rw [if_neg (fun q=>q x h rfl),bD h];rfl
  · rw [if_pos (fun y hy (e:y=x)=>h (e ▸ hy)),bQ h];rfl
theorem OC(l:List Int):l.Nodup↔∀k (h:k < l.length),l[k]∉l.take k:=by
  unfold List.Nodup
  rw [List.pairwise_iff_getElem]
  constructor
  · intro h k hk hm
    obtain⟨i,hi,he⟩:=List.mem_take_iff_getElem.1 hm
    exact h i k (by omega) hk (by omega) he
  · intro h i j hi hj hij he
    exact h j hj (List.mem_take_iff_getElem.2 ⟨i,by omega,he⟩)
theorem aAU{l:aB}(h:(eT l).length≤1073741824):IA l=some (decide (LOk l)):=by
  unfold IA zU
  by_cases hg:l.Global.length=3
  · by_cases ho:l.Own.length=9
    · have n1:((l.Global.length:Int) != 3)=false:=by simp;omega
      have n2:((l.Own.length:Int) != 9)=false:=by simp;omega
      simp only [n1,n2,aN,if_false]
      have k1:loop (nB l) 0=some (if ∀s∈l.Own,s.aM.length≤2 then Out.brk () else Out.ret false):=by
        refine jT (f:=nB l) l.Own (fun k=>(k:Int)) (fun s=>s.aM.length≤2) _ _ (fun k hk hp=>?_) (fun k hk hp=>?_) ?_
        · simp only [nB]
          rw [if_pos (by simp;omega),aR hk,aP (by omega) (by omega)]
          simp only [aG]
          rw [if_neg (by simp;omega)];rfl
        · simp only [nB]
          rw [if_pos (by simp;omega),aR hk]
          simp only [aG]
          rw [if_pos (by simp;omega)]
        · simp [nB]
      rw [k1]
      by_cases h2:∀s∈l.Own,s.aM.length≤2
      · rw [if_pos h2]
        simp only [aG,O4,O3]
        rw [TL h (by rw [hg];simp [maxLen]) (by rw [ho];simp [maxLen])]
        simp only [aG]
        have k2:loop (nA (eT l)) 0=some (if ∀k,k < (eT l).length→(0≤(eT l).getD k 0∧(eT l).getD k 0≤23)∧(eT l).getD k 0∉(eT l).take k then Out.brk () else Out.ret false):=by
          have hst:∀k,k < (eT l).length→nA (eT l) (k:Int)=if (0≤(eT l).getD k 0∧(eT l).getD k 0≤23)∧(eT l).getD k 0∉(eT l).take k then some (.next ((k+1:Nat):Int)) else some (.stop (Out.ret false)):=by
            intro k hk
            have e:(eT l).getD k 0=(eT l)[k]:=by rw [iX,eI hk];rfl
            rw [e]
            simp only [nA]
            rw [if_pos (by simp;omega),aR hk]
            simp only [aG,b7,zT]
            by_cases q:0≤(eT l)[k]∧(eT l)[k]≤23
            · rw [bD q]
              simp only [dA,aN,if_false,K9,BH]
              rw [aO (by omega),L7 (by simp [maxLen];omega),aP (by omega) (by omega)]
              by_cases q2:(eT l)[k]∈(eT l).take k
              · rw [if_neg (fun x=>x.2 q2),bD q2];rfl
              · rw [if_pos ⟨q,q2⟩,bQ q2];rfl
            · rw [bQ q];simp only [iN,if_true];rw [if_neg (fun x=>q x.1)]
          refine vZ (f:=nA (eT l)) (eT l).length (fun k=>(k:Int)) (fun k=>(0≤(eT l).getD k 0∧(eT l).getD k 0≤23)∧(eT l).getD k 0∉(eT l).take k) _ _ (fun k hk hx=>?_) (fun k hk hx=>?_) ?_
          · rw [hst k hk,if_pos hx]
          · rw [hst k hk,if_neg hx]
          · simp [nA]
        rw [k2]
        have hiff:LOk l↔∀k,k < (eT l).length→(0≤(eT l).getD k 0∧(eT l).getD k 0≤23)∧(eT l).getD k 0∉(eT l).take k:=by
          have e:∀k (hk:k < (eT l).length),(eT l).getD k 0=(eT l)[k]:=fun k hk=>by rw [iX,eI hk];rfl
          constructor
          · rintro⟨_,_,_,q1,q2⟩ k hk
            rw [e k hk]
            exact⟨q1 _ (dP hk),(OC _).1 q2 k hk⟩
          · intro q
            refine⟨hg,ho,h2,fun x hx=>?_,(OC _).2 fun k hk=>?_⟩
            · obtain⟨k,hk,rfl⟩:=ON.1 hx
              have:=(q k hk).1;rw [e k hk] at this;exact this
            · have:=(q k hk).2;rw [e k hk] at this;exact this
        by_cases q:LOk l
        · rw [if_pos (hiff.1 q),bD q];rfl
        · rw [if_neg (fun x=>q (hiff.2 x)),bQ q];rfl
      · rw [if_neg h2,bQ (fun q:LOk l=>h2 q.2.2.1)];rfl
    · have n1:((l.Global.length:Int) != 3)=false:=by simp;omega
      have n2:((l.Own.length:Int) != 9)=true:=by simp;omega
      simp only [n1,n2,aN,if_false,if_true]
      rw [bQ (fun q:LOk l=>ho q.2.1)]
  · have n1:((l.Global.length:Int) != 3)=true:=by simp;omega
    simp only [n1,if_true]
    rw [bQ (fun q:LOk l=>hg q.1)]
def y8:List Bool→List Int→Option (List Bool)
  | met,[]=>some met
  | met,x :: r=>if (0≤x∧x≤23)∧met.getD x.toNat true=false then y8 (met.set x.toNat true) r else none
theorem aHB:∀{xs:List Int} {met m:List Bool},y8 met xs=some m→m.length=met.length
  | [],met,m,h=>by simp [y8] at h;rw [h]
  | x :: r, met, m, h => by
    simp only [y8] at h
    split at h
    · have:=aHB h;simpa using this
    · cases h
theorem WE:∀(a b:List Int) (met:List Bool),y8 met (a++b)=(y8 met a).bind fun m=>y8 m b
  | [],b,met=>rfl
  | x :: r, b, met => by
    simp only [YI,y8]
    split
    · exact WE r b _
    · rfl
theorem UH:∀(xs:List Int) (met:List Bool),met.length=24→((y8 met xs).isSome=true↔(∀x∈xs,0≤x∧x≤23)∧xs.Nodup∧∀x∈xs,met.getD x.toNat true=false)
  | [],met,hm=>by simp [y8]
  | x :: r, met, hm => by
    simp only [y8]
    by_cases h:(0≤x∧x≤23)∧met.getD x.toNat true=false
    · rw [if_pos h,UH r _ (by simpa using hm)]
      have hset:∀y,0≤y∧y≤23→(((met.set x.toNat true).getD y.toNat true=false)↔(y≠x∧met.getD y.toNat true=false)):=by
        intro y hy
        rw [iX,iX]
        by_cases e:y=x
        · subst e;rw [YK (by omega)];simp
        · rw [OM (by omega)];simp [e]
      constructor
      · rintro⟨q1,q2,q3⟩
        refine⟨fun y hy=>?_,List.nodup_cons.2 ⟨fun hx=>?_,q2⟩,fun y hy=>?_⟩
        · rcases iA.1 hy with rfl | hy
          · exact h.1
          · exact q1 y hy
        · exact((hset x h.1).1 (q3 x hx)).1 rfl
        · rcases iA.1 hy with rfl | hy
          · exact h.2
          · exact((hset y (q1 y hy)).1 (q3 y hy)).2
      · rintro⟨q1,q2,q3⟩
        have q2:=List.nodup_cons.1 q2
        refine⟨fun y hy=>q1 y (jV _ hy),q2.2,fun y hy=>(hset y (q1 y (jV _ hy))).2 ⟨fun e=>q2.1 (e ▸ hy),q3 y (jV _ hy)⟩⟩
    · rw [if_neg h]
      constructor
      · intro q;cases q
      · rintro⟨q1,q2,q3⟩
        exact(h ⟨q1 x YM,q3 x YM⟩).elim
def aIV:Option (List Bool)→Out (List Bool) Bool
  | some m=>.brk m
  | none=>.ret false
theorem a0H{s:aK}(hl:s.aM.length≤maxLen):∀d k (met:List Bool),k+d=s.aM.length→met.length=24→loop (k9 s) ((k:Int),met)=some (aIV (y8 met (s.aM.drop k))):=by
  intro d
  induction d with
  | zero =>
    intro k met hk hm
    rw [bM (r:=Out.brk met) (by simp [k9];omega),List.drop_eq_nil_of_le (by omega)];rfl
  | succ d ih =>
    intro k met hk hm
    have hk':k < s.aM.length:=by omega
    have hd:s.aM.drop k=s.aM[k] :: s.aM.drop (k+1):=J8 hk'
    have hst:k9 s ((k:Int),met)=if (0≤s.aM[k]∧s.aM[k]≤23)∧met.getD s.aM[k].toNat true=false then some (.next (((k+1:Nat):Int),met.set s.aM[k].toNat true)) else some (.stop (Out.ret false)):=by
      simp only [k9]
      rw [if_pos (by simp;omega),aR hk']
      simp only [aG,wA]
      generalize s.aM[k]=x
      by_cases q:0≤x∧x≤23
      · obtain⟨j,rfl⟩:=aQE q.1
        have hj:j < met.length:=by omega
        have e:met.getD j true=met[j]:=by rw [iX,eI hj];rfl
        simp only [q,and_self,decide_true,dA,aN,if_false,m7,K9,true_and,e]
        rw [aO (by omega),aR hj]
        simp only [aG]
        cases met[j]
        · simp only [aN,if_false,if_true]
          rw [aO (by omega),iZ (pK hk' hl)]
        · simp
      · rw [bQ q];simp only [iN,if_true,m7];rw [if_neg (fun x=>q x.1)]
    rw [hd,y8]
    by_cases q:(0≤s.aM[k]∧s.aM[k]≤23)∧met.getD s.aM[k].toNat true=false
    · rw [if_pos q] at hst ⊢
      rw [bX hst,ih (k+1) _ (by omega) (by simpa using hm)]
    · rw [if_neg q] at hst ⊢
      rw [bM hst];rfl
def Y0(l:List aK):Prop:=∀s∈l,s.aM.length≤2
instance (l:List aK):Decidable (Y0 l):=by unfold Y0;infer_instance
theorem a0I{l:aB}(ho:l.Own.length=9)(hn:(l.Own++l.Global).length≤1000)(hs:∀s∈l.Own++l.Global,s.aM.length≤maxLen):∀d k (met:List Bool),k+d=(l.Own++l.Global).length→met.length=24 →
    loop (lB l) ((k:Int),met)=some (if Y0 (((l.Own++l.Global).drop k).take (9 - k))∧(y8 met (dD ((l.Own++l.Global).drop k))).isSome=true then Out.brk () else Out.ret false):=by
  intro d
  induction d with
  | zero =>
    intro k met hk hm
    rw [List.drop_eq_nil_of_le (by omega),if_pos ⟨by simp [Y0],rfl⟩]
    refine bM ?_
    simp only [lB]
    rw [if_neg (by simp;simp at hk;omega)]
  | succ d ih =>
    intro k met hk hm
    have hk':k < (l.Own++l.Global).length:=by omega
    have hd:(l.Own++l.Global).drop k=(l.Own++l.Global)[k] :: (l.Own++l.Global).drop (k+1):=J8 hk'
    have hsk:=hs _ (dP hk')
    have hf:dD ((l.Own++l.Global).drop k)=(l.Own++l.Global)[k].aM++dD ((l.Own++l.Global).drop (k+1)):=by unfold dD;rw [hd,List.flatMap_cons]
    have hin:∀b:Bool,lA (k:Int) met (l.Own++l.Global)[k] b=if b then some (.stop (Out.ret false)) else (match y8 met (l.Own++l.Global)[k].aM with | some m=>some (.next (((k+1:Nat):Int),m)) | none=>some (.stop (Out.ret false))):=by
      intro b
      have h4:=a0H hsk _ 0 met (HA _) hm
      rw [show((0:Nat):Int)=0 from rfl,BH] at h4
      unfold lA
      rw [h4]
      cases b
      · simp only [aN,if_false,aG]
        cases y8 met (l.Own++l.Global)[k].aM with
        | none=>rfl
        | some m=>simp only [aIV,OW,zG];rw [aP (by omega) (by omega)];rfl
      · rfl
    have hst:lB l ((k:Int),met)=lA (k:Int) met (l.Own++l.Global)[k] (decide (k < 9∧2 < (l.Own++l.Global)[k].aM.length)):=by
      simp only [lB]
      rw [if_pos (by simp;simp at hk';omega),aR hk']
      simp only [aG]
      by_cases h9:k < 9
      · rw [if_pos (by simp;omega)]
        congr 1
        rw [J1];simp only [decide_eq_true_eq];omega
      · rw [if_neg (by simp;omega),bQ (by omega)]
    rw [hin] at hst
    by_cases h2:k < 9∧2 < (l.Own++l.Global)[k].aM.length
    · rw [bD h2] at hst
      simp only [if_true] at hst
      rw [bM hst,if_neg]
      rintro⟨q,_⟩
      have e:9 - k=(9 - (k+1))+1:=by omega
      rw [hd,e,List.take_succ_cons] at q
      have:=q _ YM
      omega
    · rw [bQ h2] at hst
      simp only [aN,if_false] at hst
      have hcond:Y0 (((l.Own++l.Global).drop k).take (9 - k))↔Y0 (((l.Own++l.Global).drop (k+1)).take (9 - (k+1))):=by
        unfold Y0
        by_cases h9:k < 9
        · have e:9 - k=(9 - (k+1))+1:=by omega
          rw [hd,e,List.take_succ_cons,List.forall_mem_cons]
          exact⟨fun q=>q.2,fun q=>⟨by omega,q⟩⟩
        · have e:9 - k=0:=by omega
          have e':9 - (k+1)=0:=by omega
          rw [e,e'];simp
      rw [hf,WE]
      cases hg:y8 met (l.Own++l.Global)[k].aM with
      | none =>
        rw [hg] at hst
        rw [bM hst,if_neg (by simp)]
      | some m =>
        rw [hg] at hst
        rw [bX hst,ih (k+1) m (by omega) (by rw [aHB hg];exact hm)]
        simp only [aG,hcond]
theorem PM{l:aB}(h:(eT l).length≤1073741824):jY l=some (decide (LOk l)):=by
  unfold jY sA
  by_cases hg:l.Global.length=3
  · by_cases ho:l.Own.length=9
    · have n1:((l.Global.length:Int) != 3)=false:=by simp;omega
      have n2:((l.Own.length:Int) != 9)=false:=by simp;omega
      simp only [n1,n2,aN,if_false]
      rw [aO (by omega)]
      have hsl:∀s∈l.Own++l.Global,s.aM.length≤maxLen:=by
        intro s hm
        have hsum:(dD l.Global).length+(dD l.Own).length≤1073741824:=by simpa [eT] using h
        have hb:(1073741824:Nat)≤maxLen:=by simp [maxLen]
        rcases gK.1 hm with hm | hm
        · obtain⟨k,hk,rfl⟩:=ON.1 hm
          have:=RI l.Own hk;omega
        · obtain⟨k,hk,rfl⟩:=ON.1 hm
          have:=RI l.Global hk;omega
      have key:=a0I ho (by simp;omega) hsl (l.Own++l.Global).length 0 [false,false,false,false,false,false,false,false,false,false,false,false,false,false,false,false,false,false,false,false,false,false,false,false] (by omega) rfl
      rw [show((0:Nat):Int)=0 from rfl,BH,Nat.sub_zero] at key
      rw [key]
      have et:(l.Own++l.Global).take 9=l.Own:=by rw [←ho];simp
      have ef:dD (l.Own++l.Global)=dD l.Own++dD l.Global:=by simp [dD]
      have hm0:∀j:Nat,j < 24→[false,false,false,false,false,false,false,false,false,false,false,false,false,false,false,false,false,false,false,false,false,false,false,false].getD j true=false:=by decide
      have hiff:LOk l↔Y0 ((l.Own++l.Global).take 9)∧(y8 [false,false,false,false,false,false,false,false,false,false,false,false,false,false,false,false,false,false,false,false,false,false,false,false] (dD (l.Own++l.Global))).isSome=true:=by
        rw [UH _ _ rfl,et,ef]
        have hp:(dD l.Own++dD l.Global).Perm (eT l):=List.perm_append_comm
        constructor
        · rintro⟨_,_,q1,q2,q3⟩
          exact⟨q1,fun x hx=>q2 x (hp.mem_iff.1 hx),hp.nodup_iff.2 q3,fun x hx=>hm0 _ (by have:=q2 x (hp.mem_iff.1 hx);omega)⟩
        · rintro⟨q1,q2,q3,_⟩
          exact⟨hg,ho,q1,fun x hx=>q2 x (hp.mem_iff.2 hx),hp.nodup_iff.1 q3⟩
      by_cases q:LOk l
      · rw [if_pos (hiff.1 q),bD q];rfl
      · rw [if_neg (fun x=>q (hiff.2 x)),bQ q];rfl
    · have n1:((l.Global.length:Int) != 3)=false:=by simp;omega
      have n2:((l.Own.length:Int) != 9)=true:=by simp;omega
      simp only [n1,n2,aN,if_false,if_true]
      rw [bQ (fun q:LOk l=>ho q.2.1)]
  · have n1:((l.Global.length:Int) != 3)=true:=by simp;omega
    simp only [n1,if_true]
    rw [bQ (fun q:LOk l=>hg q.1)]
end Go.Gv
end
noncomputable section
namespace Go.Gv
def DP(h:aE)(l:List Int)(c:Int):Prop:=∀x∈l,bG h x=c∧mJ h x≤6
instance (h:aE) (l:List Int) (c:Int):Decidable (DP h l c):=by unfold DP;infer_instance
theorem NC{h:aE}(hs:eZ h){l:List Int}(hl:l.length≤maxLen){c:Int}(hc:0≤c):yT h l c=some (decide (DP h l c)):=by
  unfold yT
  have key:loop (mH h l c) 0=some (if ∀x∈l,bG h x=c∧mJ h x≤6 then Out.brk () else Out.ret false):=by
    have hst:∀k (hk:k < l.length),mH h l c (k:Int)=if bG h l[k]=c∧mJ h l[k]≤6 then some (.next ((k+1:Nat):Int)) else some (.stop (Out.ret false)):=by
      intro k hk
      simp only [mH]
      rw [if_pos (by simp;omega),aR hk]
      generalize l[k]=x
      simp only [aG,iL hs,wT]
      by_cases q:bG h x=c
      · have n1:(bG h x != c)=false:=by simp only [bne_eq_false_iff_eq];exact q
        simp only [n1,aN,if_false,oV hs (show 0≤bG h x by omega),aG,iZ (pK hk hl)]
        by_cases q2:mJ h x≤6
        · rw [if_neg (by simp;omega),if_pos ⟨q,q2⟩]
        · rw [if_pos (by simp;omega),if_neg (fun x=>q2 x.2)]
      · have n1:(bG h x != c)=true:=by simp only [bne_iff_ne];exact q
        simp only [n1,if_true]
        rw [if_neg (fun x=>q x.1)]
    refine jT (f:=mH h l c) l (fun k=>(k:Int)) (fun x=>bG h x=c∧mJ h x≤6) _ _ (fun k hk hp=>?_) (fun k hk hp=>?_) ?_
    · rw [hst k hk,if_pos hp]
    · rw [hst k hk,if_neg hp]
    · simp [mH]
  rw [key]
  by_cases q:∀x∈l,bG h x=c∧mJ h x≤6
  · rw [if_pos q,bD (show DP h l c from q)];rfl
  · rw [if_neg q,bQ (show ¬DP h l c from q)];rfl
theorem ND{h:aE}(hs:eZ h){s:aK}(hl:s.aM.length≤maxLen){c:Int}(hc:0≤c):yG h s c=some (decide (DP h s.aM c)):=by
  unfold yG
  have key:loop (mE h s c) 0=some (if ∀x∈s.aM,bG h x=c∧mJ h x≤6 then Out.brk () else Out.ret false):=by
    have hst:∀k (hk:k < s.aM.length),mE h s c (k:Int)=if bG h s.aM[k]=c∧mJ h s.aM[k]≤6 then some (.next ((k+1:Nat):Int)) else some (.stop (Out.ret false)):=by
      intro k hk
      simp only [mE]
      rw [if_pos (by simp;omega),aR hk]
      generalize s.aM[k]=x
      simp only [aG,lJ hs,wG]
      by_cases q:bG h x=c
      · have n1:(bG h x != c)=false:=by simp only [bne_eq_false_iff_eq];exact q
        simp only [n1,aN,if_false,FN hs (show 0≤bG h x by omega),aG,iZ (pK hk hl)]
        by_cases q2:mJ h x≤6
        · rw [if_neg (by simp;omega),if_pos ⟨q,q2⟩]
        · rw [if_pos (by simp;omega),if_neg (fun x=>q2 x.2)]
      · have n1:(bG h x != c)=true:=by simp only [bne_iff_ne];exact q
        simp only [n1,if_true]
        rw [if_neg (fun x=>q x.1)]
    refine jT (f:=mE h s c) s.aM (fun k=>(k:Int)) (fun x=>bG h x=c∧mJ h x≤6) _ _ (fun k hk hp=>?_) (fun k hk hp=>?_) ?_
    · rw [hst k hk,if_pos hp]
    · rw [hst k hk,if_neg hp]
    · simp [mE]
  rw [key]
  by_cases q:∀x∈s.aM,bG h x=c∧mJ h x≤6
  · rw [if_pos q,bD (show DP h s.aM c from q)];rfl
  · rw [if_neg q,bQ (show ¬DP h s.aM c from q)];rfl
def eD(l:List aK)(k:Nat):List Int:=(l.getD k ⟨[]⟩).aM
theorem dM{l:List aK}{k:Nat}(h:k < l.length):l[k].aM=eD l k:=by
  unfold eD;rw [iX,eI h];rfl
def J5(m:Mem)(k:Nat):Prop:=DP m.aE (eD m.aB.Global k) (k:Int)
def DQ(m:Mem)(k:Nat):Prop:=DP m.aE (eD m.aB.Own k) ((k % 3:Nat):Int)
instance (m:Mem) (k:Nat):Decidable (J5 m k):=by unfold J5;infer_instance
instance (m:Mem) (k:Nat):Decidable (DQ m k):=by unfold DQ;infer_instance
instance (m:Mem):Decidable (∀k,k < 3→J5 m k):=Nat.decidableBallLT 3 fun k _=>J5 m k
instance (m:Mem):Decidable (∀k,k < 9→DQ m k):=Nat.decidableBallLT 9 fun k _=>DQ m k
instance (m:Mem) (c:Nat):Decidable (∀w,w < 3→DQ m (w * 3+c)):=Nat.decidableBallLT 3 fun w _=>DQ m (w * 3+c)
instance (m:Mem):Decidable (∀k,k < 3→J5 m k∧∀w,w < 3→DQ m (w * 3+k)):=Nat.decidableBallLT 3 fun k _=>J5 m k∧∀w,w < 3→DQ m (w * 3+k)
def tK(m:Mem):Prop:=(WX m.aE∧LOk m.aB)∧(∀k,k < 3→J5 m k)∧∀k,k < 9→DQ m k
instance (m:Mem):Decidable (tK m):=by unfold tK;infer_instance
theorem LOk.WG{l:aB}(h:LOk l)(hb:(eT l).length≤1073741824):(∀s∈l.Global,s.aM.length≤1073741824)∧∀s∈l.Own,s.aM.length≤1073741824:=by
  have hsum:(dD l.Global).length+(dD l.Own).length≤1073741824:=by simpa [eT] using hb
  constructor
  · intro s hm
    obtain⟨k,hk,rfl⟩:=ON.1 hm
    have:=RI l.Global hk;omega
  · intro s hm
    obtain⟨k,hk,rfl⟩:=ON.1 hm
    have:=RI l.Own hk;omega
theorem aOO{m:Mem}:(∀k,k < 3→J5 m k∧∀w,w < 3→DQ m (w * 3+k))↔(∀k,k < 3→J5 m k)∧∀k,k < 9→DQ m k:=by
  constructor
  · intro h
    refine⟨fun k hk=>(h k hk).1,fun k hk=>?_⟩
    have:=(h (k % 3) (by omega)).2 (k / 3) (by omega)
    have e:k / 3 * 3+k % 3=k:=by omega
    rwa [e] at this
  · rintro⟨h1,h2⟩ k hk
    exact⟨h1 k hk,fun w hw=>h2 _ (by omega)⟩
theorem L8{m:Mem}(hb:m.aE.Bytes.length≤maxLen)(hl:(eT m.aB).length≤1073741824):I7 m=some (decide (tK m)):=by
  unfold I7 E6
  rw [aEB hb,aAU hl]
  by_cases h1:WX m.aE
  · by_cases h2:LOk m.aB
    · have hmx:(1073741824:Nat)≤maxLen:=by simp [maxLen]
      have hsl:=LOk.WG h2 hl
      simp only [bD h1,bD h2,aG,dA,aN,if_false]
      have k3:∀c:Nat,c < 3→loop (yV m (c:Int)) 0=some (if ∀w,w < 3→DQ m (w * 3+c) then Out.brk () else Out.ret false):=by
        intro c hc
        have hst:∀w:Nat,w < 3→yV m (c:Int) (w:Int)=if DQ m (w * 3+c) then some (.next ((w+1:Nat):Int)) else some (.stop (Out.ret false)):=by
          intro w hw
          have hk:w * 3+c < m.aB.Own.length:=by rw [h2.2.1];omega
          have e:rO (w:Int) (c:Int)=some ((w * 3+c:Nat):Int):=by
            unfold rO yU
            rw [b7,b7,bD (by omega),bD (by omega)]
            simp only [aG,dA,aN,if_false]
            rw [aP (x:=(w:Int) * 3) (by omega) (by omega),aP (by omega) (by omega)];rfl
          have hlen:=hsl.2 _ (dP hk)
          simp only [yV]
          rw [if_pos (by simp;omega),e]
          simp only [aG,aR hk]
          rw [NC h1.1 (by omega) (by omega),dM hk]
          have em:(w * 3+c) % 3=c:=by omega
          have ho:DQ m (w * 3+c)↔DP m.aE (eD m.aB.Own (w * 3+c)) (c:Int):=by unfold DQ;rw [em]
          rw [aP (by omega) (by omega)]
          by_cases q:DQ m (w * 3+c)
          · rw [if_pos q,bD (ho.1 q)];rfl
          · rw [if_neg q,bQ (fun x=>q (ho.2 x))];rfl
        refine vZ (f:=yV m (c:Int)) 3 (fun k=>(k:Int)) (fun w=>DQ m (w * 3+c)) _ _ (fun k hk hx=>?_) (fun k hk hx=>?_) ?_
        · rw [hst k hk,if_pos hx]
        · rw [hst k hk,if_neg hx]
        · rfl
      have k2:loop (yW m) 0=some (if ∀k,k < 3→J5 m k∧∀w,w < 3→DQ m (w * 3+k) then Out.brk () else Out.ret false):=by
        have hst:∀c:Nat,c < 3→yW m (c:Int)=if J5 m c∧∀w,w < 3→DQ m (w * 3+c) then some (.next ((c+1:Nat):Int)) else some (.stop (Out.ret false)):=by
          intro c hc
          have hk:c < m.aB.Global.length:=by rw [h2.1];omega
          have hlen:=hsl.1 _ (dP hk)
          simp only [yW]
          rw [if_pos (by simp;omega)]
          simp only [aG,aR hk]
          rw [NC h1.1 (by omega) (by omega),dM hk,k3 c hc]
          by_cases q:J5 m c
          · have q':DP m.aE (eD m.aB.Global c) (c:Int):=q
            rw [bD q']
            simp only [aG,dA,aN,if_false]
            by_cases q2:∀w,w < 3→DQ m (w * 3+c)
            · rw [if_pos q2,if_pos ⟨q,q2⟩]
              simp only [S4,S3]
              rw [aP (by omega) (by omega)];rfl
            · rw [if_neg q2,if_neg (fun x=>q2 x.2)];rfl
          · have q':¬DP m.aE (eD m.aB.Global c) (c:Int):=q
            rw [bQ q',if_neg (fun x:J5 m c∧_=>q x.1)];rfl
        refine vZ (f:=yW m) 3 (fun k=>(k:Int)) (fun k=>J5 m k∧∀w,w < 3→DQ m (w * 3+k)) _ _ (fun k hk hx=>?_) (fun k hk hx=>?_) ?_
        · rw [hst k hk,if_pos hx]
        · rw [hst k hk,if_neg hx]
        · rfl
      rw [k2]
      by_cases q:∀k,k < 3→J5 m k∧∀w,w < 3→DQ m (w * 3+k)
      · rw [if_pos q,bD (show tK m from ⟨⟨h1,h2⟩,aOO.1 q⟩)];rfl
      · rw [if_neg q,bQ (fun x:tK m=>q (aOO.2 x.2))];rfl
    · rw [bQ (fun q:tK m=>h2 q.1.2),bD h1,bQ h2];rfl
  · rw [bQ (fun q:tK m=>h1 q.1.1),bQ h1];rfl
theorem TM{m:Mem}(hb:m.aE.Bytes.length≤maxLen)(hl:(eT m.aB).length≤1073741824):I3 m=some (decide (tK m)):=by
  unfold I3 EW
  rw [JQ hb,PM hl]
  by_cases h1:WX m.aE
  · by_cases h2:LOk m.aB
    · have hmx:(1073741824:Nat)≤maxLen:=by simp [maxLen]
      have hsl:=LOk.WG h2 hl
      simp only [bD h1,bD h2,aG,dA,aN,if_false]
      have k3:loop (sW m) 0=some (if ∀k,k < 9→DQ m k then Out.brk () else Out.ret false):=by
        have hst:∀w:Nat,w < 9→sW m (w:Int)=if DQ m w then some (.next ((w+1:Nat):Int)) else some (.stop (Out.ret false)):=by
          intro w hw
          have hk:w < m.aB.Own.length:=by rw [h2.2.1];omega
          have hlen:=hsl.2 _ (dP hk)
          have em:Int.tmod (w:Int) 3=((w % 3:Nat):Int):=by rw [y6 (by omega)];omega
          simp only [sW]
          rw [if_pos (by simp;omega)]
          simp only [aG,aR hk,em]
          rw [ND h1.1 (by omega) (by omega),dM hk,aP (by omega) (by omega)]
          by_cases q:DQ m w
          · rw [if_pos q,bD (show DP m.aE (eD m.aB.Own w) ((w % 3:Nat):Int) from q)];rfl
          · rw [if_neg q,bQ (show ¬DP m.aE (eD m.aB.Own w) ((w % 3:Nat):Int) from q)];rfl
        refine vZ (f:=sW m) 9 (fun k=>(k:Int)) (fun w=>DQ m w) _ _ (fun k hk hx=>?_) (fun k hk hx=>?_) ?_
        · rw [hst k hk,if_pos hx]
        · rw [hst k hk,if_neg hx]
        · simp [sW,h2.2.1]
      have k2:loop (sY m) 0=some (if ∀k,k < 3→J5 m k then Out.brk () else Out.ret false):=by
        have hst:∀w:Nat,w < 3→sY m (w:Int)=if J5 m w then some (.next ((w+1:Nat):Int)) else some (.stop (Out.ret false)):=by
          intro w hw
          have hk:w < m.aB.Global.length:=by rw [h2.1];omega
          have hlen:=hsl.1 _ (dP hk)
          simp only [sY]
          rw [if_pos (by simp;omega)]
          simp only [aG,aR hk]
          rw [ND h1.1 (by omega) (by omega),dM hk,aP (by omega) (by omega)]
          by_cases q:J5 m w
          · rw [if_pos q,bD (show DP m.aE (eD m.aB.Global w) (w:Int) from q)];rfl
          · rw [if_neg q,bQ (show ¬DP m.aE (eD m.aB.Global w) (w:Int) from q)];rfl
        refine vZ (f:=sY m) 3 (fun k=>(k:Int)) (fun w=>J5 m w) _ _ (fun k hk hx=>?_) (fun k hk hx=>?_) ?_
        · rw [hst k hk,if_pos hx]
        · rw [hst k hk,if_neg hx]
        · simp [sY,h2.1]
      rw [k2]
      by_cases q:∀k,k < 3→J5 m k
      · rw [if_pos q]
        simp only [aG,SZ,SY]
        rw [k3]
        by_cases q2:∀k,k < 9→DQ m k
        · rw [if_pos q2,bD (show tK m from ⟨⟨h1,h2⟩,q,q2⟩)];rfl
        · rw [if_neg q2,bQ (fun x:tK m=>q2 x.2.2)];rfl
      · rw [if_neg q,bQ (fun x:tK m=>q x.2.1)];rfl
    · rw [bQ (fun q:tK m=>h2 q.1.2),bD h1,bQ h2];rfl
  · rw [bQ (fun q:tK m=>h1 q.1.1),bQ h1];rfl
end Go.Gv
end
noncomputable section
namespace Go.Gv
theorem GF{l:List aK}{s:aK}(h:s∈l):s.aM.length≤(dD l).length:=by
  obtain⟨k,hk,rfl⟩:=ON.1 h
  exact RI l hk
theorem qS(l:aB):(eT l).length=(dD l.Global).length+(dD l.Own).length:=by simp [eT]
def xW(m:Mem):Prop:=m.aE.Bytes.length≤1048576∧m.aE.Class.length≤1048576∧m.aB.Global.length≤1048576∧m.aB.Own.length≤1048576∧(eT m.aB).length≤1048576
theorem xW.WG{m:Mem}(h:xW m):(∀s∈m.aB.Global,s.aM.length≤1048576)∧∀s∈m.aB.Own,s.aM.length≤1048576:=by
  have:=qS m.aB
  have h5:=h.2.2.2.2
  exact⟨fun s hm=>by have:=GF hm;omega,fun s hm=>by have:=GF hm;omega⟩
end Go.Gv
end
noncomputable section
namespace Go.Gv
def POk(e:Int)(p:o5):Prop:=(0≤p.aL∧p.aL≤e)∧(0≤p.Seen∧p.Seen≤2)∧(p.On=false→p=⟨false,0,false,0⟩)
instance (e:Int) (p:o5):Decidable (POk e p):=by unfold POk;infer_instance
def PN(c:aH):Prop:=(0≤c.aL∧c.aL≤100000)∧c.bO.length=3∧∀p∈c.bO,POk c.aL p
instance (c:aH):Decidable (PN c):=by unfold PN;infer_instance
theorem iM(c:aH):nX c=some (decide (PN c)):=by
  unfold nX
  rw [b7]
  by_cases h1:0≤c.aL∧c.aL≤100000
  · by_cases h2:c.bO.length=3
    · simp only [aG,h1,h2,nD]
      have key:∀k:Nat,k≤3→loop (sK c) (k:Int)=some (if ∀p∈c.bO.drop k,POk c.aL p then Out.brk () else Out.ret false):=by
        refine aHU 3 _ fun k hk=>?_
        by_cases h3:k < 3
        · have hd:c.bO.drop k=c.bO[k] :: c.bO.drop (k+1):=J8 (by omega)
          simp only [sK]
          rw [if_pos (by simp;omega),aR (by omega)]
          simp only [aG,b7,lG,hd]
          rw [iZ (by simp [maxLen];omega)]
          generalize c.bO[k]=p
          have hp:POk c.aL p↔decide (0≤p.aL∧p.aL≤c.aL)=true∧decide (0≤p.Seen∧p.Seen≤2)=true∧(p.On=false→decide (p=⟨false,0,false,0⟩)=true):=by simp only [POk,decide_eq_true_eq]
          simp only [List.forall_mem_cons,hp]
          generalize decide (0≤p.aL∧p.aL≤c.aL)=b1
          generalize decide (0≤p.Seen∧p.Seen≤2)=b2
          generalize decide (p=⟨false,0,false,0⟩)=b3
          generalize p.On=b4
          cases b1 <;> cases b2 <;> cases b3 <;> cases b4 <;> simp [h3]
        · left
          obtain rfl:k=3:=by omega
          simp [sK,List.drop_eq_nil_of_le (show c.bO.length≤3 by omega)]
      have:=key 0 (by omega)
      simp only [Int.ofNat_zero,BH] at this
      have e:decide (PN c)=if ∀p∈c.bO,POk c.aL p then true else false:=by
        have:PN c↔∀p∈c.bO,POk c.aL p:=⟨fun h=>h.2.2,fun h=>⟨h1,h2,h⟩⟩
        simp [this]
      rw [e]
      simp only [Int.cast_ofNat_Int] at *
      have t0:loop (sK c) 0=_:=this
      by_cases h5:∀p∈c.bO,POk c.aL p
      · rw [if_pos h5] at t0 ⊢;rw [t0];simp [GV,O5]
      · rw [if_neg h5] at t0 ⊢;rw [t0];simp [GV]
    · simp [h1,h2,nD,PN]
      omega
  · simp [h1,nD,PN]
theorem aKS(p:o5)(c:aH):uO p c=some (!decide (POk c.aL p)):=by
  unfold uO kR
  rw [eA,eA]
  have hp:decide (POk c.aL p)=(decide (0≤p.aL∧p.aL≤c.aL) && (decide (0≤p.Seen∧p.Seen≤2) && (p.On || decide (p=⟨false,0,false,0⟩)))):=by
    rw [J1];simp only [POk,decide_eq_true_eq,DS,Bool.or_eq_true]
    by_cases h:p.On=true
    · simp [h]
    · simp [(by simpa using h:p.On=false)]
  rw [hp]
  generalize decide (0≤p.aL∧p.aL≤c.aL)=b1
  generalize decide (0≤p.Seen∧p.Seen≤2)=b2
  generalize decide (p=⟨false,0,false,0⟩)=b3
  generalize p.On=b4
  cases b1 <;> cases b2 <;> cases b3 <;> cases b4 <;> rfl
theorem aIX{l:List o5}(hl:l.length≤maxLen)(f:o5→Bool):kQ l (fun x=>some (f x))=some (l.any f):=by
  unfold kQ uN
  have key:∀k:Nat,k≤l.length→loop (iQ l (fun x=>some (f x))) (k:Int)=some (if (l.drop k).any f then Out.ret ((k+(l.drop k).findIdx f:Nat):Int) else Out.brk ()):=by
    refine aHU l.length _ fun k hk=>?_
    by_cases h3:k < l.length
    · have hd:l.drop k=l[k] :: l.drop (k+1):=J8 h3
      simp only [iQ]
      rw [if_pos (by simp;omega),aR h3,iZ (pK h3 hl),hd]
      simp only [aG,List.any_cons,List.findIdx_cons]
      by_cases h4:f l[k]=true
      · left;simp [h4]
      · right
        have h4:f l[k]=false:=by simpa using h4
        refine⟨h3,by simp [h4],?_⟩
        simp only [h4,Bool.false_or,cond_false]
        congr 2;omega
    · left
      obtain rfl:k=l.length:=by omega
      simp [iQ]
  have t0:loop (iQ l (fun x=>some (f x))) 0=_:=key 0 (by omega)
  rw [t0]
  simp only [BH]
  by_cases h:l.any f=true
  · simp [h,pQ]
  · have h:l.any f=false:=by simpa using h
    simp [h,pQ,AY]
theorem sO{c:aH}(hc:c.bO.length≤maxLen):nP c=some (decide (PN c)):=by
  unfold nP sB
  rw [eA]
  have e:(fun y0=>uO y0 c)=fun y0=>some (!decide (POk c.aL y0)):=funext fun y=>aKS y c
  rw [e,aIX hc]
  by_cases h1:0≤c.aL∧c.aL≤100000
  · by_cases h2:c.bO.length=3
    · have:PN c↔∀p∈c.bO,POk c.aL p:=⟨fun h=>h.2.2,fun h=>⟨h1,h2,h⟩⟩
      have e2:(c.bO.any fun y0=>!decide (POk c.aL y0))=!decide (∀p∈c.bO,POk c.aL p):=by
        rw [J1];simp
      simp [h1,h2,this,e2]
    · have:¬(c.bO.length:Int)=3:=by omega
      simp [h1,this,h2,PN]
  · simp [h1,PN]
end Go.Gv
end
