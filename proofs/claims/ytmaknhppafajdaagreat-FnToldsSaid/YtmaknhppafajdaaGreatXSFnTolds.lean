import Derived.Test.YtmaknhppafajdaaGreatXLF
import Derived.Test.YtmaknhppafajdaaGreatProg
set_option linter.unusedVariables false
set_option linter.unusedSimpArgs false
set_option linter.unusedSectionVars false
set_option linter.constructorNameAsVariable false
set_option linter.unnecessarySimpa false
noncomputable section
namespace Go.Gv
noncomputable section
variable {P:Program} {T:TT} {hT:HQ P T} {n:Nat} {c:Ctx} {B0:Bl} {N:Act→World→Prop} {X:Nat→Act→World→Prop} {Q:Act→World→Prop} {K K':List Fr} {m m':Nat} {e e':SE} {L L':List Ch} {cf:yW}
def cG:LS E2:=⟨Unit,fun x _=>[.s x.b],fun _ _ _ _=>True,fun h=>⟨(),by cases h;rfl,trivial⟩,fun x _=>.s x.b,fun _ _ _=>trivial⟩
end
end Go.Gv
end
noncomputable section
namespace Go.Gv
def oG:CO E2:=cG.o (fun _ _=>[]) (fun h=>by cases h;exact gJ rfl) (fun _ _=>rfl) (fun _ _ _=>rfl)
noncomputable section
variable {P:Program} {T:TT} {hT:HQ P T} {n:Nat} {c:Ctx} {B0:Bl} {N:Act→World→Prop} {X:Nat→Act→World→Prop} {Q:Act→World→Prop} {K K':List Fr} {m m':Nat} {e e':SE} {L L':List Ch} {cf cf1 cf2:yW} {o:Oper}
end
end Go.Gv
end
noncomputable section
namespace Go.Gv
noncomputable section
def QU(x:zD):Option Bool:=
  (GO x.aZ).bind fun x1=>some ((x1.aT.length:Int) == 3)
def N0(code:Int):Option (List UInt8):=
  (bX code 0 8).bind fun x1=>(if !x1 then some ([]) else (idx ([(⟨[111,107]⟩:E2),(⟨[97,114,103,115]⟩:E2),(⟨[115,105,122,101]⟩:E2),(⟨[102,117,108,108]⟩:E2),(⟨[115,116,97,108,101]⟩:E2),(⟨[103,117,97,114,100]⟩:E2),(⟨[115,116,97,108,108]⟩:E2),(⟨[99,108,97,115,104]⟩:E2),(⟨[110,111,110,101]⟩:E2)]:List E2) code).bind fun x2=>some x2.b)
def aL8:Option Bool:=
  some true
def yR(s:aB):Int→Option (Step Int (Out Unit Bool))
  | x4=>(if decide (x4 < (s.aZ.length:Int)) then (idx s.aZ x4).bind fun x5=>(if decide (0 < (x5.fM.length:Int)) then some (.stop (Out.ret false)) else some (.next (aY (x4+1)))) else some (.stop (Out.brk ())))
def aL9:(Out Unit Bool)→Option Bool
  | .brk ()=>aL8
  | .ret r=>some r
def YZ(s:aB):Option Bool:=
  (loop (yR s) 0).bind (aL9)
def yT(s:aB):Int→Option (Step Int (Out Unit Bool))
  | x2=>(if decide (x2 < (s.aT.length:Int)) then (idx s.aT x2).bind fun x6=>(if x6.cY then some (.stop (Out.ret false)) else some (.next (aY (x2+1)))) else some (.stop (Out.brk ())))
def Y0(s:aB):(Out Unit Bool)→Option Bool
  | .brk ()=>YZ s
  | .ret r=>some r
def UZ(s:aB):Option Bool:=
  (loop (yT s) 0).bind (Y0 s)
def aI1(x5:Int):Option Int:=
  some x5
def G3(x4 x6:Int):Option (Step (Int×Int) Int):=
  some (.next (x6,aY (x4+1)))
def A0(l:List Ev)(kind:Int):(Int×Int)→Option (Step (Int×Int) Int)
  | (x3,x4)=>(if decide (x4 < (l.length:Int)) then (idx l x4).bind fun x7=>(if x7.Kind == kind then G3 x4 (aY (x3+1)) else G3 x4 x3) else some (.stop (x3)))
def aI2:Int→Option Int
  | x5=>aI1 x5
def LF(l:List Ev)(kind:Int):Option Int:=
  (loop (A0 l kind) (0,0)).bind (aI2)
def oX(x22:Bool):Option Bool:=
  some x22
def RR(x8:(List Ev))(x13:Int)(x21:aB):Option Bool:=
  (UZ x21).bind fun x23=>(if x23 then (if (x8.length:Int) == x13 then (LF x21.Log 1).bind fun x24=>(if x24 == x13 then (LF x21.Log 4).bind fun x25=>oX (x25 == x13) else oX false) else oX false) else oX false)
def oY(x8:(List Ev))(x18:List Int)(x19:Int)(x26:Bool)(x27:aB):Option (Step ((List Int)×Int×aB) (Out aB Bool)):=
  (if x26 then some (.stop (Out.ret false)) else (idx x8 x19).bind fun x28=>need (x18.length+([x28.aI]).length≤1073741824) (some (.next (x18++([x28.aI]),aY (x19+1),x27))))
def uB(x8:(List Ev))(x13:Int):((List Int)×Int×aB)→Option (Step ((List Int)×Int×aB) (Out aB Bool))
  | (x18,x19,x20)=>(if decide (x19 < (x8.length:Int)) then (idx x8 x19).bind fun x29=>(J9 x18 x29.aI).bind fun x30=>(if x30 then oY x8 x18 x19 true x20 else (if decide (x29.aI < 1) then oY x8 x18 x19 true x20 else (if decide (x13 < x29.aI) then oY x8 x18 x19 true x20 else (N0 x29.Code).bind fun x31=>oY x8 x18 x19 (x31 == ([])) x20))) else some (.stop (Out.brk x20)))
def RS(x8:(List Ev))(x13:Int):(Out aB Bool)→Option Bool
  | .brk x21=>RR x8 x13 x21
  | .ret r=>some r
def RT(x8:(List Ev))(x13:Int)(x14:aB):Option Bool:=
  (loop (uB x8 x13) (([]:List Int),0,x14)).bind (RS x8 x13)
def oZ(x2:zD)(x7:aB):(Int×Int)→Option (Step (Int×Int) (Int×aB))
  | (x11,x12)=>(if decide (x12 < 3) then (idx x2.aZ x12).bind fun x32=>some (.next (aY (x11+(x32.fM.length:Int)),aY (x12+1))) else some (.stop ((x11,x7))))
def RU(x8:(List Ev)):(Int×aB)→Option Bool
  | (x13,x14)=>RT x8 x13 x14
def QV(code:List UInt8):Option Bool:=
  (vS code).bind fun x1=>(if x1 then some true else (jE code).bind fun x2=>(QU x2).bind fun x3=>(if !x3 then (lD x2).bind fun x4=>(iP x4).bind fun x5=>some ((x5.aT.length:Int) == 0) else (lD x2).bind fun x6=>(iP x6).bind fun x7=>(vT x7).bind fun x8=>(loop (oZ x2 x7) (0,0)).bind (RU x8)))
end
end Go.Gv
end
noncomputable section
set_option maxHeartbeats 4000000
set_option maxRecDepth 100000
namespace Go.Proofs.YtmaknhppafajdaaGreat
open Go.Gv
theorem aT1:V8 Tryz.prog 9 1 (.string ⟨#[]⟩):=HP (b:=16) (by kernel_rfl) rfl
end Go.Proofs.YtmaknhppafajdaaGreat
end
noncomputable section
set_option maxHeartbeats 4000000
set_option maxRecDepth 100000
namespace Go.Proofs.YtmaknhppafajdaaGreat
open Go.Gv
noncomputable section
variable {κ:Ctx}
theorem aHI:VS Tryz.prog κ 309 JD [] [] [] (fun r (y:AC×AC)=>.g [.h y.1 r.Bytes.length,.h y.2 r.Class.length]) (fun r y=>[ow y.1 r.Bytes,ow y.2 r.Class]):=
 dW tok Tryz.call309 Tryz.func309 Tryz.results309 Q Q<|fun hF=>xI (0:Int) aW (fun w=>nE Q w) Q Q Q Q Q Q Q hF fun hF s1=>nw Int Q<|wi hF<|QX ⟨none,0⟩ [0,1] (fun(p:Int×(List Int)) (s3:AC)=>[(2,I p.1)]) [3,2,0,1] [0,1] (fun p s3=>[ow s3 (p.2:List Int),.box 1 [.h s1 (List.replicate ((384:Int).toNat) 0).length,.h s3 p.2.length]]) id [0,1] (fun(x5:(List Int)) (s4:AC)=>[]) [0,1] (fun x5 s4=>[ow s4 (x5:List Int),.box 1 [.h s1 (List.replicate ((384:Int).toNat) 0).length,.h s4 x5.length]]) Q Q (fun hF1 ⟨x3,x4⟩ s3 hr1=>b8 [6] Q Q (fun hG1=>lt1 Q aW Q Q Q Q fun s5=>ap 0 aW Q Q Q Q Q Q Q (fun h=>(h.o 4 Q)) Q Q hG1 fun hG1 s6=>wi hG1<|nxW s6 [0,1,2,3] Q)<|bkW s3 [0,1,2,3] Q) fun x5 s4=>nP (s1,s4) [3,0] Q Q
theorem aCS:VS Tryz.prog κ 310 M4 [] [] [] (fun r (y:AC×AC)=>.g [.h y.1 r.Global.length,.h y.2 r.cT.length]) (fun r y=>[ow y.1 r.Global,ow y.2 r.cT]):=
 dW tok Tryz.call310 Tryz.func310 Tryz.results310 Q Q<|iT 0 1 (fun(_:Unit)=>OM) [0] (fun(_:Unit) (u:AC×AC)=>[]) [] (fun _ u=>[ow u.1 (List.replicate ((3:Int).toNat) (⟨[]⟩:aR):List aR),ow u.2 (List.replicate ((9:Int).toNat) (⟨[]⟩:aR):List aR),.box 0 [.h u.1 (List.replicate ((3:Int).toNat) (⟨[]⟩:aR)).length,.h u.2 (List.replicate ((9:Int).toNat) (⟨[]⟩:aR)).length]]) Q (nZ aO [] Q<|fun hF=>nd hF fun hA1 hF=>nd hF fun hA2 hF=>hC Q Q (have hq1:=rn hA1;xI ((⟨[]⟩:aR):aR) d9 (fun _=>(kE (CT (⟨[]⟩:aR)) (yV LG))) Q Q Q Q Q Q Q hq1 fun hq1 s5=>have hq2:=rn hA2;xI ((⟨[]⟩:aR):aR) d9 (fun _=>(kE (CT (⟨[]⟩:aR)) (yV LG))) Q Q Q Q Q Q Q hq2 fun hq2 s6=>wi hF<|pR (p:=()) (s5,s6) [1,2,0] Q Q) (have hq3:=rn hA2;xI ((⟨[]⟩:aR):aR) d9 (fun _=>(kE (CT (⟨[]⟩:aR)) (yV LG))) Q Q Q Q Q Q Q hq3 fun hq3 s7=>have hq4:=rn hA1;xI ((⟨[]⟩:aR):aR) d9 (fun _=>(kE (CT (⟨[]⟩:aR)) (yV LG))) Q Q Q Q Q Q Q hq4 fun hq4 s8=>wi hF<|pR (p:=()) (s8,s7) [2,1,0] Q Q)) fun _ ⟨s1,s2⟩=>nP (s1,s2) [0,1] Q Q
theorem aI3:VS Tryz.prog κ 239 S3 [] [] [] (fun r (y:A4C)=>.g (yM r y)) (fun r y=>(zM r y [])):=
 dW tok Tryz.call239 Tryz.func239 Tryz.results239 Q Q<|c1 Q (fun _=>aHI) fun x1 s1=>c1 Q (fun _=>aCS) fun x2 s2=>nP (s1.1,s1.2,s2.1,s2.2) [1,2,3,4] Q Q
theorem aI4:VS Tryz.prog κ 229 S7 [] [] [] (fun r (y:AC)=>.h y r.length) (fun r y=>[ow y r]):=
 dW tok Tryz.call229 Tryz.func229 Tryz.results229 Q Q<|fun hF=>xI (0:Int) aW (fun w=>nE Q w) Q Q Q Q Q Q Q hF fun hF s1=>wi hF<|nP s1 [0] Q Q
theorem aCT:VS Tryz.prog κ 254 M7 [] [] [] (fun r (y:AC)=>.g [I r.aJ,.h y r.cK.length]) (fun r y=>[ow y r.cK]):=
 dW tok Tryz.call254 Tryz.func254 Tryz.results254 Q Q<|fun hF=>xI ((⟨false,0,false,0⟩:qA):qA) P3 (fun w=>nE (aWS (⟨false,0,false,0⟩:qA)) w) Q Q Q Q Q Q Q hF fun hF s1=>wi hF<|nP s1 [1] Q Q
theorem aCU:VS Tryz.prog κ 255 M8 [] [] [] (fun r (y:AC)=>.h y r.length) (fun r y=>[ow y r]):=
 dW tok Tryz.call255 Tryz.func255 Tryz.results255 Q Q<|fun hF=>xI ((⟨[]⟩:bB):bB) HK (fun _=>(kE (aEK (⟨[]⟩:bB)) (yV LG))) Q Q Q Q Q Q Q hF fun hF s1=>wi hF<|nP s1 [0] Q Q
theorem xF:VS Tryz.prog κ 170 JG [] [] [] (fun r (y:A7C)=>.g (yB r y)) (fun r y=>(zB r y [])):=
 dW tok Tryz.call170 Tryz.func170 Tryz.results170 Q Q<|c1 Q (fun _=>aI3) fun x1 s1=>c1 Q (fun _=>aCT) fun x2 s2=>c1 Q (fun _=>aCU) fun x3 s3=>c1 Q (fun _=>aI4) fun x4 s4=>nP (s1.1,s1.2.1,s1.2.2.1,s1.2.2.2,s2,s3,s4) [1,2,3,4,5,6,7] Q Q
theorem gA{l:List Queue}{s1:AC}(h1:bL κ s1 l):VS Tryz.prog κ 204 (D5 l) [.h s1 l.length] [] [] (fun r (y:AC)=>.h y r.length) (fun r y=>[ow y r]):=
 dW tok Tryz.call204 Tryz.func204 Tryz.results204 Q Q<|fun hF=>WJ (α:=Queue) fI Q Q Q Q fun s2=>wi hF<|QX s2 [0] (fun(p:(List Queue)×Int) (s4:AC)=>[(3,.h s4 p.1.length),(4,I p.2)]) [0] [] (fun p s4=>[ow s4 (p.1:List Queue)]) id [] (fun(x5:(List Queue)) (s5:AC)=>[(3,.h s5 x5.length)]) [] (fun x5 s5=>[ow s5 (x5:List Queue)]) Q Q (fun hF1 ⟨x3,x4⟩ s4 hr1=>b8 [9] Q Q (fun hG1=>WJ (α:=bK) bG Q Q Q Q fun s6=>wi hG1<|OG NA Q h1 Q fun x6 s7 h2=>fun hG1=>ap 1 bG Q Q Q Q Q Q Q (fun h=>(h.a h2)) Q Q hG1 fun hG1 s8=>RY dS [1] ((⟨([]:List bK)++x6.fM⟩:Queue)) s8 fI Q Q Q Q Q Q Q Q Q Q Q Q Q fun s9=>apN 0 3 fI Q Q Q Q Q Q Q Q Q Q Q hG1 fun hG1 s10=>wi hG1<|nxW s10 [4] Q)<|bkW s4 [0] Q) fun x5 s5=>nP s5 [0] Q Q
theorem aCV{todo:List Queue}{s1:AC}(h1:bL κ s1 todo):VS Tryz.prog κ 100 (GO todo) [.h s1 todo.length] [] [] (fun r (y:aBK)=>.g (yS r y)) (fun r y=>(zS r y [])):=
 dW tok Tryz.call100 Tryz.func100 Tryz.results100 Q Q<|c0 Q (fun h=>TE (h.a h1)) fun x1=>b8 [5] Q Q (fun hF=>sR Q<|W5 Int<|W5 Int<|W5 aR<|W5 aR<|W5 qA<|W5 bB<|W5 Int<|W5 Int<|W5 bD<|W5 Queue<|W5 Ev<|tF (hT:=tok) (⟨none,0⟩,⟨none,0⟩,⟨none,0⟩,⟨none,0⟩,⟨none,0⟩,⟨none,0⟩,⟨none,0⟩,⟨none,0⟩,⟨none,0⟩,⟨none,0⟩,⟨none,0⟩) [1,2,3,4,5,6,7,8,9,10,11] hF Q Tryz.results100 Q Q Q Q)<|iT 0 1 OT [2] (fun(x2:aB) (u:a6B)=>[]) [] (fun x2 u=>(oB x2.aA u.1 u.2.1 u.2.2.1 u.2.2.2.1 u.2.2.2.2.1 u.2.2.2.2.2.1 u.2.2.2.2.2.2.1 [ow u.2.2.2.2.2.2.2.1 (x2.Cells:List Int),ow u.2.2.2.2.2.2.2.2.1 (x2.aT:List bD),ow u.2.2.2.2.2.2.2.2.2 (x2.aZ:List Queue),.box 0 [.h u.1 x2.aA.Mem.aE.Bytes.length,.h u.2.1 x2.aA.Mem.aE.Class.length,.h u.2.2.1 x2.aA.Mem.aD.Global.length,.h u.2.2.2.1 x2.aA.Mem.aD.cT.length,I x2.aA.aC.aJ,.h u.2.2.2.2.1 x2.aA.aC.cK.length,.h u.2.2.2.2.2.1 x2.aA.aM.length,.h u.2.2.2.2.2.2.1 x2.aA.mP.length,.h u.2.2.2.2.2.2.2.1 x2.Cells.length,.h u.2.2.2.2.2.2.2.2.1 x2.aT.length,.h u.2.2.2.2.2.2.2.2.2 x2.aZ.length,.h ⟨none,0⟩ 0,I x2.aI]])) Q (nZ aO [] Q<|fun hF=>bd hF fun x3 hA1 hF=>nd hF fun hA2 hF=>nd hF fun hA3 hF=>bd hF fun x4 hA4 hF=>aPJ Q Q (have hq1:=rb hA1;wi hq1<|c1 Q (fun _=>xF) fun u1 s16=>fun hq1=>match u1,hq1 with | _,rfl=>aPJ Q Q (have hq2:=rn hA2;xI (0:Int) aW (fun w=>nE Q w) Q Q Q Q Q Q Q hq2 fun hq2 s17=>hC Q Q (have hq3:=rn hA3;xI ((⟨false,(⟨0,0,0,0⟩:bK),0,0,(⟨0,0,0,0,0,0,0,0,0,false⟩:Sub),0,0,0,0⟩:bD):bD) fX (fun w=>nE (uQ (⟨false,(⟨0,0,0,0⟩:bK),0,0,(⟨0,0,0,0,0,0,0,0,0,false⟩:Sub),0,0,0,0⟩:bD)) w) Q Q Q Q Q Q Q hq3 fun hq3 s18=>have hq4:=rb hA4;wi hq4<|c1 Q (fun h=>gA (h.a h1)) fun u2 s19=>fun hq4=>match u2,hq4 with | _,rfl=>wi hF<|pR (p:=((⟨x3,List.replicate ((2:Int).toNat) 0,List.replicate ((3:Int).toNat) (⟨false,(⟨0,0,0,0⟩:bK),0,0,(⟨0,0,0,0,0,0,0,0,0,false⟩:Sub),0,0,0,0⟩:bD),x4,[],0⟩:aB))) (s16.1,s16.2.1,s16.2.2.1,s16.2.2.2.1,s16.2.2.2.2.1,s16.2.2.2.2.2.1,s16.2.2.2.2.2.2,s17,s18,s19) [1,2,3,4,5,6,7,8,9,10,0] Q Q) (have hq5:=rb hA4;wi hq5<|c1 Q (fun h=>gA (h.a h1)) fun u3 s20=>fun hq5=>match u3,hq5 with | _,rfl=>have hq6:=rn hA3;xI ((⟨false,(⟨0,0,0,0⟩:bK),0,0,(⟨0,0,0,0,0,0,0,0,0,false⟩:Sub),0,0,0,0⟩:bD):bD) fX (fun w=>nE (uQ (⟨false,(⟨0,0,0,0⟩:bK),0,0,(⟨0,0,0,0,0,0,0,0,0,false⟩:Sub),0,0,0,0⟩:bD)) w) Q Q Q Q Q Q Q hq6 fun hq6 s21=>wi hF<|pR (p:=((⟨x3,List.replicate ((2:Int).toNat) 0,List.replicate ((3:Int).toNat) (⟨false,(⟨0,0,0,0⟩:bK),0,0,(⟨0,0,0,0,0,0,0,0,0,false⟩:Sub),0,0,0,0⟩:bD),x4,[],0⟩:aB))) (s16.1,s16.2.1,s16.2.2.1,s16.2.2.2.1,s16.2.2.2.2.1,s16.2.2.2.2.2.1,s16.2.2.2.2.2.2,s17,s21,s20) [1,2,3,4,5,6,7,8,10,9,0] Q Q)) (have hq7:=rn hA3;xI ((⟨false,(⟨0,0,0,0⟩:bK),0,0,(⟨0,0,0,0,0,0,0,0,0,false⟩:Sub),0,0,0,0⟩:bD):bD) fX (fun w=>nE (uQ (⟨false,(⟨0,0,0,0⟩:bK),0,0,(⟨0,0,0,0,0,0,0,0,0,false⟩:Sub),0,0,0,0⟩:bD)) w) Q Q Q Q Q Q Q hq7 fun hq7 s22=>hC Q Q (have hq8:=rn hA2;xI (0:Int) aW (fun w=>nE Q w) Q Q Q Q Q Q Q hq8 fun hq8 s23=>have hq9:=rb hA4;wi hq9<|c1 Q (fun h=>gA (h.a h1)) fun u4 s24=>fun hq9=>match u4,hq9 with | _,rfl=>wi hF<|pR (p:=((⟨x3,List.replicate ((2:Int).toNat) 0,List.replicate ((3:Int).toNat) (⟨false,(⟨0,0,0,0⟩:bK),0,0,(⟨0,0,0,0,0,0,0,0,0,false⟩:Sub),0,0,0,0⟩:bD),x4,[],0⟩:aB))) (s16.1,s16.2.1,s16.2.2.1,s16.2.2.2.1,s16.2.2.2.2.1,s16.2.2.2.2.2.1,s16.2.2.2.2.2.2,s23,s22,s24) [1,2,3,4,5,6,7,9,8,10,0] Q Q) (have hq10:=rb hA4;wi hq10<|c1 Q (fun h=>gA (h.a h1)) fun u5 s25=>fun hq10=>match u5,hq10 with | _,rfl=>have hq11:=rn hA2;xI (0:Int) aW (fun w=>nE Q w) Q Q Q Q Q Q Q hq11 fun hq11 s26=>wi hF<|pR (p:=((⟨x3,List.replicate ((2:Int).toNat) 0,List.replicate ((3:Int).toNat) (⟨false,(⟨0,0,0,0⟩:bK),0,0,(⟨0,0,0,0,0,0,0,0,0,false⟩:Sub),0,0,0,0⟩:bD),x4,[],0⟩:aB))) (s16.1,s16.2.1,s16.2.2.1,s16.2.2.2.1,s16.2.2.2.2.1,s16.2.2.2.2.2.1,s16.2.2.2.2.2.2,s26,s22,s25) [1,2,3,4,5,6,7,10,8,9,0] Q Q)) (have hq12:=rb hA4;wi hq12<|c1 Q (fun h=>gA (h.a h1)) fun u6 s27=>fun hq12=>match u6,hq12 with | _,rfl=>hC Q Q (have hq13:=rn hA2;xI (0:Int) aW (fun w=>nE Q w) Q Q Q Q Q Q Q hq13 fun hq13 s28=>have hq14:=rn hA3;xI ((⟨false,(⟨0,0,0,0⟩:bK),0,0,(⟨0,0,0,0,0,0,0,0,0,false⟩:Sub),0,0,0,0⟩:bD):bD) fX (fun w=>nE (uQ (⟨false,(⟨0,0,0,0⟩:bK),0,0,(⟨0,0,0,0,0,0,0,0,0,false⟩:Sub),0,0,0,0⟩:bD)) w) Q Q Q Q Q Q Q hq14 fun hq14 s29=>wi hF<|pR (p:=((⟨x3,List.replicate ((2:Int).toNat) 0,List.replicate ((3:Int).toNat) (⟨false,(⟨0,0,0,0⟩:bK),0,0,(⟨0,0,0,0,0,0,0,0,0,false⟩:Sub),0,0,0,0⟩:bD),x4,[],0⟩:aB))) (s16.1,s16.2.1,s16.2.2.1,s16.2.2.2.1,s16.2.2.2.2.1,s16.2.2.2.2.2.1,s16.2.2.2.2.2.2,s28,s29,s27) [1,2,3,4,5,6,7,9,10,8,0] Q Q) (have hq15:=rn hA3;xI ((⟨false,(⟨0,0,0,0⟩:bK),0,0,(⟨0,0,0,0,0,0,0,0,0,false⟩:Sub),0,0,0,0⟩:bD):bD) fX (fun w=>nE (uQ (⟨false,(⟨0,0,0,0⟩:bK),0,0,(⟨0,0,0,0,0,0,0,0,0,false⟩:Sub),0,0,0,0⟩:bD)) w) Q Q Q Q Q Q Q hq15 fun hq15 s30=>have hq16:=rn hA2;xI (0:Int) aW (fun w=>nE Q w) Q Q Q Q Q Q Q hq16 fun hq16 s31=>wi hF<|pR (p:=((⟨x3,List.replicate ((2:Int).toNat) 0,List.replicate ((3:Int).toNat) (⟨false,(⟨0,0,0,0⟩:bK),0,0,(⟨0,0,0,0,0,0,0,0,0,false⟩:Sub),0,0,0,0⟩:bD),x4,[],0⟩:aB))) (s16.1,s16.2.1,s16.2.2.1,s16.2.2.2.1,s16.2.2.2.2.1,s16.2.2.2.2.2.1,s16.2.2.2.2.2.2,s31,s30,s27) [1,2,3,4,5,6,7,10,9,8,0] Q Q))) (have hq17:=rn hA2;xI (0:Int) aW (fun w=>nE Q w) Q Q Q Q Q Q Q hq17 fun hq17 s32=>hC Q Q (have hq18:=rb hA1;wi hq18<|c1 Q (fun _=>xF) fun u7 s33=>fun hq18=>match u7,hq18 with | _,rfl=>hC Q Q (have hq19:=rn hA3;xI ((⟨false,(⟨0,0,0,0⟩:bK),0,0,(⟨0,0,0,0,0,0,0,0,0,false⟩:Sub),0,0,0,0⟩:bD):bD) fX (fun w=>nE (uQ (⟨false,(⟨0,0,0,0⟩:bK),0,0,(⟨0,0,0,0,0,0,0,0,0,false⟩:Sub),0,0,0,0⟩:bD)) w) Q Q Q Q Q Q Q hq19 fun hq19 s34=>have hq20:=rb hA4;wi hq20<|c1 Q (fun h=>gA (h.a h1)) fun u8 s35=>fun hq20=>match u8,hq20 with | _,rfl=>wi hF<|pR (p:=((⟨x3,List.replicate ((2:Int).toNat) 0,List.replicate ((3:Int).toNat) (⟨false,(⟨0,0,0,0⟩:bK),0,0,(⟨0,0,0,0,0,0,0,0,0,false⟩:Sub),0,0,0,0⟩:bD),x4,[],0⟩:aB))) (s33.1,s33.2.1,s33.2.2.1,s33.2.2.2.1,s33.2.2.2.2.1,s33.2.2.2.2.2.1,s33.2.2.2.2.2.2,s32,s34,s35) [2,3,4,5,6,7,8,1,9,10,0] Q Q) (have hq21:=rb hA4;wi hq21<|c1 Q (fun h=>gA (h.a h1)) fun u9 s36=>fun hq21=>match u9,hq21 with | _,rfl=>have hq22:=rn hA3;xI ((⟨false,(⟨0,0,0,0⟩:bK),0,0,(⟨0,0,0,0,0,0,0,0,0,false⟩:Sub),0,0,0,0⟩:bD):bD) fX (fun w=>nE (uQ (⟨false,(⟨0,0,0,0⟩:bK),0,0,(⟨0,0,0,0,0,0,0,0,0,false⟩:Sub),0,0,0,0⟩:bD)) w) Q Q Q Q Q Q Q hq22 fun hq22 s37=>wi hF<|pR (p:=((⟨x3,List.replicate ((2:Int).toNat) 0,List.replicate ((3:Int).toNat) (⟨false,(⟨0,0,0,0⟩:bK),0,0,(⟨0,0,0,0,0,0,0,0,0,false⟩:Sub),0,0,0,0⟩:bD),x4,[],0⟩:aB))) (s33.1,s33.2.1,s33.2.2.1,s33.2.2.2.1,s33.2.2.2.2.1,s33.2.2.2.2.2.1,s33.2.2.2.2.2.2,s32,s37,s36) [2,3,4,5,6,7,8,1,10,9,0] Q Q)) (have hq23:=rn hA3;xI ((⟨false,(⟨0,0,0,0⟩:bK),0,0,(⟨0,0,0,0,0,0,0,0,0,false⟩:Sub),0,0,0,0⟩:bD):bD) fX (fun w=>nE (uQ (⟨false,(⟨0,0,0,0⟩:bK),0,0,(⟨0,0,0,0,0,0,0,0,0,false⟩:Sub),0,0,0,0⟩:bD)) w) Q Q Q Q Q Q Q hq23 fun hq23 s38=>have hq24:=rb hA1;wi hq24<|c1 Q (fun _=>xF) fun u10 s39=>fun hq24=>match u10,hq24 with | _,rfl=>have hq25:=rb hA4;wi hq25<|c1 Q (fun h=>gA (h.a h1)) fun u11 s40=>fun hq25=>match u11,hq25 with | _,rfl=>wi hF<|pR (p:=((⟨x3,List.replicate ((2:Int).toNat) 0,List.replicate ((3:Int).toNat) (⟨false,(⟨0,0,0,0⟩:bK),0,0,(⟨0,0,0,0,0,0,0,0,0,false⟩:Sub),0,0,0,0⟩:bD),x4,[],0⟩:aB))) (s39.1,s39.2.1,s39.2.2.1,s39.2.2.2.1,s39.2.2.2.2.1,s39.2.2.2.2.2.1,s39.2.2.2.2.2.2,s32,s38,s40) [3,4,5,6,7,8,9,1,2,10,0] Q Q)) (have hq26:=rn hA3;xI ((⟨false,(⟨0,0,0,0⟩:bK),0,0,(⟨0,0,0,0,0,0,0,0,0,false⟩:Sub),0,0,0,0⟩:bD):bD) fX (fun w=>nE (uQ (⟨false,(⟨0,0,0,0⟩:bK),0,0,(⟨0,0,0,0,0,0,0,0,0,false⟩:Sub),0,0,0,0⟩:bD)) w) Q Q Q Q Q Q Q hq26 fun hq26 s41=>hC Q Q (have hq27:=rb hA1;wi hq27<|c1 Q (fun _=>xF) fun u12 s42=>fun hq27=>match u12,hq27 with | _,rfl=>hC Q Q (have hq28:=rn hA2;xI (0:Int) aW (fun w=>nE Q w) Q Q Q Q Q Q Q hq28 fun hq28 s43=>have hq29:=rb hA4;wi hq29<|c1 Q (fun h=>gA (h.a h1)) fun u13 s44=>fun hq29=>match u13,hq29 with | _,rfl=>wi hF<|pR (p:=((⟨x3,List.replicate ((2:Int).toNat) 0,List.replicate ((3:Int).toNat) (⟨false,(⟨0,0,0,0⟩:bK),0,0,(⟨0,0,0,0,0,0,0,0,0,false⟩:Sub),0,0,0,0⟩:bD),x4,[],0⟩:aB))) (s42.1,s42.2.1,s42.2.2.1,s42.2.2.2.1,s42.2.2.2.2.1,s42.2.2.2.2.2.1,s42.2.2.2.2.2.2,s43,s41,s44) [2,3,4,5,6,7,8,9,1,10,0] Q Q) (have hq30:=rb hA4;wi hq30<|c1 Q (fun h=>gA (h.a h1)) fun u14 s45=>fun hq30=>match u14,hq30 with | _,rfl=>have hq31:=rn hA2;xI (0:Int) aW (fun w=>nE Q w) Q Q Q Q Q Q Q hq31 fun hq31 s46=>wi hF<|pR (p:=((⟨x3,List.replicate ((2:Int).toNat) 0,List.replicate ((3:Int).toNat) (⟨false,(⟨0,0,0,0⟩:bK),0,0,(⟨0,0,0,0,0,0,0,0,0,false⟩:Sub),0,0,0,0⟩:bD),x4,[],0⟩:aB))) (s42.1,s42.2.1,s42.2.2.1,s42.2.2.2.1,s42.2.2.2.2.1,s42.2.2.2.2.2.1,s42.2.2.2.2.2.2,s46,s41,s45) [2,3,4,5,6,7,8,10,1,9,0] Q Q)) (have hq32:=rn hA2;xI (0:Int) aW (fun w=>nE Q w) Q Q Q Q Q Q Q hq32 fun hq32 s47=>have hq33:=rb hA1;wi hq33<|c1 Q (fun _=>xF) fun u15 s48=>fun hq33=>match u15,hq33 with | _,rfl=>have hq34:=rb hA4;wi hq34<|c1 Q (fun h=>gA (h.a h1)) fun u16 s49=>fun hq34=>match u16,hq34 with | _,rfl=>wi hF<|pR (p:=((⟨x3,List.replicate ((2:Int).toNat) 0,List.replicate ((3:Int).toNat) (⟨false,(⟨0,0,0,0⟩:bK),0,0,(⟨0,0,0,0,0,0,0,0,0,false⟩:Sub),0,0,0,0⟩:bD),x4,[],0⟩:aB))) (s48.1,s48.2.1,s48.2.2.1,s48.2.2.2.1,s48.2.2.2.2.1,s48.2.2.2.2.2.1,s48.2.2.2.2.2.2,s47,s41,s49) [3,4,5,6,7,8,9,2,1,10,0] Q Q))) fun x2 ⟨s2,s3,s4,s5,s6,s7,s8,s9,s10,s11⟩=>fun hF=>sR Q<|W5 Ev<|tF (hT:=tok) (s2,s3,s4,s5,s6,s7,s8,s9,s10,s11,⟨none,0⟩) [0,1,2,3,4,5,6,7,8,9,11] hF Q Tryz.results100 Q Q Q Q
theorem aMA{x:zD}{s1 s2:AC}(h1:bL κ s1 x.aZ)(h2:bL κ s2 x.jL):V0 Tryz.prog κ 38 (QU x) [.g [.h s1 x.aZ.length,.h s2 x.jL.length]] .b:=
 dW tok Tryz.call38 Tryz.func38 Tryz.results38 Q Q<|c1 Q (fun h=>aCV (h.a h1)) fun x1 s3=>SG Tryz.underlying49 Q Q Q Q Q Q Q<|dE Q Q
theorem aCW{code:Int}:V0 Tryz.prog κ 40 (N0 code) [I code] .s:=
 dW tok Tryz.call40 Tryz.func40 Tryz.results40 Q Q<|c0 Q (fun _=>dL) fun x1=>b8 [5] Q Q (dE Q Q)<|fun hF=>ltK oG () ([(⟨[111,107]⟩:E2),(⟨[97,114,103,115]⟩:E2),(⟨[115,105,122,101]⟩:E2),(⟨[102,117,108,108]⟩:E2),(⟨[115,116,97,108,101]⟩:E2),(⟨[103,117,97,114,100]⟩:E2),(⟨[115,116,97,108,108]⟩:E2),(⟨[99,108,97,115,104]⟩:E2),(⟨[110,111,110,101]⟩:E2)]:List E2) aT1 Q Q Q Q Q Q Q Q Q Q (fun _=>Q) fun s1=>wi hF<|nQ oG 0 Q Q Q fun x2 h1 _ h2=>fun hF=>iS 0 h2 h1 Q Q Q Q Q<|sR Q<|jR oG 1 [] h1 () Q Q Q Q Q Q Q<|tF (hT:=tok) () [] hF Q Tryz.results40 Q Q Q Q
theorem aOT{s:aB}{s1 s2 s3 s4 s5 s6 s7 s8 s9 s10 s11:AC}(h1:bL κ s1 s.aA.Mem.aE.Bytes)(h2:bL κ s2 s.aA.Mem.aE.Class)(h3:bL κ s3 s.aA.Mem.aD.Global)(h4:bL κ s4 s.aA.Mem.aD.cT)(h5:bL κ s5 s.aA.aC.cK)(h6:bL κ s6 s.aA.aM)(h7:bL κ s7 s.aA.mP)(h8:bL κ s8 s.Cells)(h9:bL κ s9 s.aT)(h10:bL κ s10 s.aZ)(h11:bL κ s11 s.Log):V0 Tryz.prog κ 41 (UZ s) [.g (gS s s1 s2 s3 s4 s5 s6 s7 s8 s9 s10 s11)] .b:=
 dW tok Tryz.call41 Tryz.func41 Tryz.results41 Q Q<|PG 3 [1] [0] Out.brk [1] [0] Q Q (fun hF1 x2 hr1=>b8 [9] Q Q (OG aKV Q h9 Q fun x6 _ _=>b8 [17] Q Q (MT hr1 hF1<|dE Q Q)<|J4 [0] Q)<|FW [0] Q)<|PG 4 [1] [0] Out.brk [] [] Q Q (fun hF2 x4 hr2=>b8 [22] Q Q (OG NA Q h10 Q fun x5 s12 h12=>b8 [32] Q Q (MT hr2 hF2<|dE Q Q)<|J4 [0] Q)<|FW [] Q)<|dE Q Q
theorem Y1{l:List Ev}{kind:Int}{s1:AC}(h1:bL κ s1 l):V0 Tryz.prog κ 42 (LF l kind) [.h s1 l.length,I kind] I:=
 dW tok Tryz.call42 Tryz.func42 Tryz.results42 Q Q<|QX () [1,8,9] (fun(p:Int×Int) (_:Unit)=>[(5,I p.1),(10,I p.2)]) [] [] (fun p _=>[]) id [] (fun(x5:Int) (_:Unit)=>[(5,I x5)]) [] (fun x5 _=>[]) Q Q (fun hF1 ⟨x3,x4⟩ _ hr1=>b8 [11] Q Q (iT 2 0 (G3 x4) [1,8,9,10] (fun(x6:Int) (_:Unit)=>[(5,I x6)]) [] (fun x6 _=>[]) Q (OG cEv Q h1 Q fun x7 _ _=>b8 [17] Q Q (cQ [] Q Q)<|cQ [] Q Q) fun x6 _=>J4 [] Q)<|FW [] Q) fun x5 _=>dE Q Q
theorem aHJ{code:List UInt8}{s1:AC}(h1:bL κ s1 code):V0 Tryz.prog κ 7 (QV code) [.h s1 code.length] .b:=
 dW tok Tryz.call7 Tryz.func7 Tryz.results7 Q Q<|c0 Q (fun h=>KM (h.a h1)) fun x1=>b8 [11] Q Q (dE Q Q)<|c1 Q (fun h=>jN (h.a h1)) fun x2 s2=>c0 Q (fun h=>aMA (h.o 0 Q) (h.o 1 Q)) fun x3=>b8 [16] Q Q (c1 Q (fun h=>FM (h.o 0 Q) (h.o 1 Q)) fun x4 s3=>c1 Q (fun h=>kU (h.o 3 Q) (h.o 4 Q) (h.o 5 Q) (h.o 6 Q) (h.o 7 Q) (h.o 8 Q) (h.o 9 Q) (h.o 10 Q) (h.o 11 Q) (h.o 12 Q) (h.o 13 Q)) fun x5 s4=>SG Tryz.underlying49 Q Q Q Q Q Q Q<|dE Q Q)<|c1 Q (fun h=>FM (h.o 0 Q) (h.o 1 Q)) fun x6 s5=>c1 Q (fun h=>kU (h.o 3 Q) (h.o 4 Q) (h.o 5 Q) (h.o 6 Q) (h.o 7 Q) (h.o 8 Q) (h.o 9 Q) (h.o 10 Q) (h.o 11 Q) (h.o 12 Q) (h.o 13 Q)) fun x7 s6=>c1 Q (fun h=>D9 (h.o 14 Q) (h.o 15 Q) (h.o 16 Q) (h.o 17 Q) (h.o 18 Q) (h.o 19 Q) (h.o 20 Q) (h.o 21 Q) (h.o 22 Q) (h.o 23 Q) (h.o 24 Q)) fun x8 s7=>QX () [3,4,5] (fun(p:Int×Int) (_:Unit)=>[(6,I p.1),(7,I p.2)]) [26,0,1,2,14,15,16,17,18,19,20,21,22,23,24,25] [26,0,1,2,14,15,16,17,18,19,20,21,22,23,24,25] (fun p _=>[]) id [4,5] (fun(p:Int×aB) (_:Unit)=>[(6,I p.1)]) [26] (fun p _=>(zS p.2 s6 [.box 1 (yS p.2 s6)])) Q Q (fun hF1 ⟨x11,x12⟩ _ hr1=>b8 [29] Q Q (nQ dS 1 Q Q Q fun x32 h6 s13 h7=>fun hG1=>iS 2 h7 h6 Q Q Q Q Q<|sF Q<|jR dS 16 [19] h6 s13 Q Q Q Q Q Q Q<|nxR () [0,20,2,3,4,5,6,7,8,9,10,11,12,13,14,15] hG1 Q)<|FW [4,5,6,7,8,9,10,11,12,13,14,15,0] Q) fun⟨x13,x14⟩ _=>fun hF=>WJ (α:=Int) aW Q Q Q Q fun s8=>wi hF<|QX s8 [4,5,6] (fun(p:(List Int)×Int×aB) (s10:AC)=>[(8,.h s10 p.1.length),(9,I p.2.1)]) [13,0,1,2,3,4,5,6,7,8,9,10,11,12] [12] (fun p s10=>([ow s10 (p.1:List Int)]++(zS p.2.2 s6 [.box 1 (yS p.2.2 s6)]))) Out.brk [4,5,6] (fun(x21:aB) (_:Unit)=>[]) [12] (fun x21 _=>(zS x21 s6 [.box 1 (yS x21 s6)])) Q Q (fun hF2 ⟨x18,x19,x20⟩ s10 hr2=>b8 [45] Q Q (iT 0 2 (fun(p:Bool×aB)=>oY x8 x18 x19 p.1 p.2) [4,5,6,8,9] (fun(p:Bool×aB) (_:Unit)=>[(80,.b p.1)]) [13,0] (fun p _=>(zS p.2 s6 [.box 1 (yS p.2 s6)])) Q (nQ GP 13 Q Q Q fun x29 h4 _ h5=>fun hG2=>iS 2 h5 h4 Q Q Q Q Q<|wi hG2<|c0 Q (fun h=>aFL (h.o 0 Q)) fun x30=>eP [54,55] Q Q (fun hG2=>sF Q<|jR GP 14 [] h4 () Q Q Q Q Q Q Q<|kK (p:=(true,x20)) () [1,2,3,4,5,6,7,8,9,10,11,12,17,0] hG2 Q)<|fun hG2=>iS 2 h5 h4 Q Q Q Q Q<|wi hG2<|eP [61,62,63] Q Q (fun hG2=>sF Q<|jR GP 14 [] h4 () Q Q Q Q Q Q Q<|kK (p:=(true,x20)) () [1,2,3,4,5,6,7,8,9,10,11,12,17,0] hG2 Q)<|fun hG2=>iS 2 h5 h4 Q Q Q Q Q<|wi hG2<|eP [70,71,72] Q Q (fun hG2=>sF Q<|jR GP 14 [] h4 () Q Q Q Q Q Q Q<|kK (p:=(true,x20)) () [1,2,3,4,5,6,7,8,9,10,11,12,17,0] hG2 Q)<|fun hG2=>iS 2 h5 h4 Q Q Q Q Q<|wi hG2<|c0 Q (fun _=>aCW) fun x31=>fun hG2=>sF Q<|jR GP 14 [] h4 () Q Q Q Q Q Q Q<|kK (p:=(x31 == ([]),x20)) () [1,2,3,4,5,6,7,8,9,10,11,12,17,0] hG2 Q) fun⟨x26,x27⟩ _=>b8 [80] Q Q (MT hr2 hF2<|dE Q Q)<|nQ GP 12 Q Q Q fun x28 h2 _ h3=>fun hG2=>iS 2 h3 h2 Q Q Q Q Q<|lt1 Q aW Q Q Q Q fun s11=>ap 13 aW Q Q Q Q Q Q Q (fun h=>(h.o 17 Q)) Q Q hG2 fun hG2 s12=>sF Q<|jR GP 14 [] h2 () Q Q Q Q Q Q Q<|nxR s12 [13,0,1,2,3,4,5,6,7,8,9,10,11,18] hG2 Q)<|FW [1,2,3,4,5,6,7,8,9,10,11,12,13] Q) fun x21 _=>d5 0 2 oX [] 2 [] Q (c0 Q (fun h=>aOT (h.o 0 Q) (h.o 1 Q) (h.o 2 Q) (h.o 3 Q) (h.o 4 Q) (h.o 5 Q) (h.o 6 Q) (h.o 7 Q) (h.o 8 Q) (h.o 9 Q) (h.o 10 Q)) fun x23=>eP [90,91] Q Q (eP [95,96,97] Q Q (c0 Q (fun h=>Y1 (h.o 10 Q)) fun x24=>eP [102,103,104] Q Q (c0 Q (fun h=>Y1 (h.o 10 Q)) fun x25=>cQ [] Q Q)<|cQ [] Q Q)<|cQ [] Q Q)<|cQ [] Q Q) fun x22=>dE Q Q
end
end Go.Proofs.YtmaknhppafajdaaGreat
end
noncomputable section
namespace Go.Gv
noncomputable section
variable {b:List UInt8} {i h:Int} (hc:Cu b i)
include hc
end
theorem aYV{x:zD}(hx:K2 x.aZ):QU x=some (decide (ES x.aZ)):=by
  unfold QU
  rw [(CM (t:=x.aZ) (by have:=hx.1;omega) (fun q hq=>by have:=hx.2 q hq;omega)).1,aG]
  by_cases h:ES x.aZ
  · rw [if_pos h,bA h];rfl
  · rw [if_neg h,bP h];rfl
end Go.Gv
end
noncomputable section
set_option maxRecDepth 20000
namespace Go.Gv
theorem aYW{s:aB}(h1:s.aT.length≤maxLen)(h2:s.aZ.length≤maxLen):UZ s=some (decide (mZ s)):=by
  have e1:loop (yT s) 0=some (if ∀j∈s.aT,j.cY=false then Out.brk () else Out.ret false):=
    jO (f := yT s) s.aT (fun k => (k : Int)) (fun j => j.cY = false) (.brk ()) (.ret false)
      (fun k hk hp=>by
        simp only [yT]
        rw [if_pos (by simp;omega),aV hk,i5 (nU hk h1)]
        simp only [aG,hp,aP,if_false])
      (fun k hk hp=>by
        have hp':s.aT[k].cY=true:=by simpa using hp
        simp only [yT]
        rw [if_pos (by simp;omega),aV hk]
        simp only [aG,hp',if_true])
      (by simp [yT])
  have e2:loop (yR s) 0=some (if ∀q∈s.aZ,q.fM=[] then Out.brk () else Out.ret false):=
    jO (f := yR s) s.aZ (fun k => (k : Int)) (fun q => q.fM = []) (.brk ()) (.ret false)
      (fun k hk hp=>by
        simp only [yR]
        rw [if_pos (by simp;omega),aV hk,i5 (nU hk h2)]
        simp [hp])
      (fun k hk hp=>by
        have hp':0 < s.aZ[k].fM.length:=List.length_pos_iff.2 hp
        simp only [yR]
        rw [if_pos (by simp;omega),aV hk]
        simp only [aG]
        rw [if_pos (by simp;omega)])
      (by simp [yR])
  unfold UZ
  rw [e1]
  by_cases a:∀j∈s.aT,j.cY=false
  · rw [if_pos a]
    simp only [aG,Y0,YZ]
    rw [e2]
    by_cases b:∀q∈s.aZ,q.fM=[]
    · rw [if_pos b,bA (p:=mZ s) ⟨a,b⟩];rfl
    · rw [if_neg b,bP (p:=mZ s) (fun h=>b h.2)];rfl
  · rw [if_neg a,bP (p:=mZ s) (fun h=>a h.1)];rfl
end Go.Gv
end
noncomputable section
namespace Go.Gv
theorem aAA{l:List Queue}(h:∀q∈l,q.fM.length≤8):T8 l:=by
  have key:∀v,(dN l v).length≤8:=fun v=>by
    unfold dN
    rw [List.getD_eq_getElem?_getD]
    cases e:l[v.toNat]? with
    | none=>simp
    | some q=>exact h q (List.mem_of_getElem? e)
  exact⟨key 0,key 2⟩
theorem a1S{l:List Queue}(h:T8 l)(q:Queue):T8 (l.set 1 q):=by
  have key:∀v:Int,v=0∨v=2→dN (l.set 1 q) v=dN l v:=fun v hv=>by
    unfold dN
    rw [List.getD_eq_getElem?_getD,List.getElem?_set_ne (by rcases hv with rfl | rfl <;> decide),←List.getD_eq_getElem?_getD]
  exact⟨by rw [key 0 (.inl rfl)];exact h.1,by rw [key 2 (.inr rfl)];exact h.2⟩
noncomputable section
variable {b:List UInt8} {i h:Int} (hc:Cu b i)
include hc
theorem aT2:uV (oP ⟨b,i,h⟩) (fun x=>(K2 x.1∧T8 x.1)∧Cu b x.2.1):=by
  unfold oP
  refine .bind (aDI hc (by omega)) fun x1 ⟨⟨l3,hq⟩,h1⟩=>.bind (below h1 (by omega)) fun x5 ⟨_,h5⟩=>?_
  have hT:K2 x1.1:=⟨by omega,fun q hq'=>by have:=(hq q hq').1;omega⟩
  have h8:∀q∈x1.1,q.fM.length≤7:=fun q hq'=>by have:=(hq q hq').1;omega
  simp only [jD,sS]
  refine .ite (fun _=>?_) fun _=>.ite (fun _=>?_) fun _=>.ite (fun _=>?_) fun _=>.ite (fun _=>?_) fun _=>?_
  · exact .need (by omega) (.ret ⟨⟨⟨by simp;omega,fun q hq'=>hT.2 q (List.mem_of_mem_take (by simpa using hq'))⟩,aAA fun q hq'=>by have:=h8 q (List.mem_of_mem_take (by simpa using hq'));omega⟩,h5⟩)
  · refine .bind (.idx (by omega)) fun x9 h9=>.bind (aNU h5 (by decide) (by decide)) fun x10 ⟨_,h10⟩=>?_
    have:=hT.2 _ h9
    have:=h8 _ h9
    exact .need (by simp;omega) (.ret ⟨⟨UX hT _ (by simp;omega),aAA fun q hq'=>by
      rcases List.mem_or_eq_of_mem_set hq' with k | k
      · have:=h8 q k;omega
      · rw [k];simp;omega⟩,h10⟩)
  · refine .bind (P:=fun x=>(K2 x.1∧T8 x.1)∧Cu b x.2.1) (.loop (fun s=>20 - ((s.1.getD 1 ⟨[]⟩).fM.length)) (fun s=>(s.1.length=3∧(∀q∈s.1,q.fM.length≤13)∧T8 s.1)∧Cu b s.2.1) ⟨⟨l3,fun q hq'=>by have:=h8 q hq';omega,aAA fun q hq'=>by have:=h8 q hq';omega⟩,h5⟩ ?_) ?_
    · rintro⟨l,i1,h1⟩ ⟨⟨l3,hq,t8⟩,hi1⟩
      simp only at l3 hq hi1 t8
      simp only [B5,sT]
      have hx:idx l 1=some l[1]:=aV (k:=1) (by omega)
      have hm:=hq _ (List.getElem_mem (show 1 < l.length by omega))
      rw [hx]
      simp only [aG]
      refine .bind (below hi1 (by omega)) fun x ⟨hx2,hi2⟩=>.ite (fun q=>?_) (fun q=>?_)
      · have q':=of_decide_eq_true q
        rw [aN (by omega) (by omega)] at q'
        refine .need (by simp;omega) (.ret ?_)
        refine⟨⟨⟨by simp [l3],fun x hx=>?_,a1S t8 _⟩,hi2⟩,?_⟩
        · rcases List.mem_or_eq_of_mem_set hx with hx | hx
          · exact hq x hx
          · rw [hx];simp;omega
        · have e1:l.getD 1 ⟨[]⟩=l[1]:=by rw [List.getD_eq_getElem?_getD,List.getElem?_eq_getElem (by omega)];rfl
          have e2:(l.set (1:Int).toNat ⟨l[1].fM ++ [⟨4,0,0,0⟩]⟩).getD 1 ⟨[]⟩=⟨l[1].fM ++ [⟨4,0,0,0⟩]⟩:=by rw [List.getD_eq_getElem?_getD,show(1:Int).toNat=1 from rfl,List.getElem?_set_self (by omega)];rfl
          simp only [e1,e2]
          simp;omega
      · exact .ret ⟨⟨⟨by (try simp only);omega,fun q hq'=>by have:=hq q hq';omega⟩,t8⟩,hi2⟩
    · rintro⟨l,i1,h1⟩ hx
      exact .ret hx
  · refine .bind (.idx (by omega)) fun x9 h9=>?_
    have:=h8 _ h9
    exact .need (by simp;omega) (.ret ⟨⟨UX hT _ (by simp;omega),aAA fun q hq'=>by
      rcases List.mem_or_eq_of_mem_set hq' with k | k
      · have:=h8 q k;omega
      · rw [k];simp;omega⟩,h5⟩)
  · exact .ret ⟨⟨hT,aAA fun q hq'=>by have:=h8 q hq';omega⟩,h5⟩
end
theorem aOU{code:List UInt8}(hl:code.length≤1048576):uV (jE code) (fun x=>(K2 x.aZ∧T8 x.aZ)∧x.jL.length≤5000):=by
  unfold jE
  refine .bind (a6I hl) fun x1 h1=>.bind (aDI h1 (by omega)) fun x2 ⟨⟨l3,hq⟩,h2⟩=>.bind (aXR h2 (by omega)) fun x3 ⟨p,h3⟩=>.bind (below h3 (by omega)) fun x6 ⟨_,h6⟩=>?_
  have hT:K2 x2.1∧T8 x2.1:=⟨⟨by omega,fun q hq'=>by have:=(hq q hq').1;omega⟩,aAA fun q hq'=>by have:=(hq q hq').1;omega⟩
  simp only [iV]
  refine .ite (fun _=>.bind (aT2 h6) fun x7 ⟨h7,_⟩=>.ret ⟨h7,by (try simp only);omega⟩) fun _=>.ite (fun _=>.need (by simp;omega) (.ret ⟨hT,by simp;omega⟩)) fun _=>.ret ⟨hT,by (try simp only);omega⟩
end Go.Gv
end
noncomputable section
namespace Go.Gv
theorem aQY{t:List Queue}(h3:t.length=3){w:Int}(hw:0≤w∧w≤2):idx t w=some ⟨dN t w⟩:=by
  rw [fL hw.1 (by omega)]
  simp [dN,List.getD_eq_getElem?_getD,List.getElem?_eq_getElem (show w.toNat < t.length by omega)]
theorem a62{l:List Int}(hl:l.length≤1000000){x:Int}(h:x∉l):J9 l x=some false:=by
  unfold J9
  have key:loop (CI l x) 0=some (Out.brk ()):=iQ (f:=CI l x) l.length (fun k=>(k:Int)) _ (fun k hk=>by
    have hne:(l[k] == x)=false:=by
      rw [beq_eq_false_iff_ne];intro e;exact h (e ▸ List.getElem_mem hk)
    simp only [CI]
    rw [if_pos (by simp;omega),aV hk,aG,hne,if_neg (by simp),aN (by omega) (by omega)];rfl) (by simp [CI])
  rw [key];rfl
theorem aSO{l:List Ev}(hl:l.length≤1000000)(k:Int):LF l k=some (kN k l:Int):=by
  unfold LF
  have key:loop (A0 l k) (0,0)=some (kN k l:Int):=by
    have:=iQ (f:=A0 l k) l.length (fun i=>((kN k (l.take i):Int),(i:Int))) (kN k l:Int) (fun i hi=>by
      have hle:kN k (l.take i)≤i:=Nat.le_trans (List.countP_le_length) (by rw [List.length_take];omega)
      have e:kN k (l.take (i+1))=kN k (l.take i)+if l[i].Kind == k then 1 else 0:=by
        rw [List.take_succ_eq_append_getElem hi,WZ]
        simp [kN,List.countP_cons]
      simp only [A0,G3]
      rw [if_pos (by simp;omega),aV hi,aG,e]
      rw [aN (x:=(i:Int)+1) (by omega) (by omega),aN (x:=(kN k (l.take i):Int)+1) (by omega) (by omega)]
      cases (l[i].Kind == k) <;> rfl) (by simp [A0])
    simpa [kN] using this
  rw [key];rfl
theorem a4Z{c:Int}(h:gT c):∃r,N0 c=some r∧(r == [])=false:=by
  have hc:c=0∨c=1∨c=2∨c=3∨c=4∨c=5∨c=6∨c=7∨c=8:=by unfold gT at h;omega
  rcases hc with rfl | rfl | rfl | rfl | rfl | rfl | rfl | rfl | rfl <;> exact⟨_,rfl,rfl⟩
theorem aYX(n:Int)(l:List Ev):tN n l=(eF l).countP fun e=>e.aI == n:=by
  unfold tN eF
  rw [List.countP_filter]
  congr 1
  funext e
  exact Bool.and_comm ..
theorem aT3:iP MI=some MI:=by
  have hsm:JM MI:=by simp [JM,NO,sY,MI,dM,dA,bH]
  unfold iP
  rw [GX hsm,aG,YK hsm,aG,bP (fun h=>by have:=h.2.1;simp [MI] at this),if_pos (by simp)]
theorem aOV{code:List UInt8}(_:fit code):QV code=some true:=by
  unfold QV vS
  rw [aG]
  by_cases hcl:1048576 < (code.length:Int)
  · rw [if_pos (by simpa using hcl)]
  rw [if_neg (by simpa using hcl)]
  obtain⟨x,ex,⟨hT,h8⟩,hp⟩:=aOU (code:=code) (by omega)
  rw [ex,aG,aYV hT,aG]
  by_cases ht:ES x.aZ
  · rw [bA ht,if_neg (by simp)]
    have hN:(JN fun v=>(dN x.aZ v).length) < 1000000:=by
      have key:∀v,(dN x.aZ v).length≤12:=fun v=>by
        unfold dN
        rw [List.getD_eq_getElem?_getD]
        cases e:x.aZ[v.toNat]? with
        | none=>simp
        | some q=>exact(ht.2 q (List.mem_of_getElem? e)).1
      have a:=key 0;have b:=key 1;have c:=key 2
      simp only [JN];omega
    have hM:(JN fun v=>(dN x.aZ v).length)=(dN x.aZ 0).length+(dN x.aZ 1).length+(dN x.aZ 2).length:=rfl
    generalize hNe:(JN fun v=>(dN x.aZ v).length)=N at hN hM
    have ser:∀s:aB,(Tl N s∧phi s+s.Log.length≤774)→s.aI≠1000000:=fun s h=>by have:=h.1.tot;omega
    have step:∀(s:aB) (w:Int),mY s→(0≤w∧w≤2)→(Tl N s∧phi s+s.Log.length≤774)→mY (iO s w)∧Tl N (iO s w)∧phi (iO s w)+(iO s w).Log.length≤774:=fun s w hs hw h=>by
      obtain⟨_,o1,o2⟩:=K1 hs (by have:=h.2;omega) hw
      refine⟨o1,aSF hs hw hN h.1,?_⟩
      by_cases q:ML s w
      · rw [aX9 hs hw q];exact h.2
      · have:=aGG hs hw (ser s h) q;have:=h.2;omega
    obtain⟨s,es,hs,hE,hl⟩:=a2P hT hp (fun s=>Tl N s∧phi s+s.Log.length≤774) (fun t h e=>by rw [e];exact⟨hNe ▸ tl0 ht,by have:=a6Q ht h8;have:(dD x.aZ).Log.length=0:=rfl;omega⟩) (fun s w a b c=>(step s w a b c).2) ht
    obtain⟨e,f1,f2⟩:=MK hs (by omega)
    obtain⟨gi,gE,_⟩:=YN (fun s=>Tl N s∧phi s+s.Log.length≤774) step ser 3000 0 s hs hE (by
      have:wait s 0≤2:=by unfold wait;split;split <;> omega;omega
      have:=hE.2
      omega)
    rw [es,aG,e,aG]
    have gi':mZ (yK s):=gi
    have gE':Tl N (yK s):=gE
    generalize yK s=z at f1 f2 gi' gE'
    rw [T3 (by omega),aG]
    have t3:=ht.1
    have i0:=aQY t3 (w:=0) (by omega)
    have i1:=aQY t3 (w:=1) (by omega)
    have i2:=aQY t3 (w:=2) (by omega)
    have lp:loop (oZ x z) (0,0)=some ((N:Int),z):=by
      rw [bV (s':=(((dN x.aZ 0).length:Int),1)) (by
        simp only [oZ]
        rw [if_pos (by simp),i0,aG]
        simp only
        rw [aN (by omega) (by omega),aN (by omega) (by omega)];simp)]
      rw [bV (s':=(((dN x.aZ 0).length+(dN x.aZ 1).length:Int),2)) (by
        simp only [oZ]
        rw [if_pos (by simp),i1,aG]
        simp only
        rw [aN (by omega) (by omega),aN (by omega) (by omega)];simp)]
      rw [bV (s':=(((dN x.aZ 0).length+(dN x.aZ 1).length+(dN x.aZ 2).length:Int),3)) (by
        simp only [oZ]
        rw [if_pos (by simp),i2,aG]
        simp only
        rw [aN (by omega) (by omega),aN (by omega) (by omega)];simp)]
      refine bU ?_
      simp only [oZ]
      rw [if_neg (by simp),hM];simp
    rw [lp,aG]
    simp only [RU,RT]
    have jz:∀v,0≤v∧v≤2→(aK z v).cY=false:=fun v hv=>gi'.1 _ (aJZ f1 hv)
    have qz:∀v,0≤v∧v≤2→(dN z.aZ v).length=0:=fun v hv=>by
      have tz:=f1.2.2.2.1.1
      have:=gi'.2 ⟨dN z.aZ v⟩ (List.mem_of_getElem? (i:=v.toNat) (by
        unfold dN
        rw [List.getD_eq_getElem?_getD,List.getElem?_eq_getElem (show v.toNat < z.aZ.length by omega)];rfl))
      simpa using this
    have zero:JN (fun _=>0)=0:=rfl
    have sz:z.aI=N:=by
      have a:=gE'.tot
      rw [xE (g:=fun v=>(dN z.aZ v).length) (f:=fun _=>0) fun v hv=>qz v hv,zero] at a
      omega
    have lz:(kN 4 z.Log:Int)=N:=by
      have a:=gE'.aNZ
      rw [xE (g:=fun v=>bJ (aK z v)) (f:=fun _=>0) fun v hv=>by simp [bJ,jz v hv],zero] at a
      omega
    have oz:∀n,tN n z.Log=one n N:=fun n=>by
      have a:=gE'.each n
      rw [xE (g:=fun v=>bN n (aK z v)) (f:=fun _=>0) fun v hv=>by simp [bN,jz v hv],zero,sz] at a
      omega
    have lt:((eF z.Log).length:Int)=N:=by
      rw [←lz];unfold kN eF;rw [List.countP_eq_length_filter]
    have hk4:∀e∈eF z.Log,e∈z.Log∧e.Kind=4:=fun e he=>by
      have:=List.mem_filter.1 he
      exact⟨this.1,by simpa using this.2⟩
    generalize hTS:eF z.Log=ts at lt hk4
    have lp2:loop (uB ts N) (([]:List Int),0,z)=some (Out.brk z):=by
      have:=iQ (f:=uB ts N) ts.length (fun k=>((ts.take k).map Ev.aI,(k:Int),z)) (Out.brk z) (fun k hk=>by
        have hmem:=hk4 _ (List.getElem_mem hk)
        have o1:=oz ts[k].aI
        rw [aYX,hTS] at o1
        have hsplit:ts=ts.take k++ts[k] :: ts.drop (k+1):=by rw [←List.drop_eq_getElem_cons hk,List.take_append_drop]
        have hcount:=congrArg (List.countP fun e=>e.aI == ts[k].aI) hsplit
        rw [List.countP_append,List.countP_cons,beq_self_eq_true,if_pos rfl] at hcount
        have hr:1≤ts[k].aI∧ts[k].aI≤(N:Int):=by
          by_cases q:1≤ts[k].aI∧ts[k].aI≤(N:Int)
          · exact q
          · unfold one at o1;rw [if_neg q] at o1;omega
        have hz:(ts.take k).countP (fun e=>e.aI == ts[k].aI)=0:=by
          unfold one at o1;rw [if_pos hr] at o1;omega
        have hn:ts[k].aI∉(ts.take k).map Ev.aI:=fun hm=>by
          obtain⟨e,he,ee⟩:=List.mem_map.1 hm
          exact(List.countP_eq_zero.1 hz) e he (by simpa using ee)
        obtain⟨r,r1,r2⟩:=a4Z (gE'.YP.1 _ hmem.1 hmem.2)
        simp only [uB]
        rw [if_pos (by simp;omega),aV hk,aG,a62 (by simp;omega) hn,aG,if_neg (by simp),if_neg (by simp;omega),if_neg (by simp;omega),r1,aG,r2]
        simp only [oY]
        rw [if_neg (by simp),aV hk,aG,aQ (by simp;omega),aN (by omega) (by omega),List.take_succ_eq_append_getElem hk,List.map_append];rfl) (by simp [uB])
      simpa using this
    rw [lp2,aG]
    simp only [RS,RR,oX]
    have hj:z.aT.length=3:=f1.2.2.1
    rw [aYW f1.lens.1 f1.lens.2,bA gi',aG,if_pos rfl,if_pos (by simpa using lt),aSO (by omega),aG,gE'.calls,sz,if_pos (by simp),aSO (by omega),aG,lz]
    simp
  · rw [bP ht,iF,if_pos rfl]
    have e1:lD x=some MI:=by
      unfold lD
      rw [(CM (t:=x.aZ) (by have:=hT.1;omega) (fun q hq=>by have:=hT.2 q hq;omega)).2,aG,if_neg ht]
      rfl
    rw [e1,aG,aT3];rfl
end Go.Gv
end
