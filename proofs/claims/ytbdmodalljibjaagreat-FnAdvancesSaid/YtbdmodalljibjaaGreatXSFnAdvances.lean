import Derived.Test.YtbdmodalljibjaaGreatXLF
set_option linter.unusedVariables false
set_option linter.unusedSimpArgs false
set_option linter.unusedSectionVars false
set_option linter.constructorNameAsVariable false
set_option linter.unnecessarySimpa false
noncomputable section
set_option linter.unusedVariables false
namespace Go.Gv
noncomputable section
def XO(x5:List Int):Option (List Int):=
  some x5
def xV(x4:Int)(x7:List Int):Option (Step ((List Int)×Int) (List Int)):=
  some (.next (x7,aX (x4+1)))
def rD(x3:List Int)(x4:Int)(x8:Bool):Option (Step ((List Int)×Int) (List Int)):=
  (if x8 then need (x3.length+([x4]).length≤1073741824) (xV x4 (x3++([x4]))) else xV x4 x3)
def rE(c:aC)(x3:List Int)(x4:Int)(x6:Bool):Option (Step ((List Int)×Int) (List Int)):=
  (if x6 then (idx c.aN x4).bind fun x9=>(if x9.On then (idx c.aN x4).bind fun x10=>(if !x10.d5 then (idx c.aN x4).bind fun x11=>rD x3 x4 (decide (x11.aE < c.aE)) else rD x3 x4 false) else rD x3 x4 false) else some (.stop (x3)))
def rF(c:aC):((List Int)×Int)→Option (Step ((List Int)×Int) (List Int))
  | (x3,x4)=>(if decide (x4 < 3) then (jE c).bind fun x12=>rE c x3 x4 x12 else rE c x3 x4 false)
def XP:(List Int)→Option (List Int)
  | x5=>XO x5
def AW(c:aC):Option (List Int):=
  (loop (rF c) (([]:List Int),0)).bind (XP)
def Q9(is:Bool):Option Int:=
  (if is then some 1 else some 0)
def RB(x6:Int):Option Int:=
  some x6
def nF(c:aC):(Int×Int)→Option (Step (Int×Int) Int)
  | (x4,x5)=>(if decide (x5 < (c.aN.length:Int)) then (idx c.aN x5).bind fun x7=>(kD x7).bind fun x8=>(Q9 x8).bind fun x9=>some (.next (aX (x4+x9),aX (x5+1))) else some (.stop (x4)))
def RC:Int→Option Int
  | x6=>RB x6
def z8(c:aC):Option Int:=
  (hQ c).bind fun x1=>(if !x1 then some 0 else (loop (nF c) (0,0)).bind (RC))
def oA(x12:Bool):Option Bool:=
  some x12
def g8(x5:Sub)(x10:Bool)(x11:aI):Option Bool:=
  (if x10 then some false else (if x5.Out == 0 then oA true else (AW x11.aC).bind fun x13=>(z8 x11.aC).bind fun x14=>oA ((x13.length:Int) == x14)))
def fP(x5:Sub)(x7:Bool)(x8 x9:aI):Option Bool:=
  (if x7 then some false else (AW x8.aC).bind fun x15=>(if (x15.length:Int) == 0 then (if decide (x8.aC.aE < 100000) then g8 x5 (x5.Out != 1) x9 else g8 x5 false x9) else g8 x5 false x9))
def vH(x3 x4:aI)(x5:Sub):Option Bool:=
  (iF x3).bind fun x6=>(if !x6 then some (!x5.cQ) else (if !x5.cQ then fP x5 true x3 x4 else (iF x4).bind fun x16=>(if !x16 then fP x5 true x3 x4 else (if x4.aC.aE != (aX (x3.aC.aE+x5.Out)) then fP x5 true x3 x4 else (if decide (x5.Out < 0) then fP x5 true x3 x4 else fP x5 (decide (1 < x5.Out)) x3 x4)))))
def BM(code:List UInt8):Option Bool:=
  (w7 code).bind fun x1=>(if x1 then some true else (qZ code).bind fun x2=>(lN 3 0).bind fun x17=>(vW x2 0 x17).bind fun x18=>vH x2 x18.1 x18.2)
end
end Go.Gv
end
noncomputable section
set_option linter.unusedVariables false
set_option maxHeartbeats 4000000
set_option maxRecDepth 100000
namespace Go.Proofs.YtbdmodalljibjaaGreat
open Go.Gv
noncomputable section
variable {κ:Ctx}
theorem NM{c:aC}{s1:AC}(h1:bE κ s1 c.aN):VS Tryz.prog κ 44 (AW c) [.g [I c.aE,.h s1 c.aN.length]] [] [] (fun r (y:AC)=>.h y r.length) (fun r y=>[ow y r]):=
 cE tok Tryz.call44 Tryz.func44 Tryz.results44 Q Q<|fun hF=>RV (α:=Int) aS Q Q Q Q fun s2=>wi hF<|LX s2 [1] (fun(p:(List Int)×Int) (s4:AC)=>[(3,.h s4 p.1.length),(4,I p.2)]) [1,0] [0] (fun p s4=>[ow s4 (p.1:List Int)]) id [] (fun(x5:(List Int)) (s5:AC)=>[(3,.h s5 x5.length)]) [] (fun x5 s5=>[ow s5 (x5:List Int)]) Q Q (fun hF1 ⟨x3,x4⟩ s4 hr1=>cW 0 1 (rE c x3 x4) [1,3,4] 11 [0,1] Q (dR [7,8] Q Q (c0 Q (fun h=>m5 (h.a h1)) fun x12=>bU [0,1] Q Q)<|bU [0,1] Q Q) fun x6=>bD [11] Q Q (dL 2 1 (xV x4) [1,4] (fun(x7:(List Int)) (s6:AC)=>[(3,.h s6 x7.length)]) [1] (fun x7 s6=>[ow s6 (x7:List Int)]) Q (cW 0 1 (rD x3 x4) [1,3,4] 39 [0,1] Q (eM aG [1] Q<|E8 NX Q h1 Q fun x9 _ _=>dR [19,20] Q Q (E8 NX Q h1 Q fun x10 _ _=>dR [27,28,29] Q Q (E8 NX Q h1 Q fun x11 _ _=>bU [0,1] Q Q)<|bU [0,1] Q Q)<|bU [0,1] Q Q) fun x8=>bD [39] Q Q (fun hG1=>ZU Q aS Q Q Q Q fun s7=>ap 0 aS Q Q Q Q Q Q Q (fun h=>(h.o 2 Q)) Q Q hG1 fun hG1 s8=>wi hG1<|e7 s8 [0,1] Q Q)<|e7 s4 [0,1] Q Q) fun x7 s6=>RK s6 [0,1] Q)<|T8 s4 [0] Q) fun x5 s5=>eA s5 [0] Q Q
theorem aEA{is:Bool}:V0 Tryz.prog κ 137 (Q9 is) [.b is] I:=
 cE tok Tryz.call137 Tryz.func137 Tryz.results137 Q Q<|bD [0,3] Q Q (cB Q Q)<|cB Q Q
theorem TM{c:aC}{s1:AC}(h1:bE κ s1 c.aN):V0 Tryz.prog κ 45 (z8 c) [.g [I c.aE,.h s1 c.aN.length]] I:=
 cE tok Tryz.call45 Tryz.func45 Tryz.results45 Q Q<|c0 Q (fun h=>m8 (h.a h1)) fun x1=>bD [8] Q Q (cB Q Q)<|LX () [11,12] (fun(p:Int×Int) (_:Unit)=>[(3,I p.1),(13,I p.2)]) [] [] (fun p _=>[]) id [] (fun(x6:Int) (_:Unit)=>[(3,I x6)]) [] (fun x6 _=>[]) Q Q (fun hF1 ⟨x4,x5⟩ _ hr1=>bD [14] Q Q (E8 NX Q h1 Q fun x7 _ _=>c0 Q (fun _=>AR) fun x8=>c0 Q (fun _=>aEA) fun x9=>C1 [] Q)<|C3 [] Q) fun x6 _=>cB Q Q
theorem P1{code:List UInt8}{s1:AC}(h1:bE κ s1 code):V0 Tryz.prog κ 7 (BM code) [.h s1 code.length] .b:=
 cE tok Tryz.call7 Tryz.func7 Tryz.results7 Q Q<|c0 Q (fun h=>HV (h.a h1)) fun x1=>bD [7] Q Q (cB Q Q)<|c1 Q (fun h=>GU (h.a h1)) fun x2 s2=>dL 0 3 (fun(p:aI×aI×Sub)=>vH p.1 p.2.1 p.2.2) [3] (fun(p:aI×aI×Sub) (u:AC×AC×AC×AC×AC×AC×AC)=>[(4,.p 1 0),(5,.p 2 0)]) [] (fun p u=>[ow s2.1 (p.1.Mem.aB.Bytes:List Int),ow s2.2.1 (p.1.Mem.aB.Class:List Int),ow s2.2.2.1 (p.1.Mem.aA.Global:List aD),ow s2.2.2.2.1 (p.1.Mem.aA.aR:List aD),ow s2.2.2.2.2.1 (p.1.aC.aN:List dS),ow s2.2.2.2.2.2.1 (p.1.aJ:List aK),ow s2.2.2.2.2.2.2 (p.1.cA:List Int),.box 0 [.h s2.1 p.1.Mem.aB.Bytes.length,.h s2.2.1 p.1.Mem.aB.Class.length,.h s2.2.2.1 p.1.Mem.aA.Global.length,.h s2.2.2.2.1 p.1.Mem.aA.aR.length,I p.1.aC.aE,.h s2.2.2.2.2.1 p.1.aC.aN.length,.h s2.2.2.2.2.2.1 p.1.aJ.length,.h s2.2.2.2.2.2.2 p.1.cA.length],ow u.1 (p.2.1.Mem.aB.Bytes:List Int),ow u.2.1 (p.2.1.Mem.aB.Class:List Int),ow u.2.2.1 (p.2.1.Mem.aA.Global:List aD),ow u.2.2.2.1 (p.2.1.Mem.aA.aR:List aD),ow u.2.2.2.2.1 (p.2.1.aC.aN:List dS),ow u.2.2.2.2.2.1 (p.2.1.aJ:List aK),ow u.2.2.2.2.2.2 (p.2.1.cA:List Int),.box 1 [.h u.1 p.2.1.Mem.aB.Bytes.length,.h u.2.1 p.2.1.Mem.aB.Class.length,.h u.2.2.1 p.2.1.Mem.aA.Global.length,.h u.2.2.2.1 p.2.1.Mem.aA.aR.length,I p.2.1.aC.aE,.h u.2.2.2.2.1 p.2.1.aC.aN.length,.h u.2.2.2.2.2.1 p.2.1.aJ.length,.h u.2.2.2.2.2.2 p.2.1.cA.length],.box 2 [I p.2.2.Kind,I p.2.2.A,I p.2.2.Pc,I p.2.2.E,I p.2.2.Row,I p.2.2.B,I p.2.2.H,I p.2.2.Out,I p.2.2.Code,.b p.2.2.cQ]]) Q (eM aG [7] Q<|fun hF=>bd hF fun x17 hA1 hF=>bd hF fun x18 hA2 hF=>X0 Q Q (have hq1:=rb hA1;wi hq1<|c0 Q (fun _=>dK) fun u1=>fun hq1=>match u1,hq1 with | _,rfl=>X0 Q Q (have hq2:=rb hA2;wi hq2<|c1 Q (fun h=>bC (h.o 0 Q) (h.o 1 Q) (h.o 2 Q) (h.o 3 Q) (h.o 4 Q) (h.o 5 Q) (h.o 6 Q)) fun u2 s13=>fun hq2=>match u2,hq2 with | _,rfl=>cT Q Q (wi hF<|e7 (p:=(x2,x18.1,x18.2)) (s13.1,s13.2.1,s13.2.2.1,s13.2.2.2.1,s13.2.2.2.2.1,s13.2.2.2.2.2.1,s13.2.2.2.2.2.2) [0,1,2,3,4,5,6,7,8,9,10,11,12,13,14,15,16] Q Q) (sF Q<|N8 2 1 Q<|fD Q Q<|gP (p:=(x2,x18.1,x18.2)) (s13.1,s13.2.1,s13.2.2.1,s13.2.2.2.1,s13.2.2.2.2.1,s13.2.2.2.2.2.1,s13.2.2.2.2.2.2) [0,1,2,3,4,5,6,7,8,9,10,11,12,13,14,16,15] hF Q)) (cT Q Q (have hq3:=rb hA2;wi hq3<|c1 Q (fun h=>bC (h.o 0 Q) (h.o 1 Q) (h.o 2 Q) (h.o 3 Q) (h.o 4 Q) (h.o 5 Q) (h.o 6 Q)) fun u3 s14=>fun hq3=>match u3,hq3 with | _,rfl=>wi hF<|e7 (p:=(x2,x18.1,x18.2)) (s14.1,s14.2.1,s14.2.2.1,s14.2.2.2.1,s14.2.2.2.2.1,s14.2.2.2.2.2.1,s14.2.2.2.2.2.2) [0,1,2,3,4,5,6,7,9,10,11,12,13,14,15,8,16] Q Q) (have hq4:=rb hA2;wi hq4<|c1 Q (fun h=>bC (h.o 0 Q) (h.o 1 Q) (h.o 2 Q) (h.o 3 Q) (h.o 4 Q) (h.o 5 Q) (h.o 6 Q)) fun u4 s15=>fun hq4=>match u4,hq4 with | _,rfl=>wi hF<|e7 (p:=(x2,x18.1,x18.2)) (s15.1,s15.2.1,s15.2.2.1,s15.2.2.2.1,s15.2.2.2.2.1,s15.2.2.2.2.2.1,s15.2.2.2.2.2.2) [0,1,2,3,4,5,6,7,10,11,12,13,14,15,16,8,9] Q Q)) (cT Q Q (have hq5:=rb hA2;wi hq5<|c1 Q (fun h=>bC (h.o 0 Q) (h.o 1 Q) (h.o 2 Q) (h.o 3 Q) (h.o 4 Q) (h.o 5 Q) (h.o 6 Q)) fun u5 s16=>fun hq5=>match u5,hq5 with | _,rfl=>sF Q<|N8 2 1 Q<|fD Q Q<|gP (p:=(x2,x18.1,x18.2)) (s16.1,s16.2.1,s16.2.2.1,s16.2.2.2.1,s16.2.2.2.2.1,s16.2.2.2.2.2.1,s16.2.2.2.2.2.2) [0,1,2,3,4,5,6,7,9,10,11,12,13,14,15,16,8] hF Q) (have hq6:=rb hA2;wi hq6<|c1 Q (fun h=>bC (h.o 0 Q) (h.o 1 Q) (h.o 2 Q) (h.o 3 Q) (h.o 4 Q) (h.o 5 Q) (h.o 6 Q)) fun u6 s17=>fun hq6=>match u6,hq6 with | _,rfl=>sF Q<|N8 2 1 Q<|fD Q Q<|gP (p:=(x2,x18.1,x18.2)) (s17.1,s17.2.1,s17.2.2.1,s17.2.2.2.1,s17.2.2.2.2.1,s17.2.2.2.2.2.1,s17.2.2.2.2.2.2) [0,1,2,3,4,5,6,7,10,11,12,13,14,15,16,9,8] hF Q))) (cT Q Q (have hq7:=rb hA1;wi hq7<|c0 Q (fun _=>dK) fun u7=>fun hq7=>match u7,hq7 with | _,rfl=>cT Q Q (have hq8:=rb hA2;wi hq8<|c1 Q (fun h=>bC (h.o 0 Q) (h.o 1 Q) (h.o 2 Q) (h.o 3 Q) (h.o 4 Q) (h.o 5 Q) (h.o 6 Q)) fun u8 s18=>fun hq8=>match u8,hq8 with | _,rfl=>wi hF<|e7 (p:=(x2,x18.1,x18.2)) (s18.1,s18.2.1,s18.2.2.1,s18.2.2.2.1,s18.2.2.2.2.1,s18.2.2.2.2.2.1,s18.2.2.2.2.2.2) [0,1,2,3,4,5,6,7,9,10,11,12,13,14,15,8,16] Q Q) (have hq9:=rb hA2;wi hq9<|c1 Q (fun h=>bC (h.o 0 Q) (h.o 1 Q) (h.o 2 Q) (h.o 3 Q) (h.o 4 Q) (h.o 5 Q) (h.o 6 Q)) fun u9 s19=>fun hq9=>match u9,hq9 with | _,rfl=>wi hF<|e7 (p:=(x2,x18.1,x18.2)) (s19.1,s19.2.1,s19.2.2.1,s19.2.2.2.1,s19.2.2.2.2.1,s19.2.2.2.2.2.1,s19.2.2.2.2.2.2) [0,1,2,3,4,5,6,7,10,11,12,13,14,15,16,8,9] Q Q)) (have hq10:=rb hA1;wi hq10<|c0 Q (fun _=>dK) fun u10=>fun hq10=>match u10,hq10 with | _,rfl=>have hq11:=rb hA2;wi hq11<|c1 Q (fun h=>bC (h.o 0 Q) (h.o 1 Q) (h.o 2 Q) (h.o 3 Q) (h.o 4 Q) (h.o 5 Q) (h.o 6 Q)) fun u11 s20=>fun hq11=>match u11,hq11 with | _,rfl=>wi hF<|e7 (p:=(x2,x18.1,x18.2)) (s20.1,s20.2.1,s20.2.2.1,s20.2.2.2.1,s20.2.2.2.2.1,s20.2.2.2.2.2.1,s20.2.2.2.2.2.2) [0,1,2,3,4,5,6,7,10,11,12,13,14,15,16,8,9] Q Q)) (cT Q Q (have hq12:=rb hA1;wi hq12<|c0 Q (fun _=>dK) fun u12=>fun hq12=>match u12,hq12 with | _,rfl=>cT Q Q (have hq13:=rb hA2;wi hq13<|c1 Q (fun h=>bC (h.o 0 Q) (h.o 1 Q) (h.o 2 Q) (h.o 3 Q) (h.o 4 Q) (h.o 5 Q) (h.o 6 Q)) fun u13 s21=>fun hq13=>match u13,hq13 with | _,rfl=>sF Q<|N8 2 1 Q<|fD Q Q<|gP (p:=(x2,x18.1,x18.2)) (s21.1,s21.2.1,s21.2.2.1,s21.2.2.2.1,s21.2.2.2.2.1,s21.2.2.2.2.2.1,s21.2.2.2.2.2.2) [0,1,2,3,4,5,6,7,9,10,11,12,13,14,15,16,8] hF Q) (have hq14:=rb hA2;wi hq14<|c1 Q (fun h=>bC (h.o 0 Q) (h.o 1 Q) (h.o 2 Q) (h.o 3 Q) (h.o 4 Q) (h.o 5 Q) (h.o 6 Q)) fun u14 s22=>fun hq14=>match u14,hq14 with | _,rfl=>sF Q<|N8 2 1 Q<|fD Q Q<|gP (p:=(x2,x18.1,x18.2)) (s22.1,s22.2.1,s22.2.2.1,s22.2.2.2.1,s22.2.2.2.2.1,s22.2.2.2.2.2.1,s22.2.2.2.2.2.2) [0,1,2,3,4,5,6,7,10,11,12,13,14,15,16,9,8] hF Q)) (have hq15:=rb hA1;wi hq15<|c0 Q (fun _=>dK) fun u15=>fun hq15=>match u15,hq15 with | _,rfl=>have hq16:=rb hA2;wi hq16<|c1 Q (fun h=>bC (h.o 0 Q) (h.o 1 Q) (h.o 2 Q) (h.o 3 Q) (h.o 4 Q) (h.o 5 Q) (h.o 6 Q)) fun u16 s23=>fun hq16=>match u16,hq16 with | _,rfl=>sF Q<|N8 2 1 Q<|fD Q Q<|gP (p:=(x2,x18.1,x18.2)) (s23.1,s23.2.1,s23.2.2.1,s23.2.2.2.1,s23.2.2.2.2.1,s23.2.2.2.2.2.1,s23.2.2.2.2.2.2) [0,1,2,3,4,5,6,7,10,11,12,13,14,15,16,9,8] hF Q))) fun⟨x3,x4,x5⟩ ⟨s3,s4,s5,s6,s7,s8,s9⟩=>c0 Q (fun h=>jR (h.o 0 Q) (h.o 1 Q) (h.o 2 Q) (h.o 3 Q) (h.o 4 Q) (h.o 5 Q) (h.o 6 Q)) fun x6=>bD [18] Q Q (cB Q Q)<|dL 0 3 (fun(p:Bool×aI×aI)=>fP x5 p.1 p.2.1 p.2.2) [3,4,5] (fun(p:Bool×aI×aI) (_:Unit)=>[(51,.b p.1)]) [16] (fun p _=>[ow s2.1 (p.2.1.Mem.aB.Bytes:List Int),ow s2.2.1 (p.2.1.Mem.aB.Class:List Int),ow s2.2.2.1 (p.2.1.Mem.aA.Global:List aD),ow s2.2.2.2.1 (p.2.1.Mem.aA.aR:List aD),ow s2.2.2.2.2.1 (p.2.1.aC.aN:List dS),ow s2.2.2.2.2.2.1 (p.2.1.aJ:List aK),ow s2.2.2.2.2.2.2 (p.2.1.cA:List Int),.box 0 [.h s2.1 p.2.1.Mem.aB.Bytes.length,.h s2.2.1 p.2.1.Mem.aB.Class.length,.h s2.2.2.1 p.2.1.Mem.aA.Global.length,.h s2.2.2.2.1 p.2.1.Mem.aA.aR.length,I p.2.1.aC.aE,.h s2.2.2.2.2.1 p.2.1.aC.aN.length,.h s2.2.2.2.2.2.1 p.2.1.aJ.length,.h s2.2.2.2.2.2.2 p.2.1.cA.length],ow s3 (p.2.2.Mem.aB.Bytes:List Int),ow s4 (p.2.2.Mem.aB.Class:List Int),ow s5 (p.2.2.Mem.aA.Global:List aD),ow s6 (p.2.2.Mem.aA.aR:List aD),ow s7 (p.2.2.aC.aN:List dS),ow s8 (p.2.2.aJ:List aK),ow s9 (p.2.2.cA:List Int),.box 1 [.h s3 p.2.2.Mem.aB.Bytes.length,.h s4 p.2.2.Mem.aB.Class.length,.h s5 p.2.2.Mem.aA.Global.length,.h s6 p.2.2.Mem.aA.aR.length,I p.2.2.aC.aE,.h s7 p.2.2.aC.aN.length,.h s8 p.2.2.aJ.length,.h s9 p.2.2.cA.length]]) Q (dR [24,25] Q Q (bU (p:=(true,x3,x4)) [0,1,2,3,4,5,6,7,8,9,10,11,12,13,14,15,16] Q Q)<|c0 Q (fun h=>jR (h.o 8 Q) (h.o 9 Q) (h.o 10 Q) (h.o 11 Q) (h.o 12 Q) (h.o 13 Q) (h.o 14 Q)) fun x16=>dR [28,29,30] Q Q (bU (p:=(true,x3,x4)) [0,1,2,3,4,5,6,7,8,9,10,11,12,13,14,15,16] Q Q)<|dR [40,41,42] Q Q (bU (p:=(true,x3,x4)) [0,1,2,3,4,5,6,7,8,9,10,11,12,13,14,15,16] Q Q)<|dR [45,46,47] Q Q (bU (p:=(true,x3,x4)) [0,1,2,3,4,5,6,7,8,9,10,11,12,13,14,15,16] Q Q)<|bU (p:=(decide (1 < x5.Out),x3,x4)) [0,1,2,3,4,5,6,7,8,9,10,11,12,13,14,15,16] Q Q) fun⟨x7,x8,x9⟩ _=>bD [51] Q Q (cB Q Q)<|dL 0 3 (fun(p:Bool×aI)=>g8 x5 p.1 p.2) [4,5] (fun(p:Bool×aI) (_:Unit)=>[(67,.b p.1)]) [16] (fun p _=>[ow s3 (p.2.Mem.aB.Bytes:List Int),ow s4 (p.2.Mem.aB.Class:List Int),ow s5 (p.2.Mem.aA.Global:List aD),ow s6 (p.2.Mem.aA.aR:List aD),ow s7 (p.2.aC.aN:List dS),ow s8 (p.2.aJ:List aK),ow s9 (p.2.cA:List Int),.box 1 [.h s3 p.2.Mem.aB.Bytes.length,.h s4 p.2.Mem.aB.Class.length,.h s5 p.2.Mem.aA.Global.length,.h s6 p.2.Mem.aA.aR.length,I p.2.aC.aE,.h s7 p.2.aC.aN.length,.h s8 p.2.aJ.length,.h s9 p.2.cA.length]]) Q (c1 Q (fun h=>NM (h.o 4 Q)) fun x15 s11=>dR [56,57] Q Q (dR [61,62,63] Q Q (bU (p:=(x5.Out != 1,x9)) [8,9,10,11,12,13,14,15,16] Q Q)<|bU (p:=(false,x9)) [8,9,10,11,12,13,14,15,16] Q Q)<|bU (p:=(false,x9)) [8,9,10,11,12,13,14,15,16] Q Q) fun⟨x10,x11⟩ _=>bD [67] Q Q (cB Q Q)<|cW 0 3 oA [] 2 [] Q (eM aG [7,8] Q<|dR [70,71] Q Q (bU [] Q Q)<|c1 Q (fun h=>NM (h.o 4 Q)) fun x13 s10=>c0 Q (fun h=>TM (h.o 4 Q)) fun x14=>bU [] Q Q) fun x12=>cB Q Q
end
end Go.Proofs.YtbdmodalljibjaaGreat
end
noncomputable section
set_option linter.unusedVariables false
set_option linter.unusedSimpArgs false
set_option linter.unusedSectionVars false
namespace Go.Gv
theorem aOM{c:aC}(hc:AX c){q:Int}(hq:0≤q∧q≤2)(e:Int):AX (sL c q e).1∧(sL c q e).1.aE=c.aE:=by
  obtain⟨r,e1,_,h1,h2⟩:=Q4 hc hq e
  rw [aDN hc hq] at e1
  injection e1 with e1
  rw [e1];exact⟨h1,h2⟩
def CQ(c:aC):Nat→List Int
  | 0=>[]
  | k+1=>if aDV c k then CQ c k ++ [(k:Int)] else CQ c k
theorem aMK(c:aC)(k:Nat):(CQ c k).length≤k:=by
  induction k with
  | zero=>simp [CQ]
  | succ k ih=>unfold CQ;split <;> (try simp) <;> omega
theorem aAG{c:aC}(hc:AX c):AW c=some (CQ c 3):=by
  unfold AW
  have key:loop (rF c) ([],0)=some (CQ c 3):=iB (f:=rF c) 3 (fun k=>(CQ c k,(k:Int))) _ (fun k hk=>by
    have:=aMK c k
    have ew:aX ((k:Int)+1)=((k+1:Nat):Int):=by rw [aP (by omega) (by omega)];rfl
    have hx:idx c.aN (k:Int)=some (eC c k):=CV hc (by omega)
    simp only [rF,rE,rD,xV]
    rw [if_pos (by simp;omega),fL,decide_eq_true hc,Option.bind_some,if_pos rfl,hx,Option.bind_some,ew]
    simp only [Option.bind_some]
    have e:CQ c (k+1)=if aDV c k then CQ c k ++ [(k:Int)] else CQ c k:=rfl
    rw [e]
    by_cases q:aDV c k
    · obtain⟨⟨q1,q2⟩,q3⟩:=id q
      rw [if_pos q1,q2,Bool.not_false,if_pos rfl,decide_eq_true q3,if_pos rfl,aU (by simp;omega),if_pos q]
    · rw [if_neg q]
      by_cases q1:(eC c k).On=true
      · rw [if_pos q1]
        cases q2:(eC c k).d5
        · rw [Bool.not_false,if_pos rfl,decide_eq_false (fun q3=>q ⟨⟨q1,q2⟩,q3⟩),if_neg (by simp)]
        · rw [Bool.not_true,if_neg (by simp),if_neg (by simp)]
      · rw [if_neg q1,if_neg (by simp)]) (by simp [rF,rE])
  rw [key];rfl
def TN(c:aC):Nat→Nat
  | 0=>0
  | k+1=>TN c k+if aBZ c k then 1 else 0
theorem aON(c:aC)(k:Nat):TN c k≤k:=by
  induction k with
  | zero=>simp [TN]
  | succ k ih=>unfold TN;split <;> omega
theorem Y7{c:aC}(hc:AX c):z8 c=some (TN c 3:Int):=by
  unfold z8
  rw [gO hc.small.2,decide_eq_true hc,Option.bind_some,if_neg (by simp)]
  have h3:=hc.2.1
  have key:loop (nF c) (0,0)=some (TN c 3:Int):=iB (f:=nF c) 3 (fun k=>((TN c k:Int),(k:Int))) _ (fun k hk=>by
    have:=aON c k
    have ew:aX ((k:Int)+1)=((k+1:Nat):Int):=by rw [aP (by omega) (by omega)];rfl
    have hx:idx c.aN (k:Int)=some (eC c k):=CV hc (by omega)
    simp only [nF]
    rw [if_pos (by simp;omega),hx,Option.bind_some,ew]
    simp only [kD,gU,Q9]
    have e:TN c (k+1)=TN c k+if aBZ c k then 1 else 0:=rfl
    rw [e]
    by_cases o:(eC c k).On=true
    · rw [if_pos o,Option.bind_some]
      cases m:(eC c k).d5
      · rw [Bool.not_false,if_pos rfl,Option.bind_some,if_pos (show aBZ c k from ⟨o,m⟩),aP (by omega) (by omega)];rfl
      · rw [Bool.not_true,if_neg (by simp),Option.bind_some,if_neg (fun h:aBZ c k=>by have:=h.2;rw [m] at this;cases this),aP (by omega) (by omega)];simp
    · rw [if_neg o,Option.bind_some,if_neg (by simp),Option.bind_some,if_neg (fun h:aBZ c k=>o h.1),aP (by omega) (by omega)];simp) (by simp [nF,h3])
  rw [key];rfl
theorem aHX{c:aC}(hp:∀k:Nat,k < 3→(eC c k).aE < c.aE):∀k,k≤3→(CQ c k).length=TN c k
  | 0,_=>rfl
  | k + 1, hk => by
    have ih:=aHX hp k (by omega)
    have:=hp k (by omega)
    have e1:CQ c (k+1)=if aDV c k then CQ c k ++ [(k:Int)] else CQ c k:=rfl
    have e2:TN c (k+1)=TN c k+if aBZ c k then 1 else 0:=rfl
    rw [e1,e2]
    by_cases q:aBZ c k
    · rw [if_pos q,if_pos ⟨q,this⟩];simp [ih]
    · rw [if_neg q,if_neg (fun h=>q h.1),ih];rfl
theorem aF2{c:aC}(h:(CQ c 3).length=0):∀k:Nat,k < 3→¬aDV c k:=by
  have key:∀n,(CQ c n).length=0→∀k,k < n→¬aDV c k:=by
    intro n
    induction n with
    | zero=>intro _ k hk;omega
    | succ n ih =>
      intro hn k hk
      unfold CQ at hn
      split at hn
      · simp at hn
      · rename_i q
        by_cases e:k=n
        · subst e;exact q
        · exact ih hn k (by omega)
  exact key 3 h
theorem aOO{b:aI}(hb:eQ b)(n:Nat):∃x s,MJ 0 (n+5) b (aDR 3 0)=(x,s)∧s.cQ=true ∧
    ((s.Out=0∧x.aC.aE=b.aC.aE)∨(s.Out=1∧x.aC.aE=b.aC.aE+1∧∀k:Nat,k < 3→(eC x.aC k).aE < x.aC.aE)) ∧
    ((CQ b.aC 3).length=0→b.aC.aE < 100000→s.Out=1):=by
  have hc:=hb.1.2.1
  rw [nE rfl]
  have e1:l7 b 0 (aDR 3 0)=(b,⟨3,0,1,b.aC.aE,0,0,0,0,0,false⟩):=rfl
  rw [e1]
  simp only
  have same:(CQ b.aC 3).length=0→∀q:Nat,q < 3→sL b.aC q b.aC.aE=(b.aC,true):=fun h0 q hq=>by
    have hn:=aF2 h0 q hq
    have hp:=(W6 hc (w:=q) (by omega)).1
    unfold sL
    rw [if_pos]
    by_cases o:(eC b.aC q).On=false
    · exact .inl o
    · by_cases m:(eC b.aC q).d5=true
      · exact .inr (.inl m)
      · refine .inr (.inr ?_)
        have:¬(eC b.aC q).aE < b.aC.aE:=fun l=>hn ⟨⟨by simpa using o,by simpa using m⟩,l⟩
        omega
  have step:∀(q:Nat) (c:aC),q < 3→l7 {b with aC:=c} 0 ⟨3,0,1,b.aC.aE,0,q,0,0,0,false⟩ =
      if (sL c q b.aC.aE).2 then ({b with aC:=(sL c q b.aC.aE).1},⟨3,0,if (q:Int)=2 then 2 else 1,b.aC.aE,0,(q:Int)+1,0,0,0,false⟩)
      else ({b with aC:=(sL c q b.aC.aE).1},⟨3,0,1,b.aC.aE,0,q,0,0,8,true⟩):=fun q c hq=>by
    unfold l7 D0 AV
    have hq':0≤(q:Int)∧(q:Int)≤2:=by omega
    simp [hq']
  have key:∀(d q:Nat),q+d=3→0 < d→∀(c:aC) (m:Nat),AX c→c.aE=b.aC.aE→((CQ b.aC 3).length=0→c=b.aC) →
      ∃x s,MJ 0 (m+d+1) {b with aC:=c} ⟨3,0,1,b.aC.aE,0,q,0,0,0,false⟩=(x,s)∧s.cQ=true ∧
        ((s.Out=0∧x.aC.aE=b.aC.aE)∨(s.Out=1∧x.aC.aE=b.aC.aE+1∧∀k:Nat,k < 3→(eC x.aC k).aE < x.aC.aE)) ∧
        ((CQ b.aC 3).length=0→b.aC.aE < 100000→s.Out=1):=by
    intro d
    induction d with
    | zero=>intro q _ h;omega
    | succ d ih =>
      intro q hq _ c m hcc he hsame
      obtain⟨l1,l2⟩:=aOM hcc (q:=q) (by omega) b.aC.aE
      rw [show m+(d+1)+1=(m+d+1)+1 by omega,nE rfl,step q c (by omega)]
      have hs2:(CQ b.aC 3).length=0→sL c q b.aC.aE=(b.aC,true):=fun h0=>by rw [hsame h0];exact same h0 q (by omega)
      cases hl:(sL c q b.aC.aE).2
      · rw [if_neg (by simp)]
        simp only
        rw [yY rfl]
        exact⟨_,_,rfl,rfl,.inl ⟨rfl,l2.trans he⟩,fun h0=>by rw [hs2 h0] at hl;cases hl⟩
      · rw [if_pos rfl]
        simp only
        by_cases q2:q=2
        · subst q2
          have hd:d=0:=by omega
          subst hd
          rw [if_pos (by rfl),show m+0+1=m+1 by omega,nE rfl]
          have eb:l7 {b with aC:=(sL c (2:Nat) b.aC.aE).1} 0 ⟨3,0,2,b.aC.aE,0,((2:Nat):Int)+1,0,0,0,false⟩=({b with aC:=(PU (sL c (2:Nat) b.aC.aE).1 b.aC.aE).1},⟨3,0,2,b.aC.aE,0,((2:Nat):Int)+1,0,if (PU (sL c (2:Nat) b.aC.aE).1 b.aC.aE).2 then 1 else 0,0,true⟩):=by
            unfold l7 D0 AV;simp
          rw [eb]
          simp only
          rw [yY rfl]
          refine⟨_,_,rfl,rfl,?_,fun h0 hm=>?_⟩
          · unfold PU
            by_cases z:(sL c (2:Nat) b.aC.aE).1.aE=b.aC.aE∧b.aC.aE≠100000
            · right
              rw [if_pos z]
              refine⟨rfl,rfl,fun k hk=>?_⟩
              have:=(W6 l1 (w:=k) (by omega)).1
              have e3:eC ⟨b.aC.aE+1,(sL c (2:Nat) b.aC.aE).1.aN⟩ k=eC (sL c (2:Nat) b.aC.aE).1 k:=rfl
              simp only [e3];omega
            · left
              rw [if_neg z]
              exact⟨rfl,by simp only;rw [l2,he]⟩
          · simp only
            rw [hs2 h0]
            unfold PU
            rw [if_pos (show b.aC.aE=b.aC.aE∧b.aC.aE≠100000 from ⟨rfl,by omega⟩)];rfl
        · rw [if_neg (by omega)]
          have:=ih (q+1) (by omega) (by omega) (sL c q b.aC.aE).1 m l1 (by rw [l2,he]) (fun h0=>by rw [hs2 h0])
          rw [show((q+1:Nat):Int)=(q:Int)+1 by omega] at this
          exact this
  have:=key 3 0 rfl (by omega) b.aC n hc rfl (fun _=>rfl)
  exact this
theorem XQ{code:List UInt8}(_:fit code):BM code=some true:=by
  unfold BM w7
  rw [Option.bind_some]
  by_cases hcl:1048576 < (code.length:Int)
  · rw [if_pos (by simpa using hcl)]
  rw [if_neg (by simpa using hcl)]
  obtain⟨b,eb,hs⟩:=aMI (code:=code) (by omega)
  rw [eb,Option.bind_some]
  unfold lN
  rw [Option.bind_some,N6 hs,Option.bind_some]
  simp only [vH,gE hs.fits,Option.bind_some]
  by_cases hb:eQ b
  rotate_left
  · have e:mG b 0 ⟨3,0,0,0,0,0,0,0,0,false⟩=(b,⟨3,0,0,0,0,0,0,0,0,false⟩):=by
      unfold mG;rw [if_neg (fun q=>hb q.1)]
    rw [decide_eq_false hb,e];rfl
  obtain⟨x,s,e0,hd,hout,hbeh⟩:=aOO hb 195
  have e:mG b 0 ⟨3,0,0,0,0,0,0,0,0,false⟩=(x,s):=by
    unfold mG;rw [if_pos (show eQ b∧0≤(0:Int)∧(0:Int)≤2 from ⟨hb,by omega,by omega⟩)];exact e0
  have hx:=N5 hb 0 ⟨3,0,0,0,0,0,0,0,0,false⟩
  rw [e] at hx ⊢
  simp only at hx
  have hc:=hb.1.2.1
  have hcE:=hc.1
  have ew:aX (b.aC.aE+s.Out)=b.aC.aE+s.Out:=aP (by omega) (by omega)
  have o1:0≤s.Out∧s.Out≤1:=by omega
  have oE:x.aC.aE=b.aC.aE+s.Out:=by omega
  simp only [decide_eq_true hb,Bool.not_true,Bool.false_eq_true,if_false,hd,gE hx.small.fits,decide_eq_true hx,Option.bind_some,ew,oE,bne_self_eq_false,fP]
  rw [if_neg (by simp;omega),if_neg (by simp;omega),aAG hc,Option.bind_some]
  have j3:g8 s false x=some true:=by
    unfold g8
    rw [if_neg (by simp)]
    refine(?_:_=_)
    rcases hout with ⟨o,_⟩ | ⟨o,_,hp⟩
    · rw [o];rfl
    · rw [o,if_neg (by decide),aAG hx.1.2.1,Option.bind_some,Y7 hx.1.2.1,Option.bind_some,aHX hp 3 (by omega)]
      simp [oA]
  by_cases h0:(CQ b.aC 3).length=0
  · rw [if_pos (by simp [h0])]
    by_cases hm:b.aC.aE < 100000
    · have:=hbeh h0 hm
      rw [if_pos (by simpa using hm),show(s.Out != 1)=false by rw [this];rfl]
      exact j3
    · rw [if_neg (by simpa using hm)];exact j3
  · rw [if_neg (by simpa using h0)];exact j3
end Go.Gv
end
