import Derived.Test.YtbdmodalljibjaaGreatXMF
set_option linter.unusedVariables false
set_option linter.unusedSimpArgs false
set_option linter.unusedSectionVars false
set_option linter.constructorNameAsVariable false
set_option linter.unnecessarySimpa false
noncomputable section
set_option linter.unusedVariables false
namespace Go.Gv
noncomputable section
def ET(b:aA)(slot:Int):Option Int:=
  (xV b.Mem slot).bind fun x1=>(if x1 != 3 then some x1 else (yC b.aJ slot).bind fun x2=>(if x2 then some 3 else some 4))
def ZV(x6:List Int):Option (List Int):=
  some x6
def uX(b:aA):((List Int)×Int)→Option (Step ((List Int)×Int) (List Int))
  | (x4,x5)=>(if decide (x5 < 24) then (ET b x5).bind fun x7=>(idx x4 x7).bind fun x8=>some (.next (x4.set x7.toNat (aZ (x8+1)),aZ (x5+1))) else some (.stop (x4)))
def ZW:(List Int)→Option (List Int)
  | x6=>ZV x6
def JW(b:aA):Option (List Int):=
  need (0≤(5:Int)∧(5:Int)≤4294967296) ((qZ b).bind fun x1=>(if !x1 then some (List.replicate ((5:Int).toNat) 0) else (loop (uX b) (List.replicate ((5:Int).toNat) 0,0)).bind (ZW)))
def aE1(x5:Int):Option Int:=
  some x5
def BW(l:List Int):(Int×Int)→Option (Step (Int×Int) Int)
  | (x3,x4)=>(if decide (x4 < (l.length:Int)) then (idx l x4).bind fun x6=>some (.next (aZ (x3+x6),aZ (x4+1))) else some (.stop (x3)))
def aE2:Int→Option Int
  | x5=>aE1 x5
def M3(l:List Int):Option Int:=
  (loop (BW l) (0,0)).bind (aE2)
def O8(b:aA)(slot:Int):Option Int:=
  (qZ b).bind fun x1=>(if !x1 then some 0 else (ET b slot).bind fun x2=>some x2)
def YD(x7:Int):Option Int:=
  some x7
def zE(l:aB)(c:Int):(Int×Int)→Option (Step (Int×Int) Int)
  | (x5,x6)=>(if decide (x6 < 3) then (zW x6 c).bind fun x8=>(idx l.aX x8).bind fun x9=>some (.next (aZ (x5+(x9.aP.length:Int)),aZ (x6+1))) else some (.stop (x5)))
def YE:Int→Option Int
  | x7=>YD x7
def zF(l:aB)(c:Int)(x1:Bool):Option Int:=
  (if x1 then some 0 else (idx l.Global c).bind fun x2=>(loop (zE l c) ((x2.aP.length:Int),0)).bind (YE))
def FX(l:aB)(c:Int):Option Int:=
  (gU l).bind fun x10=>(if !x10 then zF l c true else (gW c).bind fun x11=>zF l c (!x11))
def YF(x5:List Int):Option (List Int):=
  some x5
def zG(x4:Int)(x6:List Int):Option (Step ((List Int)×Int) (List Int)):=
  some (.next (x6,aZ (x4+1)))
def zH(x3:List Int)(x4:Int)(x7:Bool):Option (Step ((List Int)×Int) (List Int)):=
  (if x7 then need (x3.length+([x4]).length≤1073741824) (zG x4 (x3++([x4]))) else zG x4 x3)
def rR(h:aC):((List Int)×Int)→Option (Step ((List Int)×Int) (List Int))
  | (x3,x4)=>(if decide (x4 < 24) then (wT h).bind fun x8=>(if x8 then (j4 h x4).bind fun x9=>zH x3 x4 (decide (0≤x9)) else zH x3 x4 false) else some (.stop (x3)))
def YG:(List Int)→Option (List Int)
  | x5=>YF x5
def FY(h:aC):Option (List Int):=
  (loop (rR h) (([]:List Int),0)).bind (YG)
def pE(x22:Bool):Option Bool:=
  some x22
def KU(x5:(List Int))(x14:List Int)(x20:Int)(x21:aE):Option Bool:=
  (uK x14 x5).bind fun x23=>(if x23 then (idx x5 1).bind fun x24=>(if x20 == x24 then (idx x5 0).bind fun x25=>(FY x21.aA.Mem.aC).bind fun x26=>pE ((x26.length:Int) == (aZ (24 - x25))) else pE false) else pE false)
def pG(x15:aE):(Int×Int)→Option (Step (Int×Int) (Int×aE))
  | (x18,x19)=>(if decide (x19 < 3) then (FX x15.aA.Mem.aB x19).bind fun x27=>some (.next (aZ (x18+x27),aZ (x19+1))) else some (.stop ((x18,x15))))
def KV(x5:(List Int))(x14:List Int):(Int×aE)→Option Bool
  | (x20,x21)=>KU x5 x14 x20 x21
def KW(x5:(List Int))(x14:List Int)(x15:aE):Option Bool:=
  (loop (pG x15) (0,0)).bind (KV x5 x14)
def vZ(x11:List Int)(x12 x28:Int)(x29:Bool)(x30:aE):Option (Step ((List Int)×Int×aE) (Out ((List Int)×aE) Bool)):=
  (if x29 then some (.stop (Out.ret false)) else (idx x11 x28).bind fun x31=>some (.next (x11.set x28.toNat (aZ (x31+1)),aZ (x12+1),x30)))
def lT:((List Int)×Int×aE)→Option (Step ((List Int)×Int×aE) (Out ((List Int)×aE) Bool))
  | (x11,x12,x13)=>(if decide (x12 < 24) then (O8 x13.aA x12).bind fun x28=>(if decide (x28 < 0) then vZ x11 x12 x28 true x13 else vZ x11 x12 x28 (decide (4 < x28)) x13) else some (.stop (Out.brk (x11,x13))))
def KX(x5:(List Int)):(Out ((List Int)×aE) Bool)→Option Bool
  | .brk (x14,x15)=>KW x5 x14 x15
  | .ret r=>some r
def CF(x5:(List Int))(x6:Bool)(x7:aE):Option Bool:=
  (if x6 then some false else need (0≤(5:Int)∧(5:Int)≤4294967296) ((loop (lT) (List.replicate ((5:Int).toNat) 0,0,x7)).bind (KX x5)))
def pH(x5:(List Int))(x32:Bool)(x33:aE):Option Bool:=
  CF x5 x32 x33
def JX(code:List UInt8):Option Bool:=
  (LX code).bind fun x1=>(if x1 then some true else (kT code).bind fun x2=>(EA x2).bind fun x3=>(if !x3 then some true else (rE x2).bind fun x4=>(JW x4.aA).bind fun x5=>(if (x5.length:Int) != 5 then pH x5 true x4 else (M3 x5).bind fun x34=>(if x34 != 24 then pH x5 true x4 else (idx x5 3).bind fun x35=>(kS x4.aA.aJ).bind fun x36=>pH x5 (x35 != x36) x4))))
end
end Go.Gv
end
noncomputable section
set_option linter.unusedVariables false
set_option maxHeartbeats 4000000
set_option maxRecDepth 100000
namespace Go.Proofs.YtbdmodalljibjaaGreat
open Go.Gv
noncomputable section
variable {κ:Ctx}
theorem IJ{l:List aR}{s1:AC}(h1:bS κ s1 l):V0 Tryz.prog κ 35 (kS l) [.h s1 l.length] I:=
 cY tok Tryz.call35 Tryz.func35 Tryz.results35 Q Q<|ND () [6,7] (fun(p:Int×Int) (_:Unit)=>[(3,I p.1),(8,I p.2)]) [] [] (fun p _=>[]) id [] (fun(x5:Int) (_:Unit)=>[(3,I x5)]) [] (fun x5 _=>[]) Q Q (fun hF1 ⟨x3,x4⟩ _ hr1=>bU [9] Q Q (IN L9 Q h1 Q fun x6 s2 h2=>E9 [] Q)<|CK [] Q) fun x5 _=>cN Q Q
theorem Q3{b:aA}{slot:Int}{s1 s2 s3 s4 s5 s6 s7:AC}(h1:bS κ s1 b.Mem.aC.Bytes)(h2:bS κ s2 b.Mem.aC.Class)(h3:bS κ s3 b.Mem.aB.Global)(h4:bS κ s4 b.Mem.aB.aX)(h5:bS κ s5 b.aD.aQ)(h6:bS κ s6 b.aJ)(h7:bS κ s7 b.dI):V0 Tryz.prog κ 122 (ET b slot) [.g [.h s1 b.Mem.aC.Bytes.length,.h s2 b.Mem.aC.Class.length,.h s3 b.Mem.aB.Global.length,.h s4 b.Mem.aB.aX.length,I b.aD.aG,.h s5 b.aD.aQ.length,.h s6 b.aJ.length,.h s7 b.dI.length],I slot] I:=
 cY tok Tryz.call122 Tryz.func122 Tryz.results122 Q Q<|c0 Q (fun h=>MC (h.a h1) (h.a h2) (h.a h3) (h.a h4)) fun x1=>bU [10,12] Q Q (cN Q Q)<|c0 Q (fun h=>ME (h.a h6)) fun x2=>bU [14,18] Q Q (cN Q Q)<|cN Q Q
theorem aCX{b:aA}{s1 s2 s3 s4 s5 s6 s7:AC}(h1:bS κ s1 b.Mem.aC.Bytes)(h2:bS κ s2 b.Mem.aC.Class)(h3:bS κ s3 b.Mem.aB.Global)(h4:bS κ s4 b.Mem.aB.aX)(h5:bS κ s5 b.aD.aQ)(h6:bS κ s6 b.aJ)(h7:bS κ s7 b.dI):VS Tryz.prog κ 33 (JW b) [.g [.h s1 b.Mem.aC.Bytes.length,.h s2 b.Mem.aC.Class.length,.h s3 b.Mem.aB.Global.length,.h s4 b.Mem.aB.aX.length,I b.aD.aG,.h s5 b.aD.aQ.length,.h s6 b.aJ.length,.h s7 b.dI.length]] [] [] (fun r (y:AC)=>.h y r.length) (fun r y=>[ow y r]):=
 cY tok Tryz.call33 Tryz.func33 Tryz.results33 Q Q<|fun hF=>zI (0:Int) aU (fun w=>kH Q w) Q Q Q Q Q Q Q hF fun hF s8=>wi hF<|c0 Q (fun h=>GW (h.a h1) (h.a h2) (h.a h3) (h.a h4) (h.a h5) (h.a h6) (h.a h7)) fun x1=>bU [8] Q Q (mT s8 [1] Q Q)<|ND () [1] (fun(p:(List Int)×Int) (_:Unit)=>[(3,.h s8 p.1.length),(10,I p.2)]) [1,0] [0] (fun p _=>[ow s8 (p.1:List Int)]) id [] (fun(x6:(List Int)) (_:Unit)=>[(3,.h s8 x6.length)]) [] (fun x6 _=>[ow s8 (x6:List Int)]) Q Q (fun hF1 ⟨x4,x5⟩ _ hr1=>bU [11] Q Q (c0 Q (fun h=>Q3 (h.a h1) (h.a h2) (h.a h3) (h.a h4) (h.a h5) (h.a h6) (h.a h7)) fun x7=>v9 oI 0 Q Q Q fun x8 h8 _ h9=>fun hG1=>nP 1 h9 h8 Q Q Q Q Q<|nP 1 h9 h8 Q Q Q Q Q<|sF Q<|pI oI 2 [] [3,13] (aZ (x8+1)) () Q Q Q Q Q Q Q Q<|nxR () [5,1] hG1 Q)<|CK [0] Q) fun x6 _=>mT s8 [0] Q Q
theorem aGT{l:List Int}{s1:AC}(h1:bS κ s1 l):V0 Tryz.prog κ 34 (M3 l) [.h s1 l.length] I:=
 cY tok Tryz.call34 Tryz.func34 Tryz.results34 Q Q<|ND () [0] (fun(p:Int×Int) (_:Unit)=>[(3,I p.1),(4,I p.2)]) [] [] (fun p _=>[]) id [] (fun(x5:Int) (_:Unit)=>[(3,I x5)]) [] (fun x5 _=>[]) Q Q (fun hF1 ⟨x3,x4⟩ _ hr1=>bU [8] Q Q (NC Q h1 Q fun x6=>E9 [] Q)<|CK [] Q) fun x5 _=>cN Q Q
theorem aCY{b:aA}{slot:Int}{s1 s2 s3 s4 s5 s6 s7:AC}(h1:bS κ s1 b.Mem.aC.Bytes)(h2:bS κ s2 b.Mem.aC.Class)(h3:bS κ s3 b.Mem.aB.Global)(h4:bS κ s4 b.Mem.aB.aX)(h5:bS κ s5 b.aD.aQ)(h6:bS κ s6 b.aJ)(h7:bS κ s7 b.dI):V0 Tryz.prog κ 36 (O8 b slot) [.g [.h s1 b.Mem.aC.Bytes.length,.h s2 b.Mem.aC.Class.length,.h s3 b.Mem.aB.Global.length,.h s4 b.Mem.aB.aX.length,I b.aD.aG,.h s5 b.aD.aQ.length,.h s6 b.aJ.length,.h s7 b.dI.length],I slot] I:=
 cY tok Tryz.call36 Tryz.func36 Tryz.results36 Q Q<|c0 Q (fun h=>GW (h.a h1) (h.a h2) (h.a h3) (h.a h4) (h.a h5) (h.a h6) (h.a h7)) fun x1=>bU [7] Q Q (cN Q Q)<|c0 Q (fun h=>Q3 (h.a h1) (h.a h2) (h.a h3) (h.a h4) (h.a h5) (h.a h6) (h.a h7)) fun x2=>cN Q Q
theorem ZX{l:aB}{c:Int}{s1 s2:AC}(h1:bS κ s1 l.Global)(h2:bS κ s2 l.aX):V0 Tryz.prog κ 37 (FX l c) [.g [.h s1 l.Global.length,.h s2 l.aX.length],I c] I:=
 cY tok Tryz.call37 Tryz.func37 Tryz.results37 Q Q<|dK 0 1 (zF l c) [1,2] 14 [0] Q (c0 Q (fun h=>rG (h.a h1) (h.a h2)) fun x10=>eP [9,10] Q Q (cA [0] Q Q)<|c0 Q (fun _=>iV) fun x11=>cA [0] Q Q) fun x1=>bU [14] Q Q (cN Q Q)<|IN wH Q h1 Q fun x2 s3 h3=>ND () [1,2] (fun(p:Int×Int) (_:Unit)=>[(5,I p.1),(22,I p.2)]) [0] [0] (fun p _=>[]) id [] (fun(x7:Int) (_:Unit)=>[(5,I x7)]) [] (fun x7 _=>[]) Q Q (fun hF2 ⟨x5,x6⟩ _ hr2=>bU [23] Q Q (nO aL [0] Q<|c0 Q (fun _=>JD) fun x8=>IN wH Q h2 Q fun x9 s4 h4=>E9 [0] Q)<|CK [] Q) fun x7 _=>cN Q Q
theorem OK{h:aC}{s1 s2:AC}(h1:bS κ s1 h.Bytes)(h2:bS κ s2 h.Class):VS Tryz.prog κ 39 (FY h) [.g [.h s1 h.Bytes.length,.h s2 h.Class.length]] [] [] (fun r (y:AC)=>.h y r.length) (fun r y=>[ow y r]):=
 cY tok Tryz.call39 Tryz.func39 Tryz.results39 Q Q<|fun hF=>YN (α:=Int) aU Q Q Q Q fun s3=>wi hF<|ND s3 [1] (fun(p:(List Int)×Int) (s5:AC)=>[(3,.h s5 p.1.length),(6,I p.2)]) [1,0] [0] (fun p s5=>[ow s5 (p.1:List Int)]) id [] (fun(x5:(List Int)) (s6:AC)=>[(3,.h s6 x5.length)]) [] (fun x5 s6=>[ow s6 (x5:List Int)]) Q Q (fun hF1 ⟨x3,x4⟩ s5 hr1=>bU [7] Q Q (jR 2 1 (zG x4) [1,6] (fun(x6:(List Int)) (s7:AC)=>[(3,.h s7 x6.length)]) [1] (fun x6 s7=>[ow s7 (x6:List Int)]) Q (dK 0 1 (zH x3 x4) [1,3,4,6] 16 [0,1] Q (c0 Q (fun h=>GQ (h.a h1) (h.a h2)) fun x8=>eP [10,11] Q Q (c0 Q (fun h=>nC (h.a h1) (h.a h2)) fun x9=>cA [0,1] Q Q)<|cA [0,1] Q Q) fun x7=>bU [16] Q Q (fun hG1=>lt1 Q aU Q Q Q Q fun s8=>ap 0 aU Q Q Q Q Q Q Q (fun h=>(h.o 2 Q)) Q Q hG1 fun hG1 s9=>wi hG1<|rT s9 [0,1] Q Q)<|rT s5 [0,1] Q Q) fun x6 s7=>nxW s7 [0,1] Q)<|bkW s5 [0] Q) fun x5 s6=>mT s6 [0] Q Q
theorem YH{code:List UInt8}{s1:AC}(h1:bS κ s1 code):V0 Tryz.prog κ 6 (JX code) [.h s1 code.length] .b:=
 cY tok Tryz.call6 Tryz.func6 Tryz.results6 Q Q<|c0 Q (fun h=>W0 (h.a h1)) fun x1=>bU [12] Q Q (cN Q Q)<|c1 Q (fun h=>BP (h.a h1)) fun x2 s2=>c0 Q (fun h=>QF (h.o 0 Q) (h.o 1 Q)) fun x3=>bU [17] Q Q (cN Q Q)<|c1 Q (fun h=>H8 (h.o 0 Q) (h.o 1 Q)) fun x4 s3=>c1 Q (fun h=>aCX (h.o 3 Q) (h.o 4 Q) (h.o 5 Q) (h.o 6 Q) (h.o 7 Q) (h.o 8 Q) (h.o 9 Q)) fun x5 s4=>jR 0 2 (fun(p:Bool×aE)=>CF x5 p.1 p.2) [4,5] (fun(p:Bool×aE) (_:Unit)=>[(40,.b p.1)]) [15] (fun p _=>[ow s3.1 (p.2.aA.Mem.aC.Bytes:List Int),ow s3.2.1 (p.2.aA.Mem.aC.Class:List Int),ow s3.2.2.1 (p.2.aA.Mem.aB.Global:List aH),ow s3.2.2.2.1 (p.2.aA.Mem.aB.aX:List aH),ow s3.2.2.2.2.1 (p.2.aA.aD.aQ:List gR),ow s3.2.2.2.2.2.1 (p.2.aA.aJ:List aR),ow s3.2.2.2.2.2.2.1 (p.2.aA.dI:List Int),ow s3.2.2.2.2.2.2.2.1 (p.2.Cells:List Int),ow s3.2.2.2.2.2.2.2.2.1 (p.2.aM:List bJ),ow s3.2.2.2.2.2.2.2.2.2.1 (p.2.bL:List Queue),ow s3.2.2.2.2.2.2.2.2.2.2 (p.2.Log:List Ev),.box 1 [.h s3.1 p.2.aA.Mem.aC.Bytes.length,.h s3.2.1 p.2.aA.Mem.aC.Class.length,.h s3.2.2.1 p.2.aA.Mem.aB.Global.length,.h s3.2.2.2.1 p.2.aA.Mem.aB.aX.length,I p.2.aA.aD.aG,.h s3.2.2.2.2.1 p.2.aA.aD.aQ.length,.h s3.2.2.2.2.2.1 p.2.aA.aJ.length,.h s3.2.2.2.2.2.2.1 p.2.aA.dI.length,.h s3.2.2.2.2.2.2.2.1 p.2.Cells.length,.h s3.2.2.2.2.2.2.2.2.1 p.2.aM.length,.h s3.2.2.2.2.2.2.2.2.2.1 p.2.bL.length,.h s3.2.2.2.2.2.2.2.2.2.2 p.2.Log.length,I p.2.aN]]) Q (jR 0 2 (fun(p:Bool×aE)=>pH x5 p.1 p.2) [4,5] (fun(p:Bool×aE) (_:Unit)=>[(40,.b p.1)]) [15] (fun p _=>[ow s3.1 (p.2.aA.Mem.aC.Bytes:List Int),ow s3.2.1 (p.2.aA.Mem.aC.Class:List Int),ow s3.2.2.1 (p.2.aA.Mem.aB.Global:List aH),ow s3.2.2.2.1 (p.2.aA.Mem.aB.aX:List aH),ow s3.2.2.2.2.1 (p.2.aA.aD.aQ:List gR),ow s3.2.2.2.2.2.1 (p.2.aA.aJ:List aR),ow s3.2.2.2.2.2.2.1 (p.2.aA.dI:List Int),ow s3.2.2.2.2.2.2.2.1 (p.2.Cells:List Int),ow s3.2.2.2.2.2.2.2.2.1 (p.2.aM:List bJ),ow s3.2.2.2.2.2.2.2.2.2.1 (p.2.bL:List Queue),ow s3.2.2.2.2.2.2.2.2.2.2 (p.2.Log:List Ev),.box 1 [.h s3.1 p.2.aA.Mem.aC.Bytes.length,.h s3.2.1 p.2.aA.Mem.aC.Class.length,.h s3.2.2.1 p.2.aA.Mem.aB.Global.length,.h s3.2.2.2.1 p.2.aA.Mem.aB.aX.length,I p.2.aA.aD.aG,.h s3.2.2.2.2.1 p.2.aA.aD.aQ.length,.h s3.2.2.2.2.2.1 p.2.aA.aJ.length,.h s3.2.2.2.2.2.2.1 p.2.aA.dI.length,.h s3.2.2.2.2.2.2.2.1 p.2.Cells.length,.h s3.2.2.2.2.2.2.2.2.1 p.2.aM.length,.h s3.2.2.2.2.2.2.2.2.2.1 p.2.bL.length,.h s3.2.2.2.2.2.2.2.2.2.2 p.2.Log.length,I p.2.aN]]) Q (nO aL [2,14] Q<|eP [25,26] Q Q (cA (p:=(true,x4)) [3,4,5,6,7,8,9,10,11,12,13,14,15] Q Q)<|c0 Q (fun h=>aGT (h.o 15 Q)) fun x34=>eP [29,30,31] Q Q (cA (p:=(true,x4)) [3,4,5,6,7,8,9,10,11,12,13,14,15] Q Q)<|v9 oI 15 Q Q Q fun x35 h8 _ h9=>fun hF=>nP 2 h9 h8 Q Q Q Q Q<|bd hF fun x36 hA2 hF=>iG Q Q (have hq3:=rb hA2;wi hq3<|c0 Q (fun h=>IJ (h.o 8 Q)) fun u3=>fun hq3=>match u3,hq3 with | _,rfl=>sF Q<|oO oI 16 [] h8 () Q Q Q Q Q Q Q<|rW (p:=(x35 != x36,x4)) () [3,4,5,6,7,8,9,10,11,12,13,14,19] hF Q) (have hq4:=rb hA2;wi hq4<|c0 Q (fun h=>IJ (h.o 8 Q)) fun u4=>fun hq4=>match u4,hq4 with | _,rfl=>sF Q<|oO oI 16 [] h8 () Q Q Q Q Q Q Q<|rW (p:=(x35 != x36,x4)) () [3,4,5,6,7,8,9,10,11,12,13,14,19] hF Q)) fun⟨x32,x33⟩ _=>cA (p:=(x32,x33)) [0,1,2,3,4,5,6,7,8,9,10,11,12] Q Q) fun⟨x6,x7⟩ _=>bU [40] Q Q (cN Q Q)<|fun hF=>zI (0:Int) aU (fun w=>kH Q w) Q Q Q Q Q Q Q hF fun hF s5=>wi hF<|ND () [4,5] (fun(p:(List Int)×Int×aE) (_:Unit)=>[(6,.h s5 p.1.length),(7,I p.2.1)]) [13,0,1,2,3,4,5,6,7,8,9,10,11,12] [12] (fun p _=>[ow s5 (p.1:List Int),ow s3.1 (p.2.2.aA.Mem.aC.Bytes:List Int),ow s3.2.1 (p.2.2.aA.Mem.aC.Class:List Int),ow s3.2.2.1 (p.2.2.aA.Mem.aB.Global:List aH),ow s3.2.2.2.1 (p.2.2.aA.Mem.aB.aX:List aH),ow s3.2.2.2.2.1 (p.2.2.aA.aD.aQ:List gR),ow s3.2.2.2.2.2.1 (p.2.2.aA.aJ:List aR),ow s3.2.2.2.2.2.2.1 (p.2.2.aA.dI:List Int),ow s3.2.2.2.2.2.2.2.1 (p.2.2.Cells:List Int),ow s3.2.2.2.2.2.2.2.2.1 (p.2.2.aM:List bJ),ow s3.2.2.2.2.2.2.2.2.2.1 (p.2.2.bL:List Queue),ow s3.2.2.2.2.2.2.2.2.2.2 (p.2.2.Log:List Ev),.box 1 [.h s3.1 p.2.2.aA.Mem.aC.Bytes.length,.h s3.2.1 p.2.2.aA.Mem.aC.Class.length,.h s3.2.2.1 p.2.2.aA.Mem.aB.Global.length,.h s3.2.2.2.1 p.2.2.aA.Mem.aB.aX.length,I p.2.2.aA.aD.aG,.h s3.2.2.2.2.1 p.2.2.aA.aD.aQ.length,.h s3.2.2.2.2.2.1 p.2.2.aA.aJ.length,.h s3.2.2.2.2.2.2.1 p.2.2.aA.dI.length,.h s3.2.2.2.2.2.2.2.1 p.2.2.Cells.length,.h s3.2.2.2.2.2.2.2.2.1 p.2.2.aM.length,.h s3.2.2.2.2.2.2.2.2.2.1 p.2.2.bL.length,.h s3.2.2.2.2.2.2.2.2.2.2 p.2.2.Log.length,I p.2.2.aN]]) Out.brk [4,5] (fun(p:(List Int)×aE) (_:Unit)=>[(6,.h s5 p.1.length)]) [12] (fun p _=>[ow s5 (p.1:List Int),ow s3.1 (p.2.aA.Mem.aC.Bytes:List Int),ow s3.2.1 (p.2.aA.Mem.aC.Class:List Int),ow s3.2.2.1 (p.2.aA.Mem.aB.Global:List aH),ow s3.2.2.2.1 (p.2.aA.Mem.aB.aX:List aH),ow s3.2.2.2.2.1 (p.2.aA.aD.aQ:List gR),ow s3.2.2.2.2.2.1 (p.2.aA.aJ:List aR),ow s3.2.2.2.2.2.2.1 (p.2.aA.dI:List Int),ow s3.2.2.2.2.2.2.2.1 (p.2.Cells:List Int),ow s3.2.2.2.2.2.2.2.2.1 (p.2.aM:List bJ),ow s3.2.2.2.2.2.2.2.2.2.1 (p.2.bL:List Queue),ow s3.2.2.2.2.2.2.2.2.2.2 (p.2.Log:List Ev),.box 1 [.h s3.1 p.2.aA.Mem.aC.Bytes.length,.h s3.2.1 p.2.aA.Mem.aC.Class.length,.h s3.2.2.1 p.2.aA.Mem.aB.Global.length,.h s3.2.2.2.1 p.2.aA.Mem.aB.aX.length,I p.2.aA.aD.aG,.h s3.2.2.2.2.1 p.2.aA.aD.aQ.length,.h s3.2.2.2.2.2.1 p.2.aA.aJ.length,.h s3.2.2.2.2.2.2.1 p.2.aA.dI.length,.h s3.2.2.2.2.2.2.2.1 p.2.Cells.length,.h s3.2.2.2.2.2.2.2.2.1 p.2.aM.length,.h s3.2.2.2.2.2.2.2.2.2.1 p.2.bL.length,.h s3.2.2.2.2.2.2.2.2.2.2 p.2.Log.length,I p.2.aN]]) Q Q (fun hF2 ⟨x11,x12,x13⟩ _ hr2=>bU [43] Q Q (c0 Q (fun h=>aCY (h.o 1 Q) (h.o 2 Q) (h.o 3 Q) (h.o 4 Q) (h.o 5 Q) (h.o 6 Q) (h.o 7 Q)) fun x28=>jR 0 2 (fun(p:Bool×aE)=>vZ x11 x12 x28 p.1 p.2) [4,5,6,7,8] (fun(p:Bool×aE) (_:Unit)=>[(55,.b p.1)]) [13,0] (fun p _=>[ow s3.1 (p.2.aA.Mem.aC.Bytes:List Int),ow s3.2.1 (p.2.aA.Mem.aC.Class:List Int),ow s3.2.2.1 (p.2.aA.Mem.aB.Global:List aH),ow s3.2.2.2.1 (p.2.aA.Mem.aB.aX:List aH),ow s3.2.2.2.2.1 (p.2.aA.aD.aQ:List gR),ow s3.2.2.2.2.2.1 (p.2.aA.aJ:List aR),ow s3.2.2.2.2.2.2.1 (p.2.aA.dI:List Int),ow s3.2.2.2.2.2.2.2.1 (p.2.Cells:List Int),ow s3.2.2.2.2.2.2.2.2.1 (p.2.aM:List bJ),ow s3.2.2.2.2.2.2.2.2.2.1 (p.2.bL:List Queue),ow s3.2.2.2.2.2.2.2.2.2.2 (p.2.Log:List Ev),.box 1 [.h s3.1 p.2.aA.Mem.aC.Bytes.length,.h s3.2.1 p.2.aA.Mem.aC.Class.length,.h s3.2.2.1 p.2.aA.Mem.aB.Global.length,.h s3.2.2.2.1 p.2.aA.Mem.aB.aX.length,I p.2.aA.aD.aG,.h s3.2.2.2.2.1 p.2.aA.aD.aQ.length,.h s3.2.2.2.2.2.1 p.2.aA.aJ.length,.h s3.2.2.2.2.2.2.1 p.2.aA.dI.length,.h s3.2.2.2.2.2.2.2.1 p.2.Cells.length,.h s3.2.2.2.2.2.2.2.2.1 p.2.aM.length,.h s3.2.2.2.2.2.2.2.2.2.1 p.2.bL.length,.h s3.2.2.2.2.2.2.2.2.2.2 p.2.Log.length,I p.2.aN]]) Q (eP [51,52] Q Q (cA (p:=(true,x13)) [1,2,3,4,5,6,7,8,9,10,11,12,13,0] Q Q)<|cA (p:=(decide (4 < x28),x13)) [1,2,3,4,5,6,7,8,9,10,11,12,13,0] Q Q) fun⟨x29,x30⟩ _=>bU [55] Q Q (IM hr2 hF2<|cN Q Q)<|v9 oI 13 Q Q Q fun x31 h6 _ h7=>fun hG2=>nP 2 h7 h6 Q Q Q Q Q<|nP 2 h7 h6 Q Q Q Q Q<|sF Q<|pI oI 14 [] [6,56,58] (aZ (x31+1)) () Q Q Q Q Q Q Q Q<|nxR () [17,0,1,2,3,4,5,6,7,8,9,10,11,12] hG2 Q)<|CK [0,1,2,3,4,5,6,7,8,9,10,11,12,13] Q) fun⟨x14,x15⟩ _=>ND () [4,5,6] (fun(p:Int×Int) (_:Unit)=>[(9,I p.1),(10,I p.2)]) [13,0,1,2,3,4,5,6,7,8,9,10,11,12] [13,0,1,2,3,4,5,6,7,8,9,10,11,12] (fun p _=>[]) id [4,5,6] (fun(p:Int×aE) (_:Unit)=>[(9,I p.1)]) [13,0] (fun p _=>[ow s3.1 (p.2.aA.Mem.aC.Bytes:List Int),ow s3.2.1 (p.2.aA.Mem.aC.Class:List Int),ow s3.2.2.1 (p.2.aA.Mem.aB.Global:List aH),ow s3.2.2.2.1 (p.2.aA.Mem.aB.aX:List aH),ow s3.2.2.2.2.1 (p.2.aA.aD.aQ:List gR),ow s3.2.2.2.2.2.1 (p.2.aA.aJ:List aR),ow s3.2.2.2.2.2.2.1 (p.2.aA.dI:List Int),ow s3.2.2.2.2.2.2.2.1 (p.2.Cells:List Int),ow s3.2.2.2.2.2.2.2.2.1 (p.2.aM:List bJ),ow s3.2.2.2.2.2.2.2.2.2.1 (p.2.bL:List Queue),ow s3.2.2.2.2.2.2.2.2.2.2 (p.2.Log:List Ev),.box 1 [.h s3.1 p.2.aA.Mem.aC.Bytes.length,.h s3.2.1 p.2.aA.Mem.aC.Class.length,.h s3.2.2.1 p.2.aA.Mem.aB.Global.length,.h s3.2.2.2.1 p.2.aA.Mem.aB.aX.length,I p.2.aA.aD.aG,.h s3.2.2.2.2.1 p.2.aA.aD.aQ.length,.h s3.2.2.2.2.2.1 p.2.aA.aJ.length,.h s3.2.2.2.2.2.2.1 p.2.aA.dI.length,.h s3.2.2.2.2.2.2.2.1 p.2.Cells.length,.h s3.2.2.2.2.2.2.2.2.1 p.2.aM.length,.h s3.2.2.2.2.2.2.2.2.2.1 p.2.bL.length,.h s3.2.2.2.2.2.2.2.2.2.2 p.2.Log.length,I p.2.aN]]) Q Q (fun hF3 ⟨x18,x19⟩ _ hr3=>bU [65] Q Q (c0 Q (fun h=>ZX (h.o 4 Q) (h.o 5 Q)) fun x27=>E9 [0,1,2,3,4,5,6,7,8,9,10,11,12,13] Q)<|CK [2,3,4,5,6,7,8,9,10,11,12,13,0,1] Q) fun⟨x20,x21⟩ _=>dK 0 2 pE [] 2 [] Q (nO aL [11] Q<|c0 Q (fun h=>KI (h.o 13 Q) (h.o 12 Q)) fun x23=>eP [78,79] Q Q (v9 oI 12 Q Q Q fun x24 h2 _ h3=>fun hF=>nP 2 h3 h2 Q Q Q Q Q<|wi hF<|eP [84,85,86] Q Q (fun hF=>PN oI 14 [] h2 () Q Q Q Q Q Q Q Q Q<|wi hF<|v9 oI 17 Q Q Q fun x25 h4 _ h5=>fun hF=>nP 3 h5 h4 Q Q Q Q Q<|bd hF fun x26 hA1 hF=>iG Q Q (have hq1:=rb hA1;wi hq1<|c1 Q (fun h=>OK (h.o 0 Q) (h.o 1 Q)) fun u1 s7=>fun hq1=>match u1,hq1 with | _,rfl=>sF Q<|oO oI 18 [] h4 () Q Q Q Q Q Q Q<|rW (p:=((x26.length:Int) == (aZ (24 - x25)))) () [] hF Q) (have hq2:=rb hA1;wi hq2<|c1 Q (fun h=>OK (h.o 0 Q) (h.o 1 Q)) fun u2 s8=>fun hq2=>match u2,hq2 with | _,rfl=>sF Q<|oO oI 18 [] h4 () Q Q Q Q Q Q Q<|rW (p:=((x26.length:Int) == (aZ (24 - x25)))) () [] hF Q))<|fun hF=>sF Q<|oO oI 14 [] h2 () Q Q Q Q Q Q Q<|rW (p:=(false)) () [] hF Q)<|cA (p:=(false)) [] Q Q) fun x22=>cN Q Q
end
end Go.Proofs.YtbdmodalljibjaaGreat
end
noncomputable section
set_option linter.unusedVariables false
set_option linter.unusedSimpArgs false
set_option linter.unusedSectionVars false
namespace Go.Gv
def d8(b:aA)(s:Int):Int:=if fV b.Mem s=3 then (if K6 b.aJ s then 3 else 4) else fV b.Mem s
theorem YI(m:Mem)(s:Int):0≤fV m s∧fV m s≤3:=by unfold fV;split <;> (try split) <;> (try split) <;> omega
theorem JY(b:aA)(s:Int):0≤d8 b s∧d8 b s≤4:=by
  have:=YI b.Mem s
  unfold d8;split <;> (try split) <;> omega
def iK(b:aA):Nat→List Int
  | 0=>List.replicate 5 0
  | k+1=>(iK b k).set (d8 b k).toNat ((iK b k).getD (d8 b k).toNat 0+1)
theorem O9(b:aA)(k:Nat):(iK b k).length=5:=by induction k with | zero=>rfl | succ k ih=>simp [iK,ih]
theorem PA(b:aA)(k:Nat):∀j,0≤(iK b k).getD j 0∧(iK b k).getD j 0≤k:=by
  induction k with
  | zero=>intro j;simp only [iK,List.getD_eq_getElem?_getD,List.getElem?_replicate];split <;> simp
  | succ k ih =>
    intro j
    have h1:=ih j
    have h2:=ih (d8 b k).toNat
    simp only [iK,List.getD_eq_getElem?_getD,List.getElem?_set] at h1 h2 ⊢
    split
    · split
      · simp only [Option.getD_some];omega
      · simp;omega
    · omega
noncomputable section
variable {b:aA} (hb:l7 b)
include hb
theorem SS(s:Int):ET b s=some (d8 b s):=by
  have hm:=hb.1.1
  obtain⟨h1,h2,h3,_⟩:=oM.facts hm
  unfold ET d8
  rw [KL hm.1.1.1 (by omega) (by simp only [maxLen];omega) (by simp only [maxLen];omega),Option.bind_some,KN hb.1.2.2.1]
  by_cases q:fV b.Mem s=3
  · by_cases r:K6 b.aJ s <;> simp [q,r]
  · simp [q]
theorem aAY(k:Nat):idx (iK b k) (d8 b k)=some ((iK b k).getD (d8 b k).toNat 0):=by
  have:=JY b k
  have hl:=O9 b k
  rw [eO this.1 (by omega)]
  simp [List.getD_eq_getElem?_getD,List.getElem?_eq_getElem (show(d8 b k).toNat < (iK b k).length by omega)]
theorem aGU:JW b=some (iK b 24):=by
  unfold JW
  rw [aO (by omega),EL (l7.fits hb),decide_eq_true hb,Option.bind_some]
  have:=f9 (f:=uX b) 24 (fun k=>(iK b k,(k:Int))) (iK b 24) (fun k hk=>by
    have hr:=PA b k (d8 b k).toNat
    simp only [uX]
    rw [if_pos (by simp;omega),SS hb,Option.bind_some,aAY hb,Option.bind_some,aK (x:=(k:Int)+1) (by omega) (by omega),aK (by omega) (by omega)];rfl) (by simp [uX])
  rw [show(List.replicate ((5:Int).toNat) (0:Int))=iK b 0 from rfl]
  have this':loop (uX b) (iK b 0,0)=_:=this
  simp only [Bool.not_true,Bool.false_eq_true,if_false,this'];rfl
end
end Go.Gv
end
noncomputable section
set_option linter.unusedVariables false
set_option linter.unusedSimpArgs false
set_option linter.unusedSectionVars false
namespace Go.Gv
def rS(p:Nat→Bool)(n:Nat):Nat:=((List.range n).filter p).length
theorem IK(p:Nat→Bool)(n:Nat):rS p (n+1)=rS p n+if p n then 1 else 0:=by
  unfold rS
  rw [List.range_succ,List.filter_append,List.length_append]
  cases h:p n <;> simp [List.filter,h]
theorem aGV{p q:Nat→Bool}{n:Nat}(h:∀i,i < n→p i=q i):rS p n=rS q n:=by
  unfold rS
  rw [List.filter_congr fun i hi=>h i (List.mem_range.1 hi)]
theorem aE3(p:Nat→Bool)(n:Nat):rS p n+rS (fun i=>!p i) n=n:=by
  induction n with
  | zero=>rfl
  | succ n ih=>rw [IK,IK];cases p n <;> simp <;> omega
theorem PB:∀{l m:List Int},l.Nodup→(∀x∈l,x∈m)→l.length≤m.length
  | [],_,_,_=>Nat.zero_le _
  | a :: t, m, hn, h => by
    rw [List.nodup_cons] at hn
    have ha:a∈m:=h a (List.mem_cons_self ..)
    have ih:=PB (l:=t) (m:=m.erase a) hn.2 (fun x hx=>(List.mem_erase_of_ne (fun e:x=a=>hn.1 (by rw [←e];exact hx))).2 (h x (List.mem_cons_of_mem _ hx)))
    have:=List.length_erase_of_mem ha
    have hp:=List.length_pos_of_mem ha
    simp only [List.length_cons];omega
theorem aAZ{p:Nat→Bool}{n:Nat}{l:List Int}(hn:l.Nodup)(hr:∀x∈l,0≤x∧x < (n:Int))(hp:∀i:Nat,i < n→(p i=true↔(i:Int)∈l)):rS p n=l.length:=by
  have e:rS p n=(((List.range n).filter p).map (fun i:Nat=>(i:Int))).length:=by simp [rS]
  have nd:(((List.range n).filter p).map (fun i:Nat=>(i:Int))).Nodup:=by
    rw [List.nodup_iff_pairwise_ne]
    refine List.Pairwise.map (R:=fun a b:Nat=>a≠b) _ (fun a b h=>by omega) ?_
    exact List.Pairwise.filter _ (List.nodup_iff_pairwise_ne.1 List.nodup_range)
  have a:=PB (m:=l) nd (fun x hx=>by
    obtain⟨i,hi,rfl⟩:=List.mem_map.1 hx
    obtain⟨h1,h2⟩:=List.mem_filter.1 hi
    exact(hp i (List.mem_range.1 h1)).1 h2)
  have b:=PB (l:=l) (m:=((List.range n).filter p).map (fun i:Nat=>(i:Int))) hn (fun x hx=>by
    have:=hr x hx
    refine List.mem_map.2 ⟨x.toNat,List.mem_filter.2 ⟨List.mem_range.2 (by omega),(hp _ (by omega)).2 (by rw [Int.toNat_of_nonneg this.1];exact hx)⟩,by omega⟩)
  omega
theorem aJJ(b:aA)(k:Nat):∀j:Nat,j < 5→(iK b k).getD j 0=(rS (fun i=>decide (d8 b i=(j:Int))) k:Int):=by
  induction k with
  | zero=>intro j hj;simp only [iK,rS,List.range_zero,List.filter_nil,List.length_nil,List.getD_eq_getElem?_getD,List.getElem?_replicate,if_pos hj];rfl
  | succ k ih =>
    intro j hj
    have hr:=JY b k
    have hl:=O9 b k
    rw [IK]
    simp only [iK,List.getD_eq_getElem?_getD,List.getElem?_set]
    have ihj:=ih j hj
    simp only [List.getD_eq_getElem?_getD] at ihj
    by_cases q:d8 b k=(j:Int)
    · have q':(d8 b k).toNat=j:=by omega
      rw [q',if_pos rfl,if_pos (by omega),decide_eq_true q,if_pos rfl,Option.getD_some,ihj];omega
    · rw [if_neg (by omega),decide_eq_false q,if_neg (by simp),ihj];omega
theorem aUG(b:aA)(k:Nat):rS (fun i=>decide (d8 b i=0)) k+rS (fun i=>decide (d8 b i=1)) k+rS (fun i=>decide (d8 b i=2)) k+rS (fun i=>decide (d8 b i=3)) k+rS (fun i=>decide (d8 b i=4)) k=k:=by
  induction k with
  | zero=>rfl
  | succ k ih =>
    simp only [IK]
    have hr:=JY b k
    have:d8 b k=0∨d8 b k=1∨d8 b k=2∨d8 b k=3∨d8 b k=4:=by omega
    rcases this with e | e | e | e | e <;> rw [e] <;> simp <;> omega
noncomputable section
variable {b:aA} (hb:l7 b)
include hb
theorem aNB(s:Int):K6 b.aJ s↔s∈(bE b.aJ).map iY:=by
  unfold K6 iY
  constructor
  · rintro⟨r,h1,_,h3⟩;exact List.mem_map.2 ⟨r,h1,h3⟩
  · intro h;obtain⟨r,h1,h2⟩:=List.mem_map.1 h;exact⟨r,h1,(hb.1.2.2.1.2.2.1 r h1).1,h2⟩
theorem aE4:rS (fun i=>decide (d8 b i=3)) 24=(bE b.aJ).length:=by
  have hL:=hb.1.2.2.1
  rw [aAZ (l:=(bE b.aJ).map iY) hL.2.2.2,List.length_map]
  · intro x hx
    obtain⟨r,h1,rfl⟩:=List.mem_map.1 hx
    have:=(hL.2.2.1 r h1).1
    unfold kA at this;unfold iY;omega
  · intro i hi
    rw [decide_eq_true_iff,←aNB hb]
    unfold d8
    have hrng:=YI b.Mem i
    by_cases q:fV b.Mem i=3
    · rw [if_pos q]
      by_cases r:K6 b.aJ i
      · simp [r]
      · simp [r]
    · rw [if_neg q]
      refine⟨fun h=>absurd h q,fun h=>?_⟩
      obtain⟨r,h1,h2,h3⟩:=h
      have:=(hb.2 r h1).1.2.1
      rw [h3] at this;exact this
theorem aGW:rS (fun i=>decide (d8 b i=1)) 24=(dC b.Mem.aB).length:=by
  have hm:=hb.1.1
  have hL:=hm.1.2
  refine aAZ (l:=dC b.Mem.aB) hL.2.2.2.2 (fun x hx=>by have:=hL.2.2.2.1 x hx;omega) fun i hi=>?_
  rw [decide_eq_true_iff]
  unfold d8 fV
  by_cases q1:aV b.Mem.aC i < 0
  · rw [if_pos q1]
    simp only [show ¬((0:Int)=3) by omega,if_false]
    refine⟨fun h=>by omega,fun h=>?_⟩
    have:=(hm.G6 h).1;omega
  · rw [if_neg q1]
    by_cases q2:(i:Int)∈dC b.Mem.aB
    · simp [q2]
    · simp only [if_neg q2]
      refine⟨fun h=>?_,fun h=>absurd h q2⟩
      split at h <;> split at h <;> (try omega)
      all_goals (split at h <;> omega)
theorem aGX:rS (fun i=>decide (d8 b i=0)) 24=rS (fun i=>decide (aV b.Mem.aC i < 0)) 24:=by
  refine aGV fun i _=>?_
  rw [Bool.eq_iff_iff,decide_eq_true_iff,decide_eq_true_iff]
  unfold d8 fV
  by_cases q1:aV b.Mem.aC i < 0
  · simp [q1]
  · simp only [if_neg q1]
    refine⟨fun h=>?_,fun h=>absurd h q1⟩
    exfalso
    split at h
    · split at h <;> omega
    · split at h
      · omega
      · split at h <;> omega
end
def ZY(l:List Int):Nat→Int
  | 0=>0
  | k+1=>ZY l k+l.getD k 0
theorem aPJ{l:List Int}(h:∀k,-1000≤l.getD k 0∧l.getD k 0≤1000)(k:Nat):-1000 * (k:Int)≤ZY l k∧ZY l k≤1000 * (k:Int):=by
  induction k with
  | zero=>simp [ZY]
  | succ k ih=>have:=h k;simp only [ZY];omega
theorem aR3{l:List Int}(hl:l.length≤1000)(h:∀k,-1000≤l.getD k 0∧l.getD k 0≤1000):M3 l=some (ZY l l.length):=by
  unfold M3
  have key:loop (BW l) (0,0)=some (ZY l l.length):=f9 (f:=BW l) l.length (fun k=>(ZY l k,(k:Int))) _ (fun k hk=>by
    have h1:=aPJ h k
    have h2:=h k
    have e:idx l (k:Int)=some (l.getD k 0):=by rw [aT hk,List.getD_eq_getElem?_getD,List.getElem?_eq_getElem hk];rfl
    simp only [BW]
    rw [if_pos (by simp;omega),e,Option.bind_some,aK (x:=ZY l k+l.getD k 0) (by omega) (by omega),aK (by omega) (by omega)];rfl) (by simp [BW])
  rw [key];rfl
def Q4(l:aB)(c:Nat):Nat:=(cL l.Global c).length+(cL l.aX c).length+(cL l.aX (3+c)).length+(cL l.aX (6+c)).length
theorem aTL{α:Type}{l:List α}(h:l.length=3):∃a b c,l=[a,b,c]:=by
  match l,h with
  | [a,b,c],_=>exact⟨a,b,c,rfl⟩
theorem aTM{α:Type}{l:List α}(h:l.length=9):∃a b c d e f g i j,l=[a,b,c,d,e,f,g,i,j]:=by
  match l,h with
  | [a,b,c,d,e,f,g,i,j],_=>exact⟨a,b,c,d,e,f,g,i,j,rfl⟩
theorem aNC{l:aB}(h3:l.Global.length=3)(h9:l.aX.length=9):Q4 l 0+Q4 l 1+Q4 l 2=(dC l).length:=by
  obtain⟨a,b,c,e⟩:=aTL h3
  obtain⟨a1,a2,a3,a4,a5,a6,a7,a8,a9,e'⟩:=aTM h9
  unfold Q4 dC cK cL
  rw [e,e']
  simp
  omega
theorem NL{m:Mem}(hm:oM m){c:Nat}(hc:c < 3):FX m.aB (c:Int)=some (Q4 m.aB c:Int):=by
  obtain⟨hcnt,h3,h9,h1,h2,hsm,hcp,hlo,hsG,hsO⟩:=oM.facts hm
  have gx:∀k:Nat,k < 3→idx m.aB.Global (k:Int)=some ⟨cL m.aB.Global k⟩:=fun k hk=>by rw [aT (by omega),←cV (by omega)]
  have ox:∀k:Nat,k < 9→idx m.aB.aX (k:Int)=some ⟨cL m.aB.aX k⟩:=fun k hk=>by rw [aT (by omega),←cV (by omega)]
  have gl:∀k,k < 3→(cL m.aB.Global k).length≤24:=fun k hk=>by have:=hsG _ (List.getElem_mem (show k < m.aB.Global.length by omega));rw [cV (by omega)] at this;exact this
  have ol:∀k,k < 9→(cL m.aB.aX k).length≤24:=fun k hk=>by have:=hsO _ (List.getElem_mem (show k < m.aB.aX.length by omega));rw [cV (by omega)] at this;omega
  unfold FX zF
  rw [hlo,Option.bind_some,if_neg (by simp),gA,decide_eq_true (show 0≤(c:Int)∧(c:Int)≤2 by omega),Option.bind_some,if_neg (by simp),gx c hc,Option.bind_some]
  have st:∀(k:Nat) (a:Nat),k < 3→a≤1000→zE m.aB (c:Int) ((a:Int),(k:Int))=some (.next (((a+(cL m.aB.aX (k * 3+c)).length:Nat):Int),((k+1:Nat):Int))):=fun k a hk ha=>by
    have:=ol (k * 3+c) (by omega)
    simp only [zE]
    rw [if_pos (by simp;omega),(EN (w:=(k:Int)) (c:=(c:Int)) (by omega) (by omega)).2,Option.bind_some,show(k:Int) * 3+(c:Int)=((k * 3+c:Nat):Int) by omega,ox _ (by omega),Option.bind_some,aK (x:=(a:Int)+((⟨cL m.aB.aX (k * 3+c)⟩:aH).aP.length:Int)) (by (try simp only);omega) (by (try simp only);omega),aK (by omega) (by omega)]
    simp
  have a0:=gl c hc
  have a1:=ol c (by omega)
  have a2:=ol (3+c) (by omega)
  have s0:=st 0 _ (by omega) (show(cL m.aB.Global c).length≤1000 by omega)
  rw [show 0 * 3+c=c by omega] at s0
  have s1:=st 1 _ (by omega) (show(cL m.aB.Global c).length+(cL m.aB.aX c).length≤1000 by omega)
  rw [show 1 * 3+c=3+c by omega] at s1
  have s2:=st 2 _ (by omega) (show(cL m.aB.Global c).length+(cL m.aB.aX c).length+(cL m.aB.aX (3+c)).length≤1000 by omega)
  rw [show 2 * 3+c=6+c by omega] at s2
  rw [show(((cL m.aB.Global c).length:Int),(0:Int))=(((cL m.aB.Global c).length:Int),((0:Nat):Int)) from rfl,bM s0,bM s1,bM s2,bT (r:=(Q4 m.aB c:Int)) (by simp [zE,Q4])]
  rfl
def KY(h:aC):Nat→List Int
  | 0=>[]
  | k+1=>if 0≤aV h k then KY h k ++ [(k:Int)] else KY h k
theorem aA0(h:aC)(k:Nat):(KY h k).length=rS (fun i=>!decide (aV h i < 0)) k:=by
  induction k with
  | zero=>rfl
  | succ k ih =>
    rw [IK,←ih]
    show(if 0≤aV h k then KY h k ++ [(k:Int)] else KY h k).length=_
    by_cases q:0≤aV h k
    · rw [if_pos q,decide_eq_false (by omega)];simp
    · rw [if_neg q,decide_eq_true (by omega)];simp
theorem aND(h:aC)(k:Nat):(KY h k).length≤k:=by
  rw [aA0]
  have:=aE3 (fun i=>!decide (aV h i < 0)) k
  omega
theorem aJK{h:aC}(hs:d7 h):FY h=some (KY h 24):=by
  unfold FY
  have key:loop (rR h) ([],0)=some (KY h 24):=f9 (f:=rR h) 24 (fun k=>(KY h k,(k:Int))) _ (fun k hk=>by
    have:=aND h k
    have ew:aZ ((k:Int)+1)=((k+1:Nat):Int):=by rw [aK (by omega) (by omega)];rfl
    simp only [rR,zH,zG]
    rw [if_pos (by simp;omega),rN (by rw [hs.1];simp [maxLen]),decide_eq_true hs,Option.bind_some,if_pos rfl,hU hs,Option.bind_some,ew]
    have e:KY h (k+1)=if 0≤aV h k then KY h k ++ [(k:Int)] else KY h k:=rfl
    rw [e]
    by_cases q:0≤aV h k
    · rw [if_pos (by simpa using q),aO (by simp;omega),if_pos q]
    · rw [if_neg (by simpa using q),if_neg q]) (by simp [rR])
  rw [key];rfl
theorem aE5{code:List UInt8}(_:fit code):JX code=some true:=by
  unfold JX LX
  rw [Option.bind_some]
  by_cases hcl:1048576 < (code.length:Int)
  · rw [if_pos (by simpa using hcl)]
  rw [if_neg (by simpa using hcl)]
  obtain⟨x,ex,hT,hp⟩:=XU (code:=code) (by omega)
  rw [ex,Option.bind_some,aEJ hT,Option.bind_some]
  by_cases ht:EZ x.bL
  rotate_left
  · rw [decide_eq_false ht];rfl
  rw [decide_eq_true ht,if_neg (by simp)]
  obtain⟨s,es,hs,_,hl⟩:=aQB hT hp (fun _=>True) (fun _ _ _=>trivial) (fun _ _ _ _ _=>trivial) ht
  have hb:=hs.1
  have hm:=hb.1.1
  obtain⟨hcnt,h3,h9,_⟩:=oM.facts hm
  generalize hB:s.aA=b at *
  have tl:=O9 b 24
  have tr:=PA b 24
  have tc:=aJJ b 24
  have t0:(iK b 24).getD 0 0=(rS (fun i=>decide (d8 b i=0)) 24:Int):=tc 0 (by omega)
  have t1:(iK b 24).getD 1 0=(rS (fun i=>decide (d8 b i=1)) 24:Int):=tc 1 (by omega)
  have t2:(iK b 24).getD 2 0=(rS (fun i=>decide (d8 b i=2)) 24:Int):=tc 2 (by omega)
  have t3:(iK b 24).getD 3 0=(rS (fun i=>decide (d8 b i=3)) 24:Int):=tc 3 (by omega)
  have t4:(iK b 24).getD 4 0=(rS (fun i=>decide (d8 b i=4)) 24:Int):=tc 4 (by omega)
  have c5:=aUG b 24
  have cl:=aE4 hb
  have cf:=aGW hb
  have cn:=aGX hb
  have hcv:=aA0 b.Mem.aC 24
  have hnot:=aE3 (fun i=>decide (aV b.Mem.aC i < 0)) 24
  have hti:=aGU hb
  clear tc
  generalize rS (fun i=>decide (d8 b i=0)) 24=n0 at *
  generalize rS (fun i=>decide (d8 b i=1)) 24=n1 at *
  generalize rS (fun i=>decide (d8 b i=2)) 24=n2 at *
  generalize rS (fun i=>decide (d8 b i=3)) 24=n3 at *
  generalize rS (fun i=>decide (d8 b i=4)) 24=n4 at *
  generalize hnn:rS (fun i=>decide (aV b.Mem.aC i < 0)) 24=nn at *
  generalize hmm:rS (fun i=>!decide (aV b.Mem.aC i < 0)) 24=mm at *
  generalize hTT:iK b 24=T at *
  clear hnn hmm
  rw [es,Option.bind_some,hB,hti,Option.bind_some,tl]
  rw [if_neg (by simp)]
  have hsum:M3 (T)=some 24:=by
    rw [aR3 (by omega) (fun k=>by have:=tr k;omega),tl]
    have e5:ZY T 5=0+T.getD 0 0+T.getD 1 0+T.getD 2 0+T.getD 3 0+T.getD 4 0:=rfl
    rw [e5,t0,t1,t2,t3,t4]
    have e24:(0:Int)+n0+n1+n2+n3+n4=24:=by omega
    rw [e24]
  have hx:∀k:Nat,k < 5→idx (T) (k:Int)=some ((T).getD k 0):=fun k hk=>by rw [aT (by omega),List.getD_eq_getElem?_getD,List.getElem?_eq_getElem (by omega)];rfl
  have x3:idx (T) 3=some ((bE b.aJ).length:Int):=by
    have:=hx 3 (by omega)
    rw [t3] at this
    rw [←cl];exact this
  have x1:idx (T) 1=some ((dC b.Mem.aB).length:Int):=by
    have:=hx 1 (by omega)
    rw [t1] at this
    rw [←cf];exact this
  have x0:idx (T) 0=some (nn:Int):=by
    have:=hx 0 (by omega)
    rw [t0] at this
    rw [←cn];exact this
  have hlim:=hb.1.2.2.1
  rw [hsum,Option.bind_some,if_neg (by simp),x3,Option.bind_some,FT (by have:=hlim.1;omega) (by have:=hlim.2.1;omega),Option.bind_some]
  simp only [pH,CF,bne_self_eq_false,Bool.false_eq_true,if_false]
  rw [aO (by omega)]
  have k1:loop (lT) (iK b 0,0,s)=some (Out.brk (T,s)):=by
   rw [←hTT]
   exact f9 (f:=lT) 24 (fun k=>(iK b k,(k:Int),s)) _ (fun k hk=>by
    have hr:=PA b k (d8 b k).toNat
    have hw:=JY b k
    have hsb:qZ s.aA=some true:=by rw [hB,EL (l7.fits hb),decide_eq_true hb]
    simp only [lT,vZ,O8]
    rw [if_pos (by simp;omega),hsb,Option.bind_some,if_neg (by simp),hB,SS hb,Option.bind_some,Option.bind_some,if_neg (by simp;omega),if_neg (by simp;omega),aAY hb,Option.bind_some,aK (by omega) (by omega),aK (by omega) (by omega)];rfl) (by simp [lT])
  have k1':loop (lT) (List.replicate ((5:Int).toNat) 0,0,s)=some (Out.brk (T,s)):=k1
  rw [k1',Option.bind_some]
  have f0:=NL hm (c:=0) (by omega);have f1:=NL hm (c:=1) (by omega);have f2:=NL hm (c:=2) (by omega)
  have fs:=aNC (l:=b.Mem.aB) h3 h9
  have k2:loop (pG s) (0,0)=some (((dC b.Mem.aB).length:Int),s):=by
    have st:∀(k a:Nat),k < 3→a≤1000→Q4 b.Mem.aB k≤1000→pG s ((a:Int),(k:Int))=some (.next (((a+Q4 b.Mem.aB k:Nat):Int),((k+1:Nat):Int))):=fun k a hk ha hf=>by
      simp only [pG]
      rw [if_pos (by simp;omega),hB,NL hm hk,Option.bind_some,aK (by omega) (by omega),aK (by omega) (by omega)];simp
    rw [show((0:Int),(0:Int))=(((0:Nat):Int),((0:Nat):Int)) from rfl,bM (st 0 0 (by omega) (by omega) (by omega)),bM (st 1 _ (by omega) (by omega) (by omega)),bM (st 2 _ (by omega) (by omega) (by omega)),bT (r:=(((dC b.Mem.aB).length:Int),s))]
    simp only [pG]
    rw [if_neg (by simp),←fs];simp
  simp only [KX,KW,k2,Option.bind_some,KV,KU,OH (show(T).length≤1000000000 by omega),if_true,x1,beq_self_eq_true,x0,hB,aJK hm.1.1.1,pE]
  have em:(mm:Int)=24 - nn:=by omega
  rw [hcv,aK (by omega) (by omega),em]
  simp
end Go.Gv
end
