import Derived.Test.YtmaknhppafajdaaGreatXLF
set_option linter.unusedVariables false
set_option linter.unusedSimpArgs false
set_option linter.unusedSectionVars false
set_option linter.constructorNameAsVariable false
set_option linter.unnecessarySimpa false
noncomputable section
namespace Go.Gv
noncomputable section
def vK(x2:aB):Option aB:=
  some x2
def vL(w_:Int)(x3:Bool)(x4:aB):Option aB:=
  (if x3 then (l4 x4 w_).bind fun x5=>vK x5 else vK x4)
def rS(s:aB)(w_:Int):Option aB:=
  (qT s).bind fun x1=>(pC s).bind fun x6=>(if x6 then (fF w_).bind fun x7=>vL w_ x7 x1 else vL w_ false x1)
def pP(x5:Bool):Option Bool:=
  some x5
def pQ(x6:Bool):Option Bool:=
  some x6
def vM(x1:bD)(x3 x4:Bool):Option Bool:=
  (if x4 then some false else (if x1.Op.Kind == 2 then (if x3 then (if x1.Pc == 2 then pP true else pP (x1.Pc == 3)) else pP false) else (if x1.Op.Kind == 7 then (if x3 then (if x1.Pc == 1 then pQ true else pQ (x1.Pc == 2)) else pQ false) else (if x1.Op.Kind == 3 then some (x1.Pc == 3) else some false))))
def vN(x1:bD)(x3:Bool):Option Bool:=
  (if !x1.cY then vM x1 x3 true else vM x1 x3 (x1.H == 0))
def EY(s:aB)(w_:Int):Option Bool:=
  (idx s.aT w_).bind fun x1=>(idx s.aA.aC.cK w_).bind fun x2=>(if x2.On then vN x1 (!x2.dJ) else vN x1 false)
def EZ(x9:List Int):Option (List Int):=
  some x9
def T6(x:Int)(x7:List Int)(x8:Bool):Option (List Int):=
  (if !x8 then need (x7.length+([x]).length≤1073741824) (EZ (x7++([x]))) else EZ x7)
def K5(l:List Int)(x6:Int)(x11:List Int)(x12:Bool):Option (Step ((List Int)×Bool×Int) (Out ((List Int)×Bool) (List Int))):=
  (idx l x6).bind fun x13=>need (x11.length+([x13]).length≤1073741824) (some (.next (x11++([x13]),x12,aY (x6+1))))
def K6(l:List Int)(x:Int)(x4:List Int)(x5:Bool)(x6:Int)(x14:Bool):Option (Step ((List Int)×Bool×Int) (Out ((List Int)×Bool) (List Int))):=
  (if x14 then need (x4.length+([x]).length≤1073741824) (K5 l x6 (x4++([x])) true) else K5 l x6 x4 x5)
def T7(l:List Int)(x:Int):((List Int)×Bool×Int)→Option (Step ((List Int)×Bool×Int) (Out ((List Int)×Bool) (List Int)))
  | (x4,x5,x6)=>(if decide (x6 < (l.length:Int)) then (idx l x6).bind fun x10=>(if x10 == x then some (.stop (Out.ret l)) else (if !x5 then K6 l x x4 x5 x6 (decide (x < x10)) else K6 l x x4 x5 x6 false)) else some (.stop (Out.brk (x4,x5))))
def T9(x:Int):(Out ((List Int)×Bool) (List Int))→Option (List Int)
  | .brk (x7,x8)=>T6 x x7 x8
  | .ret r=>some r
def MM(l:List Int)(x:Int):Option (List Int):=
  (loop (T7 l x) (([]:List Int),false,0)).bind (T9 x)
def aCP(x6:List Int):Option (List Int):=
  some x6
def oV(x5:Int)(x8:List Int):Option (Step ((List Int)×Int) (List Int)):=
  some (.next (x8,aY (x5+1)))
def l9(s:aB)(x4:List Int)(x5:Int)(x7:Bool):Option (Step ((List Int)×Int) (List Int)):=
  (if x7 then (EY s x5).bind fun x9=>(if x9 then (idx s.aT x5).bind fun x10=>(MM x4 x10.H).bind fun x11=>oV x5 x11 else oV x5 x4) else some (.stop (x4)))
def t7(s:aB)(x1:Bool):((List Int)×Int)→Option (Step ((List Int)×Int) (List Int))
  | (x4,x5)=>(if decide (x5 < 3) then l9 s x4 x5 x1 else l9 s x4 x5 false)
def aCQ:(List Int)→Option (List Int)
  | x6=>aCP x6
def yN(s:aB):Option (List Int):=
  (sL s).bind fun x1=>(loop (t7 s x1) (([]:List Int),0)).bind (aCQ)
def RN(s:aB):Option Bool:=
  (sL s).bind fun x4=>some x4
def H7(s:aB)(x1:(List Int)):Int→Option (Step Int (Out Unit Bool))
  | x3=>(if decide (x3 < (x1.length:Int)) then (idx x1 x3).bind fun x5=>(sK s.aA.Mem x5).bind fun x6=>(if !x6 then some (.stop (Out.ret false)) else some (.next (aY (x3+1)))) else some (.stop (Out.brk ())))
def RO(s:aB):(Out Unit Bool)→Option Bool
  | .brk ()=>RN s
  | .ret r=>some r
def JO(s:aB):Option Bool:=
  (yN s).bind fun x1=>(loop (H7 s x1) 0).bind (RO s)
def nA(x25:Bool):Option Bool:=
  some x25
def nC(code:List UInt8)(x21:Bool)(x22:aB):Option Bool:=
  (if x21 then some false else (iP x22).bind fun x23=>(vT x23).bind fun x24=>(if decide (0 < (x24.length:Int)) then (idx x24 (aY ((x24.length:Int) - 1))).bind fun x26=>(if x26.Code == 0 then (nN code 0).bind fun x27=>(if x26.dK == x27 then (KC x23 2).bind fun x28=>(nF x28.aA.aM).bind fun x29=>nA (x29 == 0) else nA false) else nA false) else nA false))
def PA(code:List UInt8)(x20:aB):Option Bool:=
  (if (x20.aZ.length:Int) != 3 then nC code true x20 else (idx x20.aZ 0).bind fun x32=>(if (x32.fM.length:Int) != 0 then nC code true x20 else (nF x20.aA.aM).bind fun x33=>(if x33 != 1 then nC code true x20 else (JO x20).bind fun x34=>nC code (!x34) x20)))
def yO:(Int×aB)→Option (Step (Int×aB) aB)
  | (x18,x19)=>(if decide (x18 < 120) then (rS x19 0).bind fun x35=>some (.next (aY (x18+1),x35)) else some (.stop (x19)))
def PB(code:List UInt8):aB→Option Bool
  | x20=>PA code x20
def nD(code:List UInt8)(x12:Bool)(x13:aB):Option Bool:=
  (if x12 then some false else (nN code 1).bind fun x14=>(idx x13.aZ 0).bind fun x15=>(loop (yO) (0,({x13 with aZ:=x13.aZ.set ((0:Int).toNat) (⟨([(⟨1,0,8,x14⟩:bK),(⟨4,0,0,0⟩:bK),(⟨4,0,0,0⟩:bK),(⟨4,0,0,0⟩:bK),(⟨4,0,0,0⟩:bK)]:List bK)⟩:Queue)}:aB))).bind (PB code))
def PC(code:List UInt8)(x11:aB):Option Bool:=
  (if (x11.aT.length:Int) != 3 then nD code true x11 else (if (x11.aZ.length:Int) != 3 then nD code true x11 else (idx x11.aT 1).bind fun x36=>(if x36.Pc != 3 then nD code true x11 else (yN x11).bind fun x37=>nD code ((x37.length:Int) != 1) x11)))
def yP:(Int×aB)→Option (Step (Int×aB) aB)
  | (x9,x10)=>(if decide (x9 < 4) then (rS x10 1).bind fun x38=>some (.next (aY (x9+1),x38)) else some (.stop (x10)))
def PD(code:List UInt8):aB→Option Bool
  | x11=>PC code x11
def NV(code:List UInt8):Option Bool:=
  (vS code).bind fun x1=>(if x1 then some true else need (0≤(3:Int)∧(3:Int)≤4294967296) ((nN code 0).bind fun x2=>(idx (List.replicate ((3:Int).toNat) (⟨[]⟩:Queue)) 0).bind fun x3=>(pW ((List.replicate ((3:Int).toNat) (⟨[]⟩:Queue)).set ((0:Int).toNat) (⟨[(⟨1,0,8,x2⟩:bK)]⟩:Queue))).bind fun x4=>(iP x4).bind fun x5=>(if (x5.aZ.length:Int) != 3 then some false else (idx x5.aZ 1).bind fun x6=>(loop (yP) (0,({x5 with aZ:=x5.aZ.set ((1:Int).toNat) (⟨[(⟨3,0,0,0⟩:bK)]⟩:Queue)}:aB))).bind (PD code))))
end
end Go.Gv
end
noncomputable section
set_option maxHeartbeats 4000000
set_option maxRecDepth 100000
namespace Go.Proofs.YtmaknhppafajdaaGreat
open Go.Gv
noncomputable section
variable {κ:Ctx}
theorem PE{s:aB}{w_:Int}{s1 s2 s3 s4 s5 s6 s7 s8 s9 s10 s11:AC}(h1:bL κ s1 s.aA.Mem.aE.Bytes)(h2:bL κ s2 s.aA.Mem.aE.Class)(h3:bL κ s3 s.aA.Mem.aD.Global)(h4:bL κ s4 s.aA.Mem.aD.cT)(h5:bL κ s5 s.aA.aC.cK)(h6:bL κ s6 s.aA.aM)(h7:bL κ s7 s.aA.mP)(h8:bL κ s8 s.Cells)(h9:bL κ s9 s.aT)(h10:bL κ s10 s.aZ)(h11:bL κ s11 s.Log):VS Tryz.prog κ 19 (rS s w_) [.g (gS s s1 s2 s3 s4 s5 s6 s7 s8 s9 s10 s11),I w_] [] [] (fun r (y:aBK)=>.g (yS r y)) (fun r y=>(zS r y [])):=
 dW tok Tryz.call19 Tryz.func19 Tryz.results19 Q Q<|c1 Q (fun h=>FL (h.a h1) (h.a h2) (h.a h3) (h.a h4) (h.a h5) (h.a h6) (h.a h7) (h.a h8) (h.a h9) (h.a h10) (h.a h11)) fun x1 s12=>iT 1 3 vK [4,5] (fun(x2:aB) (u:A8C)=>[]) [1] (fun x2 u=>(oS x2 u.1 u.2.1 u.2.2.1 u.2.2.2.1 u.2.2.2.2.1 u.2.2.2.2.2.1 u.2.2.2.2.2.2.1 s12.2.2.2.2.2.2.2.1 s12.2.2.2.2.2.2.2.2.1 s12.2.2.2.2.2.2.2.2.2.1 u.2.2.2.2.2.2.2 [.box 2 (gS x2 u.1 u.2.1 u.2.2.1 u.2.2.2.1 u.2.2.2.2.1 u.2.2.2.2.2.1 u.2.2.2.2.2.2.1 s12.2.2.2.2.2.2.2.1 s12.2.2.2.2.2.2.2.2.1 s12.2.2.2.2.2.2.2.2.2.1 u.2.2.2.2.2.2.2)])) Q (iT 0 3 (fun(p:Bool×aB)=>vL w_ p.1 p.2) [1,4,5] (fun(p:Bool×aB) (_:Unit)=>[(13,.b p.1)]) [1] (fun p _=>(zS p.2 s12 [.box 2 (yS p.2 s12)])) Q (c0 Q (fun h=>ED (h.a h1) (h.a h2) (h.a h3) (h.a h4) (h.a h5) (h.a h6) (h.a h7) (h.a h8) (h.a h9) (h.a h10) (h.a h11)) fun x6=>eP [9,10] Q Q (c0 Q (fun _=>fQ) fun x7=>cQ (p:=(x7,x1)) [2,3,4,5,6,7,8,9,10,11,12,13,1] Q Q)<|cQ (p:=(false,x1)) [2,3,4,5,6,7,8,9,10,11,12,13,1] Q Q) fun⟨x3,x4⟩ _=>b8 [13] Q Q (d6 11 2 0 13 [0,1,2,3,4,5,6,7,8,9,10] Q Q Q Q Q (fun _=>EG) fun x5 s21=>pR s21 [13,14,15,16,17,18,19,20,21,22,23,11,12] Q Q)<|pR (s12.1,s12.2.1,s12.2.2.1,s12.2.2.2.1,s12.2.2.2.2.1,s12.2.2.2.2.2.1,s12.2.2.2.2.2.2.1,s12.2.2.2.2.2.2.2.2.2.2) [0,1,2,3,4,5,6,7,8,9,10,11,12] Q Q) fun x2 ⟨s13,s14,s15,s16,s17,s18,s19,s20⟩=>nP (s13,s14,s15,s16,s17,s18,s19,s12.2.2.2.2.2.2.2.1,s12.2.2.2.2.2.2.2.2.1,s12.2.2.2.2.2.2.2.2.2.1,s20) [0,1,2,3,4,5,6,7,8,9,10] Q Q
theorem aG2{b:List Int}{s1:AC}(h1:bL κ s1 b):V0 Tryz.prog κ 249 (I5 b) [.h s1 b.length] .b:=
 dW tok Tryz.call249 Tryz.func249 Tryz.results249 Q Q<|PG 3 [0] [] Out.brk [0] [] Q Q (fun hF1 x2 hr1=>b8 [7] Q Q (VA Q h1 Q fun x3=>c0 Q (fun _=>dL) fun x4=>b8 [15] Q Q (MT hr1 hF1<|dE Q Q)<|J4 [] Q)<|FW [] Q)<|dE Q Q
theorem aG3{h:aE}{s1 s2:AC}(h1:bL κ s1 h.Bytes)(h2:bL κ s2 h.Class):V0 Tryz.prog κ 165 (I6 h) [.g [.h s1 h.Bytes.length,.h s2 h.Class.length]] .b:=
 dW tok Tryz.call165 Tryz.func165 Tryz.results165 Q Q<|d5 0 1 (tM h) [1] 19 [0] Q (eP [7,8] Q Q (cQ [0] Q Q)<|eP [12,13,14] Q Q (cQ [0] Q Q)<|c0 Q (fun h=>aG2 (h.a h1)) fun x6=>cQ [0] Q Q) fun x1=>b8 [19] Q Q (dE Q Q)<|PG 3 [1] [0] Out.brk [] [] Q Q (fun hF2 x3 hr2=>b8 [21] Q Q (VA Q h2 Q fun x4=>c0 Q (fun _=>dL) fun x5=>b8 [30] Q Q (MT hr2 hF2<|dE Q Q)<|J4 [0] Q)<|FW [] Q)<|dE Q Q
theorem V6{b:List Int}{at_ width:Int}{s1:AC}(h1:bL κ s1 b):V0 Tryz.prog κ 225 (wH b at_ width) [.h s1 b.length,I at_,I width] I:=
 dW tok Tryz.call225 Tryz.func225 Tryz.results225 Q Q<|QX () [0,1,2] (fun(p:Int×Int) (_:Unit)=>[(7,I p.1),(8,I p.2)]) [] [] (fun p _=>[]) id [] (fun(x5:Int) (_:Unit)=>[(7,I x5)]) [] (fun x5 _=>[]) Q Q (fun hF1 ⟨x3,x4⟩ _ hr1=>b8 [11] Q Q (VA Q h1 Q fun x6=>J4 [] Q)<|FW [] Q) fun x5 _=>dE Q Q
theorem aIP{c:Int}:V0 Tryz.prog κ 323 (pI c) [I c] I:=
 dW tok Tryz.call323 Tryz.func323 Tryz.results323 Q Q<|b8 [4,5] Q Q (dE Q Q)<|b8 [6,7] Q Q (dE Q Q)<|b8 [8,9] Q Q (dE Q Q)<|dE Q Q
theorem RP{c:Int}:V0 Tryz.prog κ 302 (z6 c) [I c] I:=
 dW tok Tryz.call302 Tryz.func302 Tryz.results302 Q Q<|c0 Q (fun _=>dL) fun x1=>b8 [5] Q Q (dE Q Q)<|c0 Q (fun _=>aIP) fun x2=>dE Q Q
theorem E0{c:Int}:V0 Tryz.prog κ 250 (mN c) [I c] I:=
 dW tok Tryz.call250 Tryz.func250 Tryz.results250 Q Q<|c0 Q (fun _=>dL) fun x1=>b8 [5] Q Q (dE Q Q)<|c0 Q (fun _=>RP) fun x2=>fun hF=>a5U Q Q Q Q hF fun hF=>wi hF<|dE Q Q
theorem NW{slot:Int}:V0 Tryz.prog κ 252 (CJ slot) [I slot] I:=
 dW tok Tryz.call252 Tryz.func252 Tryz.results252 Q Q<|c0 Q (fun _=>dL) fun x1=>b8 [5] Q Q (dE Q Q)<|dE Q Q
theorem K7{slot:Int}:V0 Tryz.prog κ 253 (xX slot) [I slot] I:=
 dW tok Tryz.call253 Tryz.func253 Tryz.results253 Q Q<|c0 Q (fun _=>dL) fun x1=>b8 [5] Q Q (dE Q Q)<|dE Q Q
theorem YS{slot c:Int}:V0 Tryz.prog κ 226 (wI slot c) [I slot,I c] I:=
 dW tok Tryz.call226 Tryz.func226 Tryz.results226 Q Q<|d5 0 0 (GG slot c) [0,1] 16 [] Q (c0 Q (fun _=>NW) fun x5=>eP [7,8] Q Q (cQ [] Q Q)<|c0 Q (fun _=>K7) fun x6=>c0 Q (fun _=>E0) fun x7=>c0 Q (fun _=>dL) fun x8=>cQ [] Q Q) fun x1=>b8 [16] Q Q (dE Q Q)<|c0 Q (fun _=>NW) fun x2=>c0 Q (fun _=>K7) fun x3=>c0 Q (fun _=>RP) fun x4=>dE Q Q
theorem aIQ{page index:Int}:V0 Tryz.prog κ 251 (rV page index) [I page,I index] I:=
 dW tok Tryz.call251 Tryz.func251 Tryz.results251 Q Q<|d5 0 0 (wJ page index) [0,1] 12 [] Q (c0 Q (fun _=>dL) fun x2=>eP [7,8] Q Q (cQ [] Q Q)<|c0 Q (fun _=>dL) fun x3=>cQ [] Q Q) fun x1=>b8 [12] Q Q (dE Q Q)<|dE Q Q
theorem aIR{h:aE}{p:Int}{s1 s2:AC}(h1:bL κ s1 h.Bytes)(h2:bL κ s2 h.Class):V0 Tryz.prog κ 166 (L5 h p) [.g [.h s1 h.Bytes.length,.h s2 h.Class.length],I p] .b:=
 dW tok Tryz.call166 Tryz.func166 Tryz.results166 Q Q<|VA Q h2 Q fun x1=>b8 [18] Q Q (PG 7 [2,5] [0] Out.brk [] [] Q Q (fun hF1 x3 hr1=>b8 [23] Q Q (VA Q h1 Q fun x4=>b8 [31] Q Q (MT hr1 hF1<|dE Q Q)<|J4 [0] Q)<|FW [] Q)<|dE Q Q)<|d5 0 2 (lC h p x1) [1,2,5,6] 58 [0] Q (nZ aO [0,1] Q<|VA Q h1 Q fun x16=>eP [37,38] Q Q (cQ [0] Q Q)<|VA Q h1 Q fun x17=>eP [46,47,48] Q Q (cQ [0] Q Q)<|VA Q h1 Q fun x18=>c0 Q (fun _=>E0) fun x19=>cQ [0] Q Q) fun x5=>b8 [58] Q Q (dE Q Q)<|PG 8 [1,2,5,6] [0] Out.brk [1,2,6] [0] Q Q (fun hF3 x7 hr3=>b8 [64] Q Q (VA Q h1 Q fun x15=>b8 [72] Q Q (MT hr3 hF3<|dE Q Q)<|J4 [0] Q)<|FW [0] Q)<|PG 9 [1,2,6] [0] Out.brk [] [] Q Q (fun hF4 x9 hr4=>c0 Q (fun _=>E0) fun x10=>b8 [76] Q Q (nZ aO [0] Q<|c0 Q (fun _=>aIQ) fun x11=>c0 Q (fun _=>YS) fun x12=>c0 Q (fun h=>V6 (h.a h1)) fun x13=>c0 Q (fun _=>dL) fun x14=>b8 [88] Q Q (MT hr4 hF4<|dE Q Q)<|J4 [0] Q)<|FW [] Q)<|dE Q Q
theorem aIS{h:aE}{s1 s2:AC}(h1:bL κ s1 h.Bytes)(h2:bL κ s2 h.Class):V0 Tryz.prog κ 78 (L6 h) [.g [.h s1 h.Bytes.length,.h s2 h.Class.length]] .b:=
 dW tok Tryz.call78 Tryz.func78 Tryz.results78 Q Q<|c0 Q (fun h=>aG3 (h.a h1) (h.a h2)) fun x1=>b8 [6] Q Q (dE Q Q)<|PG 3 [1] [0] Out.brk [] [] Q Q (fun hF1 x3 hr1=>b8 [8] Q Q (c0 Q (fun h=>aIR (h.a h1) (h.a h2)) fun x4=>b8 [14] Q Q (MT hr1 hF1<|dE Q Q)<|J4 [0] Q)<|FW [] Q)<|dE Q Q
theorem QK{l:List Int}{x:Int}{s1:AC}(h1:bL κ s1 l):V0 Tryz.prog κ 156 (FG l x) [.h s1 l.length,I x] .b:=
 dW tok Tryz.call156 Tryz.func156 Tryz.results156 Q Q<|PG 5 [0,1] [] Out.brk [] [] Q Q (fun hF1 x2 hr1=>b8 [9] Q Q (VA Q h1 Q fun x3=>b8 [17] Q Q (MT hr1 hF1<|dE Q Q)<|J4 [] Q)<|FW [] Q)<|dE Q Q
theorem YT{l:aD}{s1 s2:AC}(h1:bL κ s1 l.Global)(h2:bL κ s2 l.cT):VS Tryz.prog κ 167 (KD l) [.g [.h s1 l.Global.length,.h s2 l.cT.length]] [] [] (fun r (y:AC)=>.h y r.length) (fun r y=>[ow y r]):=
 dW tok Tryz.call167 Tryz.func167 Tryz.results167 Q Q<|fun hF=>WJ (α:=Int) aW Q Q Q Q fun s3=>wi hF<|QX s3 [1] (fun(p:(List Int)×Int) (s5:AC)=>[(3,.h s5 p.1.length),(4,I p.2)]) [1,0] [0] (fun p s5=>[ow s5 (p.1:List Int)]) id [1] (fun(x5:(List Int)) (s6:AC)=>[(3,.h s6 x5.length)]) [0] (fun x5 s6=>[ow s6 (x5:List Int)]) Q Q (fun hF1 ⟨x3,x4⟩ s5 hr1=>b8 [11] Q Q (OG FJ Q h1 Q fun x12 s12 h4=>fun hG1=>ap 0 aW Q Q Q Q Q Q Q (fun h=>(h.a h4)) Q Q hG1 fun hG1 s13=>wi hG1<|nxW s13 [0,1] Q)<|bkW s5 [0,1] Q) fun x5 s6=>QX s6 [1] (fun(p:(List Int)×Int) (s8:AC)=>[(3,.h s8 p.1.length),(5,I p.2)]) [0,1] [1] (fun p s8=>[ow s8 (p.1:List Int)]) id [] (fun(x10:(List Int)) (s9:AC)=>[(3,.h s9 x10.length)]) [] (fun x10 s9=>[ow s9 (x10:List Int)]) Q Q (fun hF2 ⟨x8,x9⟩ s8 hr2=>b8 [26] Q Q (OG FJ Q h2 Q fun x11 s10 h3=>fun hG2=>ap 0 aW Q Q Q Q Q Q Q (fun h=>(h.a h3)) Q Q hG2 fun hG2 s11=>wi hG2<|nxW s11 [0,1] Q)<|bkW s8 [0] Q) fun x10 s9=>nP s9 [0] Q Q
theorem aG4{l:aD}{s1 s2:AC}(h1:bL κ s1 l.Global)(h2:bL κ s2 l.cT):V0 Tryz.prog κ 79 (I7 l) [.g [.h s1 l.Global.length,.h s2 l.cT.length]] .b:=
 dW tok Tryz.call79 Tryz.func79 Tryz.results79 Q Q<|d5 0 1 (BH l) [1] 15 [0] Q (eP [9,10] Q Q (cQ [0] Q Q)<|cQ [0] Q Q) fun x1=>b8 [15] Q Q (dE Q Q)<|PG 3 [1] [0] Out.brk [1] [0] Q Q (fun hF2 x3 hr2=>b8 [20] Q Q (OG FJ Q h2 Q fun x12 s4 h8=>b8 [30] Q Q (MT hr2 hF2<|dE Q Q)<|J4 [0] Q)<|FW [0] Q)<|c1 Q (fun h=>YT (h.a h1) (h.a h2)) fun x4 s3=>PG 5 [4] [1] Out.brk [] [] Q Q (fun hF3 x6 hr3=>b8 [36] Q Q (d5 0 1 (BG x6) [4,5] 54 [0] Q (nZ aO [] Q<|nQ oI 0 Q Q Q fun x8 h3 _ h4=>fun hG3=>iS 1 h4 h3 Q Q Q Q Q<|wi hG3<|c0 Q (fun _=>dL) fun x9=>eP [44,45] Q Q (fun hG3=>sF Q<|jR oI 1 [] h3 () Q Q Q Q Q Q Q<|kK () [4] hG3 Q)<|fun hG3=>U1 oI 1 [] h3 () Q Q Q Q Q Q Q Q Q<|cpc 4 Q Q fun hc1=>aS2 hc1 Q Q Q Q Q Q hG3 fun hG3 h5=>wi hG3<|nQ oI 4 Q Q Q fun x10 h6 _ h7=>fun hG3=>iS 2 h7 h6 Q Q Q Q Q<|U1 oI 5 [] h6 () Q Q Q Q Q Q Q Q Q<|wi hG3<|c0 Q (fun h=>QK ((h.o 8 Q).sub (OF h5.1 h5.2) h5)) fun x11=>cQ [8] Q Q) fun x7=>b8 [54] Q Q (MT hr3 hF3<|dE Q Q)<|J4 [0] Q)<|FW [] Q)<|dE Q Q
theorem K8{h:aE}{slot:Int}{s1 s2:AC}(h1:bL κ s1 h.Bytes)(h2:bL κ s2 h.Class):V0 Tryz.prog κ 168 (mO h slot) [.g [.h s1 h.Bytes.length,.h s2 h.Class.length],I slot] I:=
 dW tok Tryz.call168 Tryz.func168 Tryz.results168 Q Q<|c0 Q (fun _=>NW) fun x1=>d5 0 1 (tO h x1) [2,5] 28 [0] Q (nZ aO [0] Q<|eP [9,10] Q Q (cQ [0] Q Q)<|VA Q h2 Q fun x4=>eP [16,17,18] Q Q (cQ [0] Q Q)<|VA Q h2 Q fun x5=>c0 Q (fun _=>K7) fun x6=>c0 Q (fun _=>E0) fun x7=>cQ [0] Q Q) fun x2=>b8 [28] Q Q (dE Q Q)<|VA Q h2 Q fun x3=>dE Q Q
theorem QL{h:aE}{slot:Int}{s1 s2:AC}(h1:bL κ s1 h.Bytes)(h2:bL κ s2 h.Class):V0 Tryz.prog κ 140 (wL h slot) [.g [.h s1 h.Bytes.length,.h s2 h.Class.length],I slot] I:=
 dW tok Tryz.call140 Tryz.func140 Tryz.results140 Q Q<|nZ aO [0] Q<|c0 Q (fun h=>K8 (h.a h1) (h.a h2)) fun x1=>c0 Q (fun _=>YS) fun x2=>c0 Q (fun h=>V6 (h.a h1)) fun x3=>dE Q Q
theorem RQ{h:aE}{l:List Int}{c:Int}{s1 s2:AC}{s3:AC}(h1:bL κ s1 h.Bytes)(h2:bL κ s2 h.Class)(h3:bL κ s3 l):V0 Tryz.prog κ 80 (z9 h l c) [.g [.h s1 h.Bytes.length,.h s2 h.Class.length],.h s3 l.length,I c] .b:=
 dW tok Tryz.call80 Tryz.func80 Tryz.results80 Q Q<|PG 7 [1,2,3] [0] Out.brk [] [] Q Q (fun hF1 x2 hr1=>b8 [11] Q Q (d5 0 1 (xY x2) [1,2,3,7] 30 [0] Q (nZ aO [0] Q<|VA Q h3 Q fun x4=>c0 Q (fun h=>K8 (h.a h1) (h.a h2)) fun x5=>eP [21,22] Q Q (cQ [0] Q Q)<|VA Q h3 Q fun x6=>c0 Q (fun h=>QL (h.a h1) (h.a h2)) fun x7=>cQ [0] Q Q) fun x3=>b8 [30] Q Q (MT hr1 hF1<|dE Q Q)<|J4 [0] Q)<|FW [] Q)<|dE Q Q
theorem aLY{w_ c:Int}:V0 Tryz.prog κ 81 (wM w_ c) [I w_,I c] I:=
 dW tok Tryz.call81 Tryz.func81 Tryz.results81 Q Q<|d5 0 0 (AA w_ c) [0,1] 12 [] Q (c0 Q (fun _=>dL) fun x2=>eP [7,8] Q Q (cQ [] Q Q)<|c0 Q (fun _=>dL) fun x3=>cQ [] Q Q) fun x1=>b8 [12] Q Q (dE Q Q)<|dE Q Q
theorem aLZ{m:Mem}{s1 s2 s3 s4:AC}(h1:bL κ s1 m.aE.Bytes)(h2:bL κ s2 m.aE.Class)(h3:bL κ s3 m.aD.Global)(h4:bL κ s4 m.aD.cT):V0 Tryz.prog κ 30 (KE m) [.g (gM m s1 s2 s3 s4)] .b:=
 dW tok Tryz.call30 Tryz.func30 Tryz.results30 Q Q<|d5 0 1 (GH m) [1] 14 [0] Q (c0 Q (fun h=>aIS (h.a h1) (h.a h2)) fun x11=>aM7 [8,9] Q Q (fun hb6=>cQ [0] Q Q) fun hb6=>c0 Q (fun h=>aG4 (h.a h3) (h.a h4)) fun x12=>cQ [0] Q Q) fun x1=>aM6 [14] Q Q (fun hb1=>dE Q Q) fun hb1=>PG 3 [1] [0] Out.brk [] [] Q Q (fun hF2 x3 hr2=>aM6 [16] Q Q (fun hb2=>nZ aO [0] Q<|OG FJ Q h3 Q fun x4 s5 h5=>c0 Q (fun h=>RQ (h.a h1) (h.a h2) (h.a h5)) fun x5=>aM6 [30] Q Q (fun hb3=>MT hr2 hF2<|dE Q Q) fun hb3=>PG 4 [1,3] [0] Out.brk [1,3] [0] Q Q (fun hF3 x7 hr3=>aM6 [32] Q Q (fun hb4=>nZ aO [0] Q<|c0 Q (fun _=>aLY) fun x8=>OG FJ Q h4 Q fun x9 s6 h6=>c0 Q (fun h=>RQ (h.a h1) (h.a h2) (h.a h6)) fun x10=>aM6 [48] Q Q (fun hb5=>MT hr3 hF3<|MT hr2 hF2<|dE Q Q) fun hb5=>J4 [0] Q) fun hb4=>FW [0] Q)<|J4 [0] Q) fun hb2=>FW [] Q)<|dE Q Q
theorem t9{h:Int}:V0 Tryz.prog κ 138 (iC h) [I h] .b:=
 dW tok Tryz.call138 Tryz.func138 Tryz.results138 Q Q<|d5 0 0 xZ [] 2 [] Q (c0 Q (fun _=>dL) fun x2=>eP [4,5] Q Q (cQ [] Q Q)<|cQ [] Q Q) fun x1=>dE Q Q
theorem E1{h:Int}:V0 Tryz.prog κ 104 (fN h) [I h] I:=
 dW tok Tryz.call104 Tryz.func104 Tryz.results104 Q Q<|c0 Q (fun _=>t9) fun x1=>b8 [5] Q Q (dE Q Q)<|dE Q Q
theorem aIT{l:aD}{slot:Int}{s1 s2:AC}(h1:bL κ s1 l.Global)(h2:bL κ s2 l.cT):V0 Tryz.prog κ 224 (L7 l slot) [.g [.h s1 l.Global.length,.h s2 l.cT.length],I slot] .b:=
 dW tok Tryz.call224 Tryz.func224 Tryz.results224 Q Q<|c1 Q (fun h=>YT (h.a h1) (h.a h2)) fun x1 s3=>c0 Q (fun h=>QK (h.o 1 Q)) fun x2=>dE Q Q
theorem aG5{m:Mem}{slot:Int}{s1 s2 s3 s4:AC}(h1:bL κ s1 m.aE.Bytes)(h2:bL κ s2 m.aE.Class)(h3:bL κ s3 m.aD.Global)(h4:bL κ s4 m.aD.cT):V0 Tryz.prog κ 139 (I8 m slot) [.g (gM m s1 s2 s3 s4),I slot] I:=
 dW tok Tryz.call139 Tryz.func139 Tryz.results139 Q Q<|c0 Q (fun h=>K8 (h.a h1) (h.a h2)) fun x1=>b8 [5,10] Q Q (dE Q Q)<|c0 Q (fun h=>aIT (h.a h3) (h.a h4)) fun x2=>b8 [11,15] Q Q (dE Q Q)<|c0 Q (fun h=>QL (h.a h1) (h.a h2)) fun x3=>b8 [16,21] Q Q (dE Q Q)<|dE Q Q
theorem Z7{h:Int}:V0 Tryz.prog κ 141 (DP h) [I h] I:=
 dW tok Tryz.call141 Tryz.func141 Tryz.results141 Q Q<|c0 Q (fun _=>t9) fun x1=>b8 [5] Q Q (dE Q Q)<|dE Q Q
theorem UA{m:Mem}{h:Int}{s1 s2 s3 s4:AC}(h1:bL κ s1 m.aE.Bytes)(h2:bL κ s2 m.aE.Class)(h3:bL κ s3 m.aD.Global)(h4:bL κ s4 m.aD.cT):V0 Tryz.prog κ 60 (sK m h) [.g (gM m s1 s2 s3 s4),I h] .b:=
 dW tok Tryz.call60 Tryz.func60 Tryz.results60 Q Q<|d5 0 1 tP [] 4 [] Q (nZ aO [0] Q<|c0 Q (fun _=>t9) fun x2=>eP [6,7] Q Q (c0 Q (fun _=>E1) fun x3=>c0 Q (fun h=>aG5 (h.a h1) (h.a h2) (h.a h3) (h.a h4)) fun x4=>eP [12,13,14] Q Q (c0 Q (fun _=>E1) fun x5=>c0 Q (fun h=>QL (h.a h1) (h.a h2)) fun x6=>c0 Q (fun _=>Z7) fun x7=>cQ [] Q Q)<|cQ [] Q Q)<|cQ [] Q Q) fun x1=>dE Q Q
theorem aG6{c:aC}{s1:AC}(h1:bL κ s1 c.cK):V0 Tryz.prog κ 69 (pJ c) [.g [I c.aJ,.h s1 c.cK.length]] .b:=
 dW tok Tryz.call69 Tryz.func69 Tryz.results69 Q Q<|d5 0 1 (oH c) [1] 14 [0] Q (c0 Q (fun _=>dL) fun x10=>eP [8,9] Q Q (cQ [0] Q Q)<|cQ [0] Q Q) fun x1=>b8 [14] Q Q (dE Q Q)<|PG 3 [1] [0] Out.brk [] [] Q Q (fun hF2 x3 hr2=>b8 [16] Q Q (OG aND Q h1 Q fun x4 _ _=>d5 0 3 (l5 x3) [1,3] 45 [0] Q (eP [26,27] Q Q (fun hG2=>neS Tryz.eqGuardType59 Tryz.stoodInHeld59 Tryz.underlying59 (aE5 9997 x4 (⟨false,0,false,0⟩:qA)) Q Q Q Q Q Q<|wi hG2<|eP [30,31,32] Q Q (cQ [0] Q Q)<|c0 Q (fun _=>dL) fun x6=>eP [38,39,40] Q Q (cQ [0] Q Q)<|c0 Q (fun _=>dL) fun x7=>cQ [0] Q Q)<|c0 Q (fun _=>dL) fun x8=>eP [38,39,40] Q Q (cQ [0] Q Q)<|c0 Q (fun _=>dL) fun x9=>cQ [0] Q Q) fun x5=>b8 [45] Q Q (MT hr2 hF2<|dE Q Q)<|J4 [0] Q)<|FW [] Q)<|dE Q Q
theorem aG7{l:List bB}{s1:AC}(h1:bL κ s1 l):V0 Tryz.prog κ 70 (I9 l) [.h s1 l.length] .b:=
 dW tok Tryz.call70 Tryz.func70 Tryz.results70 Q Q<|c1 Q (fun h=>NI (h.a h1)) fun x1 s2=>d5 0 0 (BI x1) [3] 16 [0] Q (eP [11,12] Q Q (cQ [0] Q Q)<|cQ [0] Q Q) fun x2=>b8 [16] Q Q (dE Q Q)<|fun hF=>WJ (α:=Int) aW Q Q Q Q fun s3=>wi hF<|QX s3 [3] (fun(p:(List Int)×Int) (s5:AC)=>[(4,.h s5 p.1.length),(5,I p.2)]) [1,0] [0] (fun p s5=>[ow s5 (p.1:List Int)]) Out.brk [] (fun(_:Unit) (_:Unit)=>[]) [] (fun _ _=>[]) Q Q (fun hF2 ⟨x5,x6⟩ s5 hr2=>b8 [21] Q Q (nQ KL 1 Q Q Q fun x7 h2 _ h3=>fun hG2=>iS 0 h3 h2 Q Q Q Q Q<|wi hG2<|c0 Q (fun _=>E1) fun x8=>iT 0 1 (tR x5 x6 x8) [3,4,5,6] (fun(x9:Bool) (_:Unit)=>[(45,.b x9)]) [0] (fun x9 _=>[ow s2 (x1:List dO)]) Q (eP [31,32] Q Q (fun hG2=>sF Q<|jR KL 2 [] h2 () Q Q Q Q Q Q Q<|kK () [5,0] hG2 Q)<|fun hG2=>iS 0 h3 h2 Q Q Q Q Q<|wi hG2<|c0 Q (fun _=>dL) fun x10=>eP [39,40,41] Q Q (fun hG2=>sF Q<|jR KL 2 [] h2 () Q Q Q Q Q Q Q<|kK () [5,0] hG2 Q)<|c0 Q (fun h=>QK (h.o 0 Q)) fun x11=>fun hG2=>sF Q<|jR KL 2 [] h2 () Q Q Q Q Q Q Q<|kK () [5,0] hG2 Q) fun x9 _=>b8 [45] Q Q (MT hr2 hF2<|dE Q Q)<|fun hG2=>lt1 Q aW Q Q Q Q fun s6=>ap 1 aW Q Q Q Q Q Q Q (fun h=>(h.o 2 Q)) Q Q hG2 fun hG2 s7=>wi hG2<|nxW s7 [1,0] Q)<|FW [] Q) fun() _=>dE Q Q
theorem aL0{z:List Int}{s1:AC}(h1:bL κ s1 z):V0 Tryz.prog κ 71 (FH z) [.h s1 z.length] .b:=
 dW tok Tryz.call71 Tryz.func71 Tryz.results71 Q Q<|PG 3 [0] [] Out.brk [0] [] Q Q (fun hF1 x2 hr1=>b8 [7] Q Q (d5 0 0 (GI x2) [0,3] 22 [] Q (VA Q h1 Q fun x4=>eP [14,15] Q Q (VA Q h1 Q fun x5=>c0 Q (fun _=>t9) fun x6=>cQ [] Q Q)<|cQ [] Q Q) fun x3=>b8 [22] Q Q (MT hr1 hF1<|dE Q Q)<|J4 [] Q)<|FW [] Q)<|dE Q Q
theorem aIU{b:aA}{s1 s2 s3 s4 s5 s6 s7:AC}(h1:bL κ s1 b.Mem.aE.Bytes)(h2:bL κ s2 b.Mem.aE.Class)(h3:bL κ s3 b.Mem.aD.Global)(h4:bL κ s4 b.Mem.aD.cT)(h5:bL κ s5 b.aC.cK)(h6:bL κ s6 b.aM)(h7:bL κ s7 b.mP):V0 Tryz.prog κ 25 (L8 b) [.g (gB b s1 s2 s3 s4 s5 s6 s7)] .b:=
 dW tok Tryz.call25 Tryz.func25 Tryz.results25 Q Q<|d5 0 1 (rI b) [1] 26 [0] Q (c0 Q (fun h=>aLZ (h.a h1) (h.a h2) (h.a h3) (h.a h4)) fun x8=>eP [8,9] Q Q (cQ [0] Q Q)<|c0 Q (fun h=>aG6 (h.a h5)) fun x9=>eP [13,14,15] Q Q (cQ [0] Q Q)<|c0 Q (fun h=>aG7 (h.a h6)) fun x10=>eP [19,20,21] Q Q (cQ [0] Q Q)<|c0 Q (fun h=>aL0 (h.a h7)) fun x11=>cQ [0] Q Q) fun x1=>b8 [26] Q Q (dE Q Q)<|c1 Q (fun h=>NI (h.a h6)) fun x2 s8=>PG 4 [1,3] [1,0] Out.brk [] [] Q Q (fun hF2 x4 hr2=>b8 [33] Q Q (d5 0 1 (DQ x4) [1,3,4] 55 [0,1] Q (nZ aO [1] Q<|nQ KL 0 Q Q Q fun x6 h8 _ h9=>fun hG2=>iS 1 h9 h8 Q Q Q Q Q<|wi hG2<|c0 Q (fun h=>UA (h.a h1) (h.a h2) (h.a h3) (h.a h4)) fun x7=>eP [44,45] Q Q (fun hG2=>sF Q<|jR KL 2 [] h8 () Q Q Q Q Q Q Q<|kK () [5,1] hG2 Q)<|fun hG2=>iS 1 h9 h8 Q Q Q Q Q<|sF Q<|jR KL 2 [] h8 () Q Q Q Q Q Q Q<|kK () [5,1] hG2 Q) fun x5=>b8 [55] Q Q (MT hr2 hF2<|dE Q Q)<|J4 [0,1] Q)<|FW [] Q)<|dE Q Q
theorem jZ{h:Int}:V0 Tryz.prog κ 136 (i7 h) [I h] .b:=
 dW tok Tryz.call136 Tryz.func136 Tryz.results136 Q Q<|d5 0 0 BJ [] 2 [] Q (eP [4,5] Q Q (cQ [] Q Q)<|c0 Q (fun _=>t9) fun x2=>cQ [] Q Q) fun x1=>dE Q Q
theorem UB{s:aB}{s1 s2 s3 s4 s5 s6 s7 s8 s9 s10 s11:AC}(h1:bL κ s1 s.aA.Mem.aE.Bytes)(h2:bL κ s2 s.aA.Mem.aE.Class)(h3:bL κ s3 s.aA.Mem.aD.Global)(h4:bL κ s4 s.aA.Mem.aD.cT)(h5:bL κ s5 s.aA.aC.cK)(h6:bL κ s6 s.aA.aM)(h7:bL κ s7 s.aA.mP)(h8:bL κ s8 s.Cells)(h9:bL κ s9 s.aT)(h10:bL κ s10 s.aZ)(h11:bL κ s11 s.Log):V0 Tryz.prog κ 57 (sL s) [.g (gS s s1 s2 s3 s4 s5 s6 s7 s8 s9 s10 s11)] .b:=
 dW tok Tryz.call57 Tryz.func57 Tryz.results57 Q Q<|d5 0 1 (l7 s) [1] 33 [0] Q (c0 Q (fun h=>aIU (h.a h1) (h.a h2) (h.a h3) (h.a h4) (h.a h5) (h.a h6) (h.a h7)) fun x20=>eP [9,10] Q Q (cQ [0] Q Q)<|eP [14,15,16] Q Q (cQ [0] Q Q)<|eP [20,21,22] Q Q (cQ [0] Q Q)<|c0 Q (fun h=>TE (h.a h10)) fun x21=>eP [26,27,28] Q Q (cQ [0] Q Q)<|c0 Q (fun _=>dL) fun x22=>cQ [0] Q Q) fun x1=>b8 [33] Q Q (dE Q Q)<|PG 3 [1] [0] Out.brk [1] [0] Q Q (fun hF2 x3 hr2=>b8 [35] Q Q (VA Q h8 Q fun x18=>c0 Q (fun _=>jZ) fun x19=>b8 [44] Q Q (MT hr2 hF2<|dE Q Q)<|J4 [0] Q)<|FW [0] Q)<|PG 4 [1] [0] Out.brk [] [] Q Q (fun hF3 x5 hr3=>b8 [46] Q Q (OG aKV Q h9 Q fun x6 _ _=>d5 0 3 (fA x5) [1,4] 83 [0] Q (eP [56,57] Q Q (fun hG3=>neS Tryz.eqGuardType63 Tryz.stoodInHeld63 Tryz.underlying63 (aE6 9996 x6 (⟨false,(⟨0,0,0,0⟩:bK),0,0,(⟨0,0,0,0,0,0,0,0,0,false⟩:Sub),0,0,0,0⟩:bD)) Q Q Q Q Q Q<|wi hG3<|eP [60,61,62] Q Q (cQ [0] Q Q)<|eP [55,64,65] Q Q (c0 Q (fun _=>TD) fun x8=>eP [69,70,71,72] Q Q (cQ [0] Q Q)<|c0 Q (fun _=>jZ) fun x9=>eP [76,77,78] Q Q (cQ [0] Q Q)<|c0 Q (fun _=>jZ) fun x10=>cQ [0] Q Q)<|c0 Q (fun _=>jZ) fun x11=>eP [76,77,78] Q Q (cQ [0] Q Q)<|c0 Q (fun _=>jZ) fun x12=>cQ [0] Q Q)<|eP [55,64,65] Q Q (c0 Q (fun _=>TD) fun x13=>eP [69,70,71,72] Q Q (cQ [0] Q Q)<|c0 Q (fun _=>jZ) fun x14=>eP [76,77,78] Q Q (cQ [0] Q Q)<|c0 Q (fun _=>jZ) fun x15=>cQ [0] Q Q)<|c0 Q (fun _=>jZ) fun x16=>eP [76,77,78] Q Q (cQ [0] Q Q)<|c0 Q (fun _=>jZ) fun x17=>cQ [0] Q Q) fun x7=>b8 [83] Q Q (MT hr3 hF3<|dE Q Q)<|J4 [0] Q)<|FW [] Q)<|dE Q Q
theorem Z8{s:aB}{w_:Int}{s1 s2 s3 s4 s5 s6 s7 s8 s9 s10 s11:AC}(h1:bL κ s1 s.aA.Mem.aE.Bytes)(h2:bL κ s2 s.aA.Mem.aE.Class)(h3:bL κ s3 s.aA.Mem.aD.Global)(h4:bL κ s4 s.aA.Mem.aD.cT)(h5:bL κ s5 s.aA.aC.cK)(h6:bL κ s6 s.aA.aM)(h7:bL κ s7 s.aA.mP)(h8:bL κ s8 s.Cells)(h9:bL κ s9 s.aT)(h10:bL κ s10 s.aZ)(h11:bL κ s11 s.Log):V0 Tryz.prog κ 58 (EY s w_) [.g (gS s s1 s2 s3 s4 s5 s6 s7 s8 s9 s10 s11),I w_] .b:=
 dW tok Tryz.call58 Tryz.func58 Tryz.results58 Q Q<|OG aKV Q h9 Q fun x1 _ _=>OG aND Q h5 Q fun x2 _ _=>d5 0 5 (vN x1) [5] 7 [2] Q (eP [21,22] Q Q (cQ [2] Q Q)<|cQ [2] Q Q) fun x3=>d5 0 5 (vM x1 x3) [5,7] 27 [0] Q (eP [30,31] Q Q (cQ [0] Q Q)<|cQ [0] Q Q) fun x4=>b8 [27] Q Q (dE Q Q)<|b8 [36,40] Q Q (d5 0 5 pP [] 4 [] Q (eP [7,41,42] Q Q (eP [45,46] Q Q (cQ [] Q Q)<|cQ [] Q Q)<|cQ [] Q Q) fun x5=>dE Q Q)<|b8 [52,56] Q Q (d5 0 5 pQ [] 4 [] Q (eP [7,57,58] Q Q (eP [61,62] Q Q (cQ [] Q Q)<|cQ [] Q Q)<|cQ [] Q Q) fun x6=>dE Q Q)<|b8 [68,72] Q Q (dE Q Q)<|dE Q Q
theorem aIV{l:List Int}{x:Int}{s1:AC}:VS Tryz.prog κ 59 (MM l x) [.h s1 l.length,I x] [] [ow s1 (l:List Int)] (fun(r:(List Int)) (y:AC)=>.h y r.length) (fun(r:(List Int)) (y:AC)=>[ow y r]):=
 dW tok Tryz.call59 Tryz.func59 Tryz.results59 Q Q<|fun hF=>WJ (α:=Int) aW Q Q Q Q fun s2=>wi hF<|QX s2 [0,1] (fun(p:(List Int)×Bool×Int) (s4:AC)=>[(5,.h s4 p.1.length),(6,.b p.2.1),(7,I p.2.2)]) [1,0] [0] (fun p s4=>[ow s4 (p.1:List Int)]) Out.brk [1] (fun(p:(List Int)×Bool) (s5:AC)=>[(5,.h s5 p.1.length),(6,.b p.2)]) [] (fun p s5=>[ow s5 (p.1:List Int)]) Q Q (fun hF1 ⟨x4,x5,x6⟩ s4 hr1=>b8 [12] Q Q (nQ oI 1 Q Q Q fun x10 h1 _ h2=>fun hG1=>iS 0 h2 h1 Q Q Q Q Q<|wi hG1<|b8 [20] Q Q (fun hG1=>sR Q<|jR oI 2 [] h1 () Q Q Q Q Q Q Q<|tF (hT:=tok) s1 [5] (re hG1 Q hr1 hF1) Q Tryz.results59 Q Q Q Q)<|iT 1 1 (fun(p:(List Int)×Bool)=>K5 l x6 p.1 p.2) [0,1,7] (fun(p:(List Int)×Bool) (s9:AC)=>[(5,.h s9 p.1.length),(6,.b p.2)]) [] (fun p s9=>[ow s1 (l:List Int),ow s9 (p.1:List Int)]) Q (iT 0 1 (K6 l x x4 x5 x6) [0,1,5,6,7] (fun(x14:Bool) (_:Unit)=>[(31,.b x14)]) [0] (fun x14 _=>[ow s1 (l:List Int)]) Q (eP [23,24] Q Q (fun hG1=>iS 0 h2 h1 Q Q Q Q Q<|sF Q<|jR oI 2 [] h1 () Q Q Q Q Q Q Q<|kK () [5,0] hG1 Q)<|fun hG1=>sF Q<|jR oI 2 [] h1 () Q Q Q Q Q Q Q<|kK () [5,0] hG1 Q) fun x14 _=>b8 [31] Q Q (fun hG1=>lt1 Q aW Q Q Q Q fun s12=>ap 1 aW Q Q Q Q Q Q Q (fun h=>(h.o 2 Q)) Q Q hG1 fun hG1 s13=>wi hG1<|pR (p:=(x4++([x]),true)) s13 [0,1] Q Q)<|pR (p:=(x4,x5)) s4 [0,1] Q Q) fun⟨x11,x12⟩ s9=>nQ oI 0 Q Q Q fun x13 h3 _ h4=>fun hG1=>iS 1 h4 h3 Q Q Q Q Q<|lt1 Q aW Q Q Q Q fun s10=>ap 1 aW Q Q Q Q Q Q Q (fun h=>(h.o 5 Q)) Q Q hG1 fun hG1 s11=>sF Q<|jR oI 2 [] h3 () Q Q Q Q Q Q Q<|nxR s11 [1,6] hG1 Q)<|bkW s4 [0] Q) fun⟨x7,x8⟩ s5=>iT 0 0 EZ [] (fun(x9:(List Int)) (s6:AC)=>[(5,.h s6 x9.length)]) [] (fun x9 s6=>[ow s6 (x9:List Int)]) Q (b8 [44] Q Q (fun hF=>lt1 Q aW Q Q Q Q fun s7=>ap 0 aW Q Q Q Q Q Q Q (fun h=>(h.o 1 Q)) Q Q hF fun hF s8=>wi hF<|pR s8 [0] Q Q)<|pR s5 [0] Q Q) fun x9 s6=>nP s6 [0] Q Q
theorem UC{s:aB}{s1 s2 s3 s4 s5 s6 s7 s8 s9 s10 s11:AC}(h1:bL κ s1 s.aA.Mem.aE.Bytes)(h2:bL κ s2 s.aA.Mem.aE.Class)(h3:bL κ s3 s.aA.Mem.aD.Global)(h4:bL κ s4 s.aA.Mem.aD.cT)(h5:bL κ s5 s.aA.aC.cK)(h6:bL κ s6 s.aA.aM)(h7:bL κ s7 s.aA.mP)(h8:bL κ s8 s.Cells)(h9:bL κ s9 s.aT)(h10:bL κ s10 s.aZ)(h11:bL κ s11 s.Log):VS Tryz.prog κ 20 (yN s) [.g (gS s s1 s2 s3 s4 s5 s6 s7 s8 s9 s10 s11)] [] [] (fun r (y:AC)=>.h y r.length) (fun r y=>[ow y r]):=
 dW tok Tryz.call20 Tryz.func20 Tryz.results20 Q Q<|fun hF=>WJ (α:=Int) aW Q Q Q Q fun s12=>wi hF<|c0 Q (fun h=>UB (h.a h1) (h.a h2) (h.a h3) (h.a h4) (h.a h5) (h.a h6) (h.a h7) (h.a h8) (h.a h9) (h.a h10) (h.a h11)) fun x1=>QX s12 [1,4] (fun(p:(List Int)×Int) (s14:AC)=>[(3,.h s14 p.1.length),(5,I p.2)]) [1,0] [0] (fun p s14=>[ow s14 (p.1:List Int)]) id [] (fun(x6:(List Int)) (s15:AC)=>[(3,.h s15 x6.length)]) [] (fun x6 s15=>[ow s15 (x6:List Int)]) Q Q (fun hF1 ⟨x4,x5⟩ s14 hr1=>d5 0 1 (l9 s x4 x5) [1,3,4,5] 13 [0,1] Q (eP [10,11] Q Q (cQ [0,1] Q Q)<|cQ [0,1] Q Q) fun x7=>b8 [13] Q Q (iT 2 1 (oV x5) [1,4,5] (fun(x8:(List Int)) (s16:AC)=>[(3,.h s16 x8.length)]) [1] (fun x8 s16=>[ow s16 (x8:List Int)]) Q (c0 Q (fun h=>Z8 (h.a h1) (h.a h2) (h.a h3) (h.a h4) (h.a h5) (h.a h6) (h.a h7) (h.a h8) (h.a h9) (h.a h10) (h.a h11)) fun x9=>b8 [18] Q Q (OG aKV Q h9 Q fun x10 _ _=>aEJ [0] Q Q Q Q (fun _=>aIV) fun x11 s17=>pR s17 [3,1] Q Q)<|pR s14 [0,1] Q Q) fun x8 s16=>nxW s16 [0,1] Q)<|bkW s14 [0] Q) fun x6 s15=>nP s15 [0] Q Q
theorem aG8{s:aB}{s1 s2 s3 s4 s5 s6 s7 s8 s9 s10 s11:AC}(h1:bL κ s1 s.aA.Mem.aE.Bytes)(h2:bL κ s2 s.aA.Mem.aE.Class)(h3:bL κ s3 s.aA.Mem.aD.Global)(h4:bL κ s4 s.aA.Mem.aD.cT)(h5:bL κ s5 s.aA.aC.cK)(h6:bL κ s6 s.aA.aM)(h7:bL κ s7 s.aA.mP)(h8:bL κ s8 s.Cells)(h9:bL κ s9 s.aT)(h10:bL κ s10 s.aZ)(h11:bL κ s11 s.Log):V0 Tryz.prog κ 21 (JO s) [.g (gS s s1 s2 s3 s4 s5 s6 s7 s8 s9 s10 s11)] .b:=
 dW tok Tryz.call21 Tryz.func21 Tryz.results21 Q Q<|c1 Q (fun h=>UC (h.a h1) (h.a h2) (h.a h3) (h.a h4) (h.a h5) (h.a h6) (h.a h7) (h.a h8) (h.a h9) (h.a h10) (h.a h11)) fun x1 s12=>PG 4 [1,3] [1,0] Out.brk [1] [0] Q Q (fun hF1 x3 hr1=>b8 [10] Q Q (nZ aO [1] Q<|nQ oI 0 Q Q Q fun x5 h12 _ h13=>fun hG1=>iS 1 h13 h12 Q Q Q Q Q<|wi hG1<|c0 Q (fun h=>UA (h.a h1) (h.a h2) (h.a h3) (h.a h4)) fun x6=>b8 [21] Q Q (fun hG1=>sR Q<|jR oI 2 [] h12 () Q Q Q Q Q Q Q<|tF (hT:=tok) () [] (re hG1 Q hr1 hF1) Q Tryz.results21 Q Q Q Q)<|fun hG1=>sF Q<|jR oI 2 [] h12 () Q Q Q Q Q Q Q<|nxR () [5,1] hG1 Q)<|FW [1] Q)<|c0 Q (fun h=>UB (h.a h1) (h.a h2) (h.a h3) (h.a h4) (h.a h5) (h.a h6) (h.a h7) (h.a h8) (h.a h9) (h.a h10) (h.a h11)) fun x4=>dE Q Q
theorem aCR{code:List UInt8}{s1:AC}(h1:bL κ s1 code):V0 Tryz.prog κ 5 (NV code) [.h s1 code.length] .b:=
 dW tok Tryz.call5 Tryz.func5 Tryz.results5 Q Q<|c0 Q (fun h=>KM (h.a h1)) fun x1=>b8 [10] Q Q (dE Q Q)<|fun hF=>xI ((⟨[]⟩:Queue):Queue) fI (fun _=>(kE (qS (⟨[]⟩:Queue)) (yV LG))) Q Q Q Q Q Q Q hF fun hF s2=>wi hF<|c0 Q (fun h=>g8 (h.a h1)) fun x2=>fun hF=>RY D8 [] ((⟨1,0,8,x2⟩:bK)) () bG Q Q Q Q Q Q Q Q Q Q Q Q Q fun s3=>wi hF<|nQ dS 0 Q Q Q fun x3 h2 s4 h3=>fun hF=>iS 0 h3 h2 Q Q Q Q Q<|ceS dS 2 [1] [3,11,12,19] (⟨[(⟨1,0,8,x2⟩:bK)]⟩:Queue) s3 Q Q Q Q Q Q Q Q Q Q<|wi hF<|c1 Q (fun h=>BO (h.o 6 Q)) fun x4 s5=>c1 Q (fun h=>kU (h.o 7 Q) (h.o 8 Q) (h.o 9 Q) (h.o 10 Q) (h.o 11 Q) (h.o 12 Q) (h.o 13 Q) (h.o 14 Q) (h.o 15 Q) (h.o 16 Q) (h.o 17 Q)) fun x5 s6=>b8 [25] Q Q (dE Q Q)<|fun hF=>RY D8 [] ((⟨3,0,0,0⟩:bK)) () bG Q Q Q Q Q Q Q Q Q Q Q Q Q fun s7=>wi hF<|nQ dS 27 Q Q Q fun x6 h4 s8 h5=>fun hF=>iS 2 h5 h4 Q Q Q Q Q<|ceS dS 31 [30] [23,27] (⟨[(⟨3,0,0,0⟩:bK)]⟩:Queue) s7 Q Q Q Q Q Q Q Q Q Q<|rh s6.2.2.2.2.2.2.2.2.2.1 List.length_set.symm [(21,10)] [(29,10)] Q Q Q<|wi hF<|QX s6 [0,4] (fun(p:Int×aB) (u:aBK)=>[(5,I p.1)]) [18,19,20,21,22,23,24,25,26,35,28,29] [] (fun p u=>(zS p.2 u [.box 1 (yS p.2 u)])) id [0,4] (fun(x11:aB) (u:aBK)=>[]) [] (fun x11 u=>(zS x11 u [.box 1 (yS x11 u)])) Q Q (fun hF1 ⟨x9,x10⟩ ⟨s20,s21,s22,s23,s24,s25,s26,s27,s28,s29,s30⟩ hr1=>b8 [33] Q Q (c1 Q (fun h=>PE (h.o 0 Q) (h.o 1 Q) (h.o 2 Q) (h.o 3 Q) (h.o 4 Q) (h.o 5 Q) (h.o 6 Q) (h.o 7 Q) (h.o 8 Q) (h.o 9 Q) (h.o 10 Q)) fun x38 s84=>nxW s84 [12,13,14,15,16,17,18,19,20,21,22,11] Q)<|bkW (s20,s21,s22,s23,s24,s25,s26,s27,s28,s29,s30) [0,1,2,3,4,5,6,7,8,9,10,11] Q) fun x11 ⟨s31,s32,s33,s34,s35,s36,s37,s38,s39,s40,s41⟩=>iT 0 3 (fun(p:Bool×aB)=>nD code p.1 p.2) [0,4] (fun(p:Bool×aB) (_:Unit)=>[(61,.b p.1)]) [] (fun p _=>(oS p.2 s31 s32 s33 s34 s35 s36 s37 s38 s39 s40 s41 [.box 1 (gS p.2 s31 s32 s33 s34 s35 s36 s37 s38 s39 s40 s41)])) Q (eP [41,42] Q Q (cQ (p:=(true,x11)) [0,1,2,3,4,5,6,7,8,9,10,11] Q Q)<|eP [46,47,48] Q Q (cQ (p:=(true,x11)) [0,1,2,3,4,5,6,7,8,9,10,11] Q Q)<|nQ cL 8 Q Q Q fun x36 h12 _ h13=>fun hF=>iS 3 h13 h12 Q Q Q Q Q<|wi hF<|eP [54,55,56] Q Q (fun hF=>sF Q<|jR cL 12 [] h12 () Q Q Q Q Q Q Q<|kK (p:=(true,x11)) () [0,1,2,3,4,5,6,7,15,9,10,11] hF Q)<|fun hF=>U1 cL 12 [] h12 () Q Q Q Q Q Q Q Q Q<|wi hF<|c1 Q (fun h=>UC (h.o 0 Q) (h.o 1 Q) (h.o 2 Q) (h.o 3 Q) (h.o 4 Q) (h.o 5 Q) (h.o 6 Q) (h.o 7 Q) (h.o 15 Q) (h.o 9 Q) (h.o 10 Q)) fun x37 s83=>cQ (p:=((x37.length:Int) != 1,x11)) [0,1,2,3,4,5,6,7,15,9,10,11] Q Q) fun⟨x12,x13⟩ _=>b8 [61] Q Q (dE Q Q)<|nZ aO [11] Q<|c0 Q (fun h=>g8 (h.a h1)) fun x14=>fun hF=>ltK D8 () ([(⟨1,0,8,x14⟩:bK),(⟨4,0,0,0⟩:bK),(⟨4,0,0,0⟩:bK),(⟨4,0,0,0⟩:bK),(⟨4,0,0,0⟩:bK)]:List bK) bG Q Q Q Q Q Q Q Q Q Q (fun _=>Q) fun s42=>wi hF<|nQ dS 9 Q Q Q fun x15 h6 s43 h7=>fun hF=>iS 3 h7 h6 Q Q Q Q Q<|ceS dS 13 [12] [63] (⟨([(⟨1,0,8,x14⟩:bK),(⟨4,0,0,0⟩:bK),(⟨4,0,0,0⟩:bK),(⟨4,0,0,0⟩:bK),(⟨4,0,0,0⟩:bK)]:List bK)⟩:Queue) s42 Q Q Q Q Q Q Q Q Q Q<|rh s40 List.length_set.symm [] [(11,10)] Q Q Q<|wi hF<|QX (s31,s32,s33,s34,s35,s36,s37,s38,s39,s40,s41) [0,4] (fun(p:Int×aB) (u:aBK)=>[(6,I p.1)]) [0,1,2,3,4,5,6,7,8,17,10,11] [] (fun p u=>(zS p.2 u [.box 1 (yS p.2 u)])) id [0,4] (fun(x20:aB) (u:aBK)=>[]) [] (fun x20 u=>(zS x20 u [.box 1 (yS x20 u)])) Q Q (fun hF3 ⟨x18,x19⟩ ⟨s55,s56,s57,s58,s59,s60,s61,s62,s63,s64,s65⟩ hr3=>b8 [75] Q Q (c1 Q (fun h=>PE (h.o 0 Q) (h.o 1 Q) (h.o 2 Q) (h.o 3 Q) (h.o 4 Q) (h.o 5 Q) (h.o 6 Q) (h.o 7 Q) (h.o 8 Q) (h.o 9 Q) (h.o 10 Q)) fun x35 s82=>nxW s82 [12,13,14,15,16,17,18,19,20,21,22,11] Q)<|bkW (s55,s56,s57,s58,s59,s60,s61,s62,s63,s64,s65) [0,1,2,3,4,5,6,7,8,9,10,11] Q) fun x20 ⟨s66,s67,s68,s69,s70,s71,s72,s73,s74,s75,s76⟩=>iT 0 4 (fun(p:Bool×aB)=>nC code p.1 p.2) [0,4] (fun(p:Bool×aB) (_:Unit)=>[(104,.b p.1)]) [] (fun p _=>(oS p.2 s66 s67 s68 s69 s70 s71 s72 s73 s74 s75 s76 [.box 1 (gS p.2 s66 s67 s68 s69 s70 s71 s72 s73 s74 s75 s76)])) Q (eP [83,84] Q Q (cQ (p:=(true,x20)) [0,1,2,3,4,5,6,7,8,9,10,11] Q Q)<|nQ dS 9 Q Q Q fun x32 h10 s81 h11=>fun hF=>iS 4 h11 h10 Q Q Q Q Q<|wi hF<|eP [91,92,93] Q Q (fun hF=>sF Q<|jR dS 12 [15] h10 s81 Q Q Q Q Q Q Q<|kK (p:=(true,x20)) () [0,1,2,3,4,5,6,7,8,16,10,11] hF Q)<|c0 Q (fun h=>rO (h.o 5 Q)) fun x33=>eP [98,99,100] Q Q (fun hF=>sF Q<|jR dS 12 [15] h10 s81 Q Q Q Q Q Q Q<|kK (p:=(true,x20)) () [0,1,2,3,4,5,6,7,8,16,10,11] hF Q)<|fun hF=>U1 dS 12 [15] h10 s81 Q Q Q Q Q Q Q Q Q<|wi hF<|c0 Q (fun h=>aG8 (h.o 0 Q) (h.o 1 Q) (h.o 2 Q) (h.o 3 Q) (h.o 4 Q) (h.o 5 Q) (h.o 6 Q) (h.o 7 Q) (h.o 8 Q) (h.o 16 Q) (h.o 10 Q)) fun x34=>cQ (p:=(!x34,x20)) [0,1,2,3,4,5,6,7,8,16,10,11] Q Q) fun⟨x21,x22⟩ _=>b8 [104] Q Q (dE Q Q)<|c1 Q (fun h=>kU (h.o 0 Q) (h.o 1 Q) (h.o 2 Q) (h.o 3 Q) (h.o 4 Q) (h.o 5 Q) (h.o 6 Q) (h.o 7 Q) (h.o 8 Q) (h.o 9 Q) (h.o 10 Q)) fun x23 s77=>c1 Q (fun h=>D9 (h.o 12 Q) (h.o 13 Q) (h.o 14 Q) (h.o 15 Q) (h.o 16 Q) (h.o 17 Q) (h.o 18 Q) (h.o 19 Q) (h.o 20 Q) (h.o 21 Q) (h.o 22 Q)) fun x24 s78=>d5 0 5 nA [] 2 [] Q (nZ aO [11,23] Q<|eP [111,112] Q Q (nQ GP 24 Q Q Q fun x26 h8 _ h9=>fun hF=>iS 5 h9 h8 Q Q Q Q Q<|wi hF<|eP [120,121,122] Q Q (fun hF=>iS 5 h9 h8 Q Q Q Q Q<|bd hF fun x27 hA1 hF=>hC Q Q (have hq1:=rb hA1;wi hq1<|c0 Q (fun h=>g8 (h.a h1)) fun u1=>fun hq1=>match u1,hq1 with | _,rfl=>wi hF<|eP [132,133,134] Q Q (c1 Q (fun h=>QA (h.o 12 Q) (h.o 13 Q) (h.o 14 Q) (h.o 15 Q) (h.o 16 Q) (h.o 17 Q) (h.o 18 Q) (h.o 19 Q) (h.o 20 Q) (h.o 21 Q) (h.o 22 Q)) fun x28 s79=>SG Tryz.underlying49 Q Q Q Q Q Q Q<|SG Tryz.underlying46 Q Q Q Q Q Q Q<|c0 Q (fun h=>rO (h.o 33 Q)) fun x29=>fun hF=>sF Q<|jR GP 25 [] h8 () Q Q Q Q Q Q Q<|kK (p:=(x29 == 0)) () [] hF Q)<|fun hF=>sF Q<|jR GP 25 [] h8 () Q Q Q Q Q Q Q<|kK (p:=(false)) () [] hF Q) (have hq2:=rb hA1;wi hq2<|c0 Q (fun h=>g8 (h.a h1)) fun u2=>fun hq2=>match u2,hq2 with | _,rfl=>wi hF<|eP [132,133,134] Q Q (c1 Q (fun h=>QA (h.o 12 Q) (h.o 13 Q) (h.o 14 Q) (h.o 15 Q) (h.o 16 Q) (h.o 17 Q) (h.o 18 Q) (h.o 19 Q) (h.o 20 Q) (h.o 21 Q) (h.o 22 Q)) fun x30 s80=>SG Tryz.underlying49 Q Q Q Q Q Q Q<|SG Tryz.underlying46 Q Q Q Q Q Q Q<|c0 Q (fun h=>rO (h.o 33 Q)) fun x31=>fun hF=>sF Q<|jR GP 25 [] h8 () Q Q Q Q Q Q Q<|kK (p:=(x31 == 0)) () [] hF Q)<|fun hF=>sF Q<|jR GP 25 [] h8 () Q Q Q Q Q Q Q<|kK (p:=(false)) () [] hF Q))<|fun hF=>sF Q<|jR GP 25 [] h8 () Q Q Q Q Q Q Q<|kK (p:=(false)) () [] hF Q)<|cQ (p:=(false)) [] Q Q) fun x25=>dE Q Q
end
end Go.Proofs.YtmaknhppafajdaaGreat
end
noncomputable section
set_option maxRecDepth 20000
namespace Go.Gv
noncomputable section
variable {s:aB} (hs:mY s)
include hs
theorem Z9{w:Int}(hw:0≤w∧w≤2):EY s w=some (Z2 (bS s.aA.aC w) (aK s w)):=by
  unfold EY Z2
  rw [uN hs hw,aG,uM hs.1.1.2.1 hw,aG]
  simp only [vN,vM,pP,pQ]
  generalize bS s.aA.aC w=p
  generalize aK s w=j
  cases hb:j.cY
  · cases p.On <;> simp
  · by_cases h0:j.H=0
    · cases p.On <;> simp [h0]
    · by_cases k2:j.Op.Kind=2
      · cases p.On <;> cases p.dJ <;> by_cases q:j.Pc=2 <;> simp [h0,k2,q]
      · by_cases k7:j.Op.Kind=7
        · cases p.On <;> cases p.dJ <;> by_cases q:j.Pc=1 <;> simp [h0,k7,q]
        · by_cases k3:j.Op.Kind=3
          · cases p.On <;> simp [h0,k3]
          · cases p.On <;> simp [h0,k2,k7,k3]
theorem a04(x:Int):MM [] x=some [x]:=by
  unfold MM
  rw [bU (r:=Out.brk ([],false))]
  · simp only [aG,T9,T6,EZ]
    rw [if_pos (by simp),aQ (by simp)];rfl
  · simp [T7]
theorem aAO(hl:s.Log.length≤1000000)(g0:Z2 (bS s.aA.aC 0) (aK s 0)=false)(g1:Z2 (bS s.aA.aC 1) (aK s 1)=true)(g2:Z2 (bS s.aA.aC 2) (aK s 2)=false):yN s=some [(aK s 1).H]:=by
  have hsm:=CN hs hl
  unfold yN
  rw [aLJ hsm,bA hs,aG]
  rw [bV (s':=(([]:List Int),1)) (by
      simp only [t7,l9,oV]
      rw [if_pos (by decide),if_pos trivial,Z9 hs (by omega),aG,g0,if_neg (by simp)];rfl),
    bV (s':=([(aK s 1).H],2)) (by
      simp only [t7,l9,oV]
      rw [if_pos (by decide),if_pos trivial,Z9 hs (by omega),aG,g1,if_pos rfl,uN hs (by omega),aG,a04 hs,aG];rfl),
    bV (s':=([(aK s 1).H],3)) (by
      simp only [t7,l9,oV]
      rw [if_pos (by decide),if_pos trivial,Z9 hs (by omega),aG,g2,if_neg (by simp)];rfl),
    bU (r:=[(aK s 1).H]) (by simp [t7,l9])]
  rfl
end
def goN(w:Int):Nat→aB→aB
  | 0,s=>s
  | n+1,s=>goN w n (iO s w)
theorem aQP{w:Int}(hw:0≤w∧w≤2):∀n s,mY s→s.Log.length+n≤100000→mY (goN w n s)∧(goN w n s).Log.length≤s.Log.length+n
  | 0,s,hs,hl=>⟨hs,by simp [goN]⟩
  | n + 1, s, hs, hl => by
    obtain⟨_,o1,o2⟩:=K1 hs (by omega) hw
    obtain⟨a,b⟩:=aQP hw n _ o1 (by omega)
    exact⟨a,by simp only [goN];omega⟩
theorem aTU{s:aB}(hs:mY s)(hl:s.Log.length≤1000000){w:Int}(hw:0≤w∧w≤2):rS s w=some (iO s w):=by
  have h:=CN hs hl
  unfold rS
  rw [GX h,aG,YK h,aG]
  simp only [bA hs,if_true,kC,aG,bA hw,vL,vK,(K1 hs (by omega) hw).1]
theorem aL1{f:(Int×aB)→Option (Step (Int×aB) aB)}{w:Int}(hw:0≤w∧w≤2){m:Nat}(hm:m≤1000)(h1:∀(k:Nat) s,k < m→f ((k:Int),s)=(rS s w).bind fun x=>some (.next (aY ((k:Int)+1),x)))(h2:∀s,f ((m:Int),s)=some (.stop s)) :
    ∀d k s,k+d=m→mY s→s.Log.length+d≤100000→loop f ((k:Int),s)=some (goN w d s)
  | 0, k, s, hk, hs, hl => by
    obtain rfl:k=m:=by omega
    exact bU (h2 s)
  | d + 1, k, s, hk, hs, hl => by
    obtain⟨_,o1,o2⟩:=K1 hs (by omega) hw
    rw [bV (s':=(((k+1:Nat):Int),iO s w)) (by
      rw [h1 k s (by omega),aTU hs (by omega) hw,aG,aN (by omega) (by omega)];rfl)]
    exact aL1 hw hm h1 h2 d (k+1) _ (by omega) o1 (by omega)
def hzT(v:Int):List Queue:=[⟨[⟨1,0,8,v⟩]⟩,⟨[]⟩,⟨[]⟩]
def YU(u:Int):List bK:=[⟨1,0,8,u⟩,⟨4,0,0,0⟩,⟨4,0,0,0⟩,⟨4,0,0,0⟩,⟨4,0,0,0⟩]
def hzA(v:Int):aB:=yK (dD (hzT v))
def hzB(v:Int):aB:=goN 1 4 (AX (hzA v) 1 [⟨3,0,0,0⟩])
def hzC(v u:Int):aB:=goN 0 120 (AX (hzB v) 0 (YU u))
def hzD(v u:Int):aB:=yK (hzC v u)
def hzE(v u:Int):aB:=yK (U6 (hzD v u) 2)
theorem a79(v:Int):((aK (hzB v) 1).Pc,gF (hzB v) 0,gF (hzB v) 1,gF (hzB v) 2)=(3,false,true,false):=by kernel_rfl
theorem a8A(v u:Int):(dN (hzC v u).aZ 0,(bH (hzC v u).aA.aM).length,gF (hzC v u) 0,gF (hzC v u) 1,gF (hzC v u) 2)=([],1,false,true,false):=by kernel_rfl
theorem a06(v u:Int):g9 (hzC v u).aA.Mem (aK (hzC v u) 1).H:=of_decide_eq_true (by kernel_rfl)
theorem a8B(v u:Int):((eF (hzD v u).Log).length,((eF (hzD v u).Log).getD 6 zEv).Code,((eF (hzD v u).Log).getD 6 zEv).dK)=(7,0,ldx v):=by kernel_rfl
theorem a07(v u:Int):mZ (hzD v u):=of_decide_eq_true (by kernel_rfl)
theorem a8C(v u:Int):(bH (hzE v u).aA.aM).length=0:=by kernel_rfl
theorem aYI{s:aB}(hs:mY s)(hl:s.Log.length≤1000000)(h:yN s=some [(aK s 1).H])(hv:g9 s.aA.Mem (aK s 1).H):JO s=some true:=by
  have hm:=hs.1.1.1
  obtain⟨hcnt,h3,h9,_⟩:=mW.facts hm
  unfold JO
  rw [h,aG]
  rw [bV (s':=(1:Int)) (by
      simp only [H7]
      rw [if_pos (by simp)]
      simp only [idx,aG]
      rw [if_pos (by omega)]
      simp only [Int.toNat_zero,List.getElem?_cons_zero,aG]
      rw [oT hm.1.1.1 (by omega) (by simp only [maxLen];omega) (by simp only [maxLen];omega),aG,bA hv,if_neg (by simp)];rfl),
    bU (r:=Out.brk ()) (by simp [H7]),aG]
  simp only [RO,RN]
  rw [aLJ (CN hs hl),bA hs];rfl
theorem aL2{code:List UInt8}(_:fit code):NV code=some true:=by
  unfold NV vS
  rw [aG]
  by_cases hcl:1048576 < (code.length:Int)
  · rw [if_pos (by simpa using hcl)]
  rw [if_neg (by simpa using hcl)]
  obtain⟨v,e0,h0⟩:=RM (code:=code) (by omega) (i:=0) (by omega)
  obtain⟨u,e1,h1⟩:=RM (code:=code) (by omega) (i:=1) (by omega)
  have i0:idx (List.replicate ((3:Int).toNat) (⟨[]⟩:Queue)) 0=some ⟨[]⟩:=rfl
  have eT:(List.replicate ((3:Int).toNat) (⟨[]⟩:Queue)).set ((0:Int).toNat) (⟨[(⟨1,0,8,v⟩:bK)]⟩:Queue)=hzT v:=rfl
  have hok:ES (hzT v):=by
    refine⟨rfl,fun q hq=>?_⟩
    simp only [hzT,List.mem_cons,List.not_mem_nil,or_false] at hq
    rcases hq with rfl | rfl | rfl
    · exact⟨by simp,fun o ho=>by simp at ho;rw [ho];exact O9 (by omega) (by omega)⟩
    · exact⟨by simp,fun o ho=>by simp at ho⟩
    · exact⟨by simp,fun o ho=>by simp at ho⟩
  obtain⟨f1,f2,f3⟩:=MK (UW hok) (by simp [dD])
  have f3':(yK (dD (hzT v))).Log.length≤3000:=by simpa [dD] using f3
  clear f3
  have gb:=a79 v
  have gc:=a8A v u
  have gv:=a06 v u
  have gd:=a8B v u
  have gi:=a07 v u
  have ge:=a8C v u
  unfold hzE at ge
  unfold hzD at gd gi ge
  unfold hzC at gc gv gd gi ge
  unfold hzB at gb gc gv gd gi ge
  unfold hzA at gb gc gv gd gi ge
  rw [aQ (by omega),e0,aG,i0,aG,eT,(CM (t:=hzT v) (by have:=hok.1;omega) (fun q hq=>by have:=(hok.2 q hq).1;omega)).2,aG,if_pos hok,f1,aG]
  clear f1
  generalize yK (dD (hzT v))=A at *
  have t3:((A.aZ.length:Int) != 3)=false:=by rw [f2.2.2.2.1.1];rfl
  rw [t3,if_neg (by simp),aDM f2 (by omega),aG]
  have hB0:=aGE f2 1 (l:=[⟨3,0,0,0⟩]) (by decide) (by decide)
  have hBl:(AX A 1 [⟨3,0,0,0⟩]).Log.length≤3000:=f3'
  have k1:=aL1 (f:=yP) (w:=1) (m:=4) (by omega) (by omega) (fun k s hk=>by simp only [yP];rw [if_pos (by simp;omega)]) (fun s=>by simp only [yP];rw [if_neg (by simp)]) 4 0 _ rfl hB0 (by omega)
  obtain⟨b1,b2⟩:=aQP (w:=1) (by omega) 4 _ hB0 (by omega)
  have eB0:({A with aZ:=A.aZ.set ((1:Int).toNat) (⟨[(⟨3,0,0,0⟩:bK)]⟩:Queue)}:aB)=AX A 1 [⟨3,0,0,0⟩]:=rfl
  rw [show((0:Nat):Int)=0 from rfl] at k1
  rw [eB0,k1,aG]
  clear k1 eB0
  have b3:(goN 1 4 (AX A 1 [⟨3,0,0,0⟩])).Log.length≤4000:=by omega
  clear b2
  generalize goN 1 4 (AX A 1 [⟨3,0,0,0⟩])=B at *
  unfold gF at gb gc
  simp only [Prod.mk.injEq] at gb
  obtain⟨gb1,gb2,gb3,gb4⟩:=gb
  have j3:((B.aT.length:Int) != 3)=false:=by rw [b1.2.2.1];rfl
  have t3b:((B.aZ.length:Int) != 3)=false:=by rw [b1.2.2.2.1.1];rfl
  simp only [PD,PC]
  rw [j3,if_neg (by simp),t3b,if_neg (by simp),uN b1 (by omega),aG,gb1,if_neg (by simp),aAO b1 (by omega) gb2 gb3 gb4,aG]
  simp only [nD,List.length_cons,List.length_nil]
  rw [if_neg (by simp),e1,aG,aDM b1 (by omega),aG]
  have hops:∀o∈YU u,jY o:=by
    intro o ho
    simp only [YU,List.mem_cons,List.not_mem_nil,or_false] at ho
    rcases ho with rfl | rfl | rfl | rfl | rfl
    · exact O9 (by omega) (by omega)
    all_goals decide
  have hC0:=aGE b1 0 (l:=YU u) (by simp [YU]) hops
  have hCl:(AX B 0 (YU u)).Log.length≤4000:=b3
  have k2:=aL1 (f:=yO) (w:=0) (m:=120) (by omega) (by omega) (fun k s hk=>by simp only [yO];rw [if_pos (by simp;omega)]) (fun s=>by simp only [yO];rw [if_neg (by simp)]) 120 0 _ rfl hC0 (by omega)
  obtain⟨c1,c2⟩:=aQP (w:=0) (by omega) 120 _ hC0 (by omega)
  have eC0:({B with aZ:=B.aZ.set ((0:Int).toNat) (⟨([(⟨1,0,8,u⟩:bK),(⟨4,0,0,0⟩:bK),(⟨4,0,0,0⟩:bK),(⟨4,0,0,0⟩:bK),(⟨4,0,0,0⟩:bK)]:List bK)⟩:Queue)}:aB)=AX B 0 (YU u):=rfl
  rw [show((0:Nat):Int)=0 from rfl] at k2
  rw [eC0,k2,aG]
  clear k2 eC0
  have c3:(goN 0 120 (AX B 0 (YU u))).Log.length≤5000:=by omega
  clear c2
  generalize goN 0 120 (AX B 0 (YU u))=C at *
  simp only [Prod.mk.injEq] at gc
  obtain⟨gc1,gc2,gc3,gc4,gc5⟩:=gc
  have t3c:((C.aZ.length:Int) != 3)=false:=by rw [c1.2.2.2.1.1];rfl
  simp only [PB,PA]
  rw [t3c,if_neg (by simp),aDM c1 (by omega),aG,gc1,if_neg (by simp),QH c1.1.1.2.2.1,aG,gc2,if_neg (by simp),aYI c1 (by omega) (aAO c1 (by omega) gc3 gc4 gc5) gv,aG]
  simp only [nC,dT,aP,if_false]
  obtain⟨d1,d2,d3⟩:=MK c1 (by omega)
  have d3':(yK C).Log.length≤8000:=by omega
  clear d3
  rw [d1,aG,T3 (by omega),aG]
  clear d1
  generalize yK C=D at *
  simp only [Prod.mk.injEq] at gd
  obtain⟨gd1,gd2,gd3⟩:=gd
  have hx:idx (eF D.Log) ((6:Nat):Int)=some ((eF D.Log).getD 6 zEv):=by rw [aV (by omega),List.getD_eq_getElem?_getD,List.getElem?_eq_getElem (by omega)];rfl
  have w1:aY (((7:Nat):Int) - 1)=((6:Nat):Int):=by decide
  obtain⟨r1,r2,r3⟩:=drain_eq d2 (by omega) gi (n:=2) (by omega)
  rw [show((2:Nat):Int)=2 from rfl] at r1
  rw [gd1,if_pos (by decide),w1,hx,aG,gd2,if_pos (by simp),e0,aG,gd3,aP9 (by omega),if_pos (by simp),r1,aG,QH r2.1.1.2.2.1,aG,ge]
  simp [nA]
end Go.Gv
end
