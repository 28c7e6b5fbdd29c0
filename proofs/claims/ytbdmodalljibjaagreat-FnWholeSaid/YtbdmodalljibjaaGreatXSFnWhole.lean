import Derived.Test.YtbdmodalljibjaaGreatXLF
import Derived.Test.YtbdmodalljibjaaGreatProg
set_option linter.unusedVariables false
set_option linter.unusedSimpArgs false
set_option linter.unusedSectionVars false
set_option linter.constructorNameAsVariable false
set_option linter.unnecessarySimpa false
noncomputable section
set_option linter.unusedVariables false
namespace Go.Gv
noncomputable section
def P3:Option Bool:=
  some true
def xY(a_ b:aC):Int→Option (Step Int (Out Unit Bool))
  | x3=>(if decide (x3 < (a_.aN.length:Int)) then (idx a_.aN x3).bind fun x4=>(idx b.aN x3).bind fun x5=>(if !(decide (x4=x5)) then some (.stop (Out.ret false)) else some (.next (aX (x3+1)))) else some (.stop (Out.brk ())))
def P4:(Out Unit Bool)→Option Bool
  | .brk ()=>P3
  | .ret r=>some r
def pT(a_ b:aC)(x1:Bool):Option Bool:=
  (if x1 then some false else (loop (xY a_ b) 0).bind (P4))
def rG(a_ b:aC):Option Bool:=
  (if a_.aE != b.aE then pT a_ b true else pT a_ b ((a_.aN.length:Int) != (b.aN.length:Int)))
def P5:Option Bool:=
  some true
def E2(x2:Int):Option (Step Int (Out Unit Bool)):=
  some (.next (aX (x2+1)))
def pU(a_ b:List aK)(x2:Int):Int→Option (Step Int (Out Unit Bool))
  | x6=>(idx a_ x2).bind fun x7=>(if decide (x6 < (x7.Rows.length:Int)) then (idx a_ x2).bind fun x8=>(idx x8.Rows x6).bind fun x9=>(idx b x2).bind fun x10=>(idx x10.Rows x6).bind fun x11=>(if !(decide (x9=x11)) then some (.stop (Out.ret false)) else some (.next (aX (x6+1)))) else some (.stop (Out.brk ())))
def E3(x2:Int):(Out Unit Bool)→Option (Step Int (Out Unit Bool))
  | .brk ()=>E2 x2
  | .ret r=>some (.stop (Out.ret r))
def xZ(a_ b:List aK):Int→Option (Step Int (Out Unit Bool))
  | x2=>(if decide (x2 < (a_.length:Int)) then (idx a_ x2).bind fun x3=>(idx b x2).bind fun x4=>(if (x3.Rows.length:Int) != (x4.Rows.length:Int) then some (.stop (Out.ret false)) else (loop (pU a_ b x2) 0).bind (E3 x2)) else some (.stop (Out.brk ())))
def P6:(Out Unit Bool)→Option Bool
  | .brk ()=>P5
  | .ret r=>some r
def rH(a_ b:List aK):Option Bool:=
  (if (a_.length:Int) != (b.length:Int) then some false else (loop (xZ a_ b) 0).bind (P6))
def nH(x1:Bool):Option Bool:=
  some x1
def AA(a_ b:aI):Option Bool:=
  (r9 a_.Mem b.Mem).bind fun x2=>(if x2 then (rG a_.aC b.aC).bind fun x3=>(if x3 then (rH a_.aJ b.aJ).bind fun x4=>(if x4 then (kH a_.cA b.cA).bind fun x5=>nH x5 else nH false) else nH false) else nH false)
def RD:Option Bool:=
  some true
def nI(a_ b:List Int):Int→Option (Step Int (Out Unit Bool))
  | x2=>(if decide (x2 < (a_.length:Int)) then (idx a_ x2).bind fun x3=>(idx b x2).bind fun x4=>(if x3 != x4 then some (.stop (Out.ret false)) else some (.next (aX (x2+1)))) else some (.stop (Out.brk ())))
def RE:(Out Unit Bool)→Option Bool
  | .brk ()=>RD
  | .ret r=>some r
def AB(a_ b:List Int):Option Bool:=
  (if (a_.length:Int) != (b.length:Int) then some false else (loop (nI a_ b) 0).bind (RE))
def uU(code:List UInt8):Option aI:=
  (yP code).bind fun x1=>(vV (⟨code,x1.1,x1.2⟩:aL)).bind fun x2=>some x2.1
def BN(x9:Bool):Option Bool:=
  some x9
def fM(x12:Bool):Option Bool:=
  some x12
def BO(x3 x4:Int)(x5 x6:aI)(x7:Sub):Option Bool:=
  (iF x5).bind fun x8=>(if !x8 then (AA x6 x5).bind fun x10=>(if x10 then BN (!x7.cQ) else BN false) else (lV x5.Mem (Int.tmod x3 3) (Int.tmod x4 44)).bind fun x11=>(if x7.cQ then (if x7.Code == x11.2.2 then (if x7.Out == x11.2.1 then (r9 x6.Mem x11.1).bind fun x13=>(if x13 then (rG x6.aC x5.aC).bind fun x14=>(if x14 then (rH x6.aJ x5.aJ).bind fun x15=>(if x15 then (AB x6.cA x5.cA).bind fun x16=>fM x16 else fM false) else fM false) else fM false) else fM false) else fM false) else fM false))
def H9(code:List UInt8):Option Bool:=
  (w7 code).bind fun x1=>(if x1 then some true else (uU code).bind fun x2=>(L4 code 0).bind fun x3=>(L4 code 1).bind fun x4=>(lN 1 (Int.tmod x4 44)).bind fun x17=>(vW x2 (Int.tmod x3 3) x17).bind fun x18=>BO x3 x4 x2 x18.1 x18.2)
end
end Go.Gv
end
noncomputable section
set_option linter.unusedVariables false
set_option maxHeartbeats 4000000
set_option maxRecDepth 100000
namespace Go.Proofs.YtbdmodalljibjaaGreat
open Go.Gv
theorem aEC(D:Nat)(d d':bM)(w:World):(Op.eqFields (D+2) #[.int .i64 (d.Handle),.int .i64 (d.aE)] #[.int .i64 (d'.Handle),.int .i64 (d'.aE)] (match Tryz.prog.underlying 105 with | some (.struct fs)=>fs | _=>#[]).toList).run Tryz.prog w=.ok (decide (d=d')) w:=by
  rw [Tryz.underlying105]
  have h:(d.Handle == d'.Handle && (d.aE == d'.aE && true))=decide (d=d'):=by
    cases d;cases d';rw [Bool.eq_iff_iff];simp
  rw [←h]
  exact GG _ _ _ _ _ rfl (IA Tryz.isAgg3 rfl) (IA Tryz.isAgg3 rfl) (aAL Tryz.underlying3)<|
    GG _ _ _ _ _ rfl (IA Tryz.isAgg3 rfl) (IA Tryz.isAgg3 rfl) (aAL Tryz.underlying3)<|
    aGD _ _ _
end Go.Proofs.YtbdmodalljibjaaGreat
end
noncomputable section
set_option linter.unusedVariables false
set_option maxHeartbeats 4000000
set_option maxRecDepth 100000
namespace Go.Proofs.YtbdmodalljibjaaGreat
open Go.Gv
noncomputable section
variable {κ:Ctx}
theorem G4{a_ b:aC}{s1:AC}{s2:AC}(h1:bE κ s1 a_.aN)(h2:bE κ s2 b.aN):V0 Tryz.prog κ 61 (rG a_ b) [.g [I a_.aE,.h s1 a_.aN.length],.g [I b.aE,.h s2 b.aN.length]] .b:=
 cE tok Tryz.call61 Tryz.func61 Tryz.results61 Q Q<|cW 0 2 (pT a_ b) [2,3] 19 [0,1] Q (dR [10,11] Q Q (bU [0,1] Q Q)<|bU [0,1] Q Q) fun x1=>bD [19] Q Q (cB Q Q)<|ID 5 [2,3] [0,1] Out.brk [] [] Q Q (fun hF2 x3 hr2=>bD [24] Q Q (eM aG [0,1] Q<|E8 NX Q h1 Q fun x4 _ _=>E8 NX Q h2 Q fun x5 _ _=>fun hG2=>neS Tryz.eqGuardType175 Tryz.stoodInHeld175 Tryz.underlying175 (KK 9997 x4 x5) Q Q Q Q Q Q<|wi hG2<|bD [37] Q Q (GL hr2 hF2<|cB Q Q)<|C1 [0,1] Q)<|C3 [] Q)<|cB Q Q
theorem G5{a_ b:List aK}{s1:AC}{s2:AC}(h1:bE κ s1 a_)(h2:bE κ s2 b):V0 Tryz.prog κ 62 (rH a_ b) [.h s1 a_.length,.h s2 b.length] .b:=
 cE tok Tryz.call62 Tryz.func62 Tryz.results62 Q Q<|bD [11] Q Q (cB Q Q)<|ID 5 [0,1] [] Out.brk [] [] Q Q (fun hF1 x2 hr1=>bD [15] Q Q (eM aG [] Q<|E8 yU Q h1 Q fun x3 s3 h3=>E8 yU Q h2 Q fun x4 s4 h4=>bD [30] Q Q (GL hr1 hF1<|cB Q Q)<|ID 6 [0,1,5] [] Out.brk [0,1,5] [] Q Q (fun hF2 x6 hr2=>E8 yU Q h1 Q fun x7 s5 h5=>bD [38] Q Q (eM aG [0] Q<|E8 yU Q h1 Q fun x8 s6 h6=>E8 V1 Q h6 Q fun x9 _ _=>E8 yU Q h2 Q fun x10 s7 h7=>E8 V1 Q h7 Q fun x11 _ _=>fun hG2=>neS Tryz.eqGuardType105 Tryz.stoodInHeld105 Tryz.underlying105 (aEC 9997 x9 x11) Q Q Q Q Q Q<|wi hG2<|bD [57] Q Q (GL hr2 hF2<|GL hr1 hF1<|cB Q Q)<|C1 [] Q)<|C3 [] Q)<|C1 [] Q)<|C3 [] Q)<|cB Q Q
theorem TQ{a_ b:aI}{s1 s2 s3 s4 s5 s6 s7:AC}{s8 s9 s10 s11 s12 s13 s14:AC}(h1:bE κ s1 a_.Mem.aB.Bytes)(h2:bE κ s2 a_.Mem.aB.Class)(h3:bE κ s3 a_.Mem.aA.Global)(h4:bE κ s4 a_.Mem.aA.aR)(h5:bE κ s5 a_.aC.aN)(h6:bE κ s6 a_.aJ)(h7:bE κ s7 a_.cA)(h8:bE κ s8 b.Mem.aB.Bytes)(h9:bE κ s9 b.Mem.aB.Class)(h10:bE κ s10 b.Mem.aA.Global)(h11:bE κ s11 b.Mem.aA.aR)(h12:bE κ s12 b.aC.aN)(h13:bE κ s13 b.aJ)(h14:bE κ s14 b.cA):V0 Tryz.prog κ 59 (AA a_ b) [.g [.h s1 a_.Mem.aB.Bytes.length,.h s2 a_.Mem.aB.Class.length,.h s3 a_.Mem.aA.Global.length,.h s4 a_.Mem.aA.aR.length,I a_.aC.aE,.h s5 a_.aC.aN.length,.h s6 a_.aJ.length,.h s7 a_.cA.length],.g [.h s8 b.Mem.aB.Bytes.length,.h s9 b.Mem.aB.Class.length,.h s10 b.Mem.aA.Global.length,.h s11 b.Mem.aA.aR.length,I b.aC.aE,.h s12 b.aC.aN.length,.h s13 b.aJ.length,.h s14 b.cA.length]] .b:=
 cE tok Tryz.call59 Tryz.func59 Tryz.results59 Q Q<|cW 0 2 nH [] 4 [] Q (c0 Q (fun h=>DP (h.a h1) (h.a h2) (h.a h3) (h.a h4) (h.a h8) (h.a h9) (h.a h10) (h.a h11)) fun x2=>dR [9,10] Q Q (c0 Q (fun h=>G4 (h.a h5) (h.a h12)) fun x3=>dR [15,16,17] Q Q (c0 Q (fun h=>G5 (h.a h6) (h.a h13)) fun x4=>dR [22,23,24] Q Q (c0 Q (fun h=>sD (h.a h7) (h.a h14)) fun x5=>bU [] Q Q)<|bU [] Q Q)<|bU [] Q Q)<|bU [] Q Q) fun x1=>cB Q Q
theorem TR{a_ b:List Int}{s1:AC}{s2:AC}(h1:bE κ s1 a_)(h2:bE κ s2 b):V0 Tryz.prog κ 38 (AB a_ b) [.h s1 a_.length,.h s2 b.length] .b:=
 cE tok Tryz.call38 Tryz.func38 Tryz.results38 Q Q<|bD [10] Q Q (cB Q Q)<|ID 5 [0,1] [] Out.brk [] [] Q Q (fun hF1 x2 hr1=>bD [14] Q Q (eM aG [] Q<|MF Q h1 Q fun x3=>MF Q h2 Q fun x4=>bD [25] Q Q (GL hr1 hF1<|cB Q Q)<|C1 [] Q)<|C3 [] Q)<|cB Q Q
theorem P7{code:List UInt8}{s1:AC}(h1:bE κ s1 code):VS Tryz.prog κ 58 (uU code) [.h s1 code.length] [] [] (fun r (y:AC×AC×AC×AC×AC×AC×AC)=>.g [.h y.1 r.Mem.aB.Bytes.length,.h y.2.1 r.Mem.aB.Class.length,.h y.2.2.1 r.Mem.aA.Global.length,.h y.2.2.2.1 r.Mem.aA.aR.length,I r.aC.aE,.h y.2.2.2.2.1 r.aC.aN.length,.h y.2.2.2.2.2.1 r.aJ.length,.h y.2.2.2.2.2.2 r.cA.length]) (fun r y=>[ow y.1 r.Mem.aB.Bytes,ow y.2.1 r.Mem.aB.Class,ow y.2.2.1 r.Mem.aA.Global,ow y.2.2.2.1 r.Mem.aA.aR,ow y.2.2.2.2.1 r.aC.aN,ow y.2.2.2.2.2.1 r.aJ,ow y.2.2.2.2.2.2 r.cA]):=
 cE tok Tryz.call58 Tryz.func58 Tryz.results58 Q Q<|cP Q (fun h=>HW (h.a h1)) fun x1=>bP 1 1 0 3 [] Q Q Q Q Q (fun h=>FU (c:=(⟨code,x1.1,x1.2⟩:aL)) (h.a h1)) fun x2 s2=>eA (s2.1,s2.2.1,s2.2.2.1,s2.2.2.2.1,s2.2.2.2.2.1,s2.2.2.2.2.2.1,s2.2.2.2.2.2.2) [2,3,4,5,6,7,8] Q Q
theorem XV{code:List UInt8}{s1:AC}(h1:bE κ s1 code):V0 Tryz.prog κ 11 (H9 code) [.h s1 code.length] .b:=
 cE tok Tryz.call11 Tryz.func11 Tryz.results11 Q Q<|c0 Q (fun h=>HV (h.a h1)) fun x1=>bD [12] Q Q (cB Q Q)<|c1 Q (fun h=>P7 (h.a h1)) fun x2 s2=>c0 Q (fun h=>Q2 (h.a h1)) fun x3=>c0 Q (fun h=>Q2 (h.a h1)) fun x4=>dL 0 3 (fun(p:aI×aI×Sub)=>BO x3 x4 p.1 p.2.1 p.2.2) [3,4,5] (fun(p:aI×aI×Sub) (u:AC×AC×AC×AC×AC×AC×AC)=>[(6,.p 1 0),(7,.p 2 0)]) [] (fun p u=>[ow s2.1 (p.1.Mem.aB.Bytes:List Int),ow s2.2.1 (p.1.Mem.aB.Class:List Int),ow s2.2.2.1 (p.1.Mem.aA.Global:List aD),ow s2.2.2.2.1 (p.1.Mem.aA.aR:List aD),ow s2.2.2.2.2.1 (p.1.aC.aN:List dS),ow s2.2.2.2.2.2.1 (p.1.aJ:List aK),ow s2.2.2.2.2.2.2 (p.1.cA:List Int),.box 0 [.h s2.1 p.1.Mem.aB.Bytes.length,.h s2.2.1 p.1.Mem.aB.Class.length,.h s2.2.2.1 p.1.Mem.aA.Global.length,.h s2.2.2.2.1 p.1.Mem.aA.aR.length,I p.1.aC.aE,.h s2.2.2.2.2.1 p.1.aC.aN.length,.h s2.2.2.2.2.2.1 p.1.aJ.length,.h s2.2.2.2.2.2.2 p.1.cA.length],ow u.1 (p.2.1.Mem.aB.Bytes:List Int),ow u.2.1 (p.2.1.Mem.aB.Class:List Int),ow u.2.2.1 (p.2.1.Mem.aA.Global:List aD),ow u.2.2.2.1 (p.2.1.Mem.aA.aR:List aD),ow u.2.2.2.2.1 (p.2.1.aC.aN:List dS),ow u.2.2.2.2.2.1 (p.2.1.aJ:List aK),ow u.2.2.2.2.2.2 (p.2.1.cA:List Int),.box 1 [.h u.1 p.2.1.Mem.aB.Bytes.length,.h u.2.1 p.2.1.Mem.aB.Class.length,.h u.2.2.1 p.2.1.Mem.aA.Global.length,.h u.2.2.2.1 p.2.1.Mem.aA.aR.length,I p.2.1.aC.aE,.h u.2.2.2.2.1 p.2.1.aC.aN.length,.h u.2.2.2.2.2.1 p.2.1.aJ.length,.h u.2.2.2.2.2.2 p.2.1.cA.length],.box 2 [I p.2.2.Kind,I p.2.2.A,I p.2.2.Pc,I p.2.2.E,I p.2.2.Row,I p.2.2.B,I p.2.2.H,I p.2.2.Out,I p.2.2.Code,.b p.2.2.cQ]]) Q (eM aG [7] Q<|fun hF=>bd hF fun x17 hA1 hF=>bd hF fun x18 hA2 hF=>X0 Q Q (have hq1:=rb hA1;wi hq1<|c0 Q (fun _=>dK) fun u1=>fun hq1=>match u1,hq1 with | _,rfl=>X0 Q Q (have hq2:=rb hA2;wi hq2<|c1 Q (fun h=>bC (h.o 0 Q) (h.o 1 Q) (h.o 2 Q) (h.o 3 Q) (h.o 4 Q) (h.o 5 Q) (h.o 6 Q)) fun u2 s12=>fun hq2=>match u2,hq2 with | _,rfl=>cT Q Q (wi hF<|e7 (p:=(x2,x18.1,x18.2)) (s12.1,s12.2.1,s12.2.2.1,s12.2.2.2.1,s12.2.2.2.2.1,s12.2.2.2.2.2.1,s12.2.2.2.2.2.2) [0,1,2,3,4,5,6,7,8,9,10,11,12,13,14,15,16] Q Q) (sF Q<|N8 2 1 Q<|fD Q Q<|gP (p:=(x2,x18.1,x18.2)) (s12.1,s12.2.1,s12.2.2.1,s12.2.2.2.1,s12.2.2.2.2.1,s12.2.2.2.2.2.1,s12.2.2.2.2.2.2) [0,1,2,3,4,5,6,7,8,9,10,11,12,13,14,16,15] hF Q)) (cT Q Q (have hq3:=rb hA2;wi hq3<|c1 Q (fun h=>bC (h.o 0 Q) (h.o 1 Q) (h.o 2 Q) (h.o 3 Q) (h.o 4 Q) (h.o 5 Q) (h.o 6 Q)) fun u3 s13=>fun hq3=>match u3,hq3 with | _,rfl=>wi hF<|e7 (p:=(x2,x18.1,x18.2)) (s13.1,s13.2.1,s13.2.2.1,s13.2.2.2.1,s13.2.2.2.2.1,s13.2.2.2.2.2.1,s13.2.2.2.2.2.2) [0,1,2,3,4,5,6,7,9,10,11,12,13,14,15,8,16] Q Q) (have hq4:=rb hA2;wi hq4<|c1 Q (fun h=>bC (h.o 0 Q) (h.o 1 Q) (h.o 2 Q) (h.o 3 Q) (h.o 4 Q) (h.o 5 Q) (h.o 6 Q)) fun u4 s14=>fun hq4=>match u4,hq4 with | _,rfl=>wi hF<|e7 (p:=(x2,x18.1,x18.2)) (s14.1,s14.2.1,s14.2.2.1,s14.2.2.2.1,s14.2.2.2.2.1,s14.2.2.2.2.2.1,s14.2.2.2.2.2.2) [0,1,2,3,4,5,6,7,10,11,12,13,14,15,16,8,9] Q Q)) (cT Q Q (have hq5:=rb hA2;wi hq5<|c1 Q (fun h=>bC (h.o 0 Q) (h.o 1 Q) (h.o 2 Q) (h.o 3 Q) (h.o 4 Q) (h.o 5 Q) (h.o 6 Q)) fun u5 s15=>fun hq5=>match u5,hq5 with | _,rfl=>sF Q<|N8 2 1 Q<|fD Q Q<|gP (p:=(x2,x18.1,x18.2)) (s15.1,s15.2.1,s15.2.2.1,s15.2.2.2.1,s15.2.2.2.2.1,s15.2.2.2.2.2.1,s15.2.2.2.2.2.2) [0,1,2,3,4,5,6,7,9,10,11,12,13,14,15,16,8] hF Q) (have hq6:=rb hA2;wi hq6<|c1 Q (fun h=>bC (h.o 0 Q) (h.o 1 Q) (h.o 2 Q) (h.o 3 Q) (h.o 4 Q) (h.o 5 Q) (h.o 6 Q)) fun u6 s16=>fun hq6=>match u6,hq6 with | _,rfl=>sF Q<|N8 2 1 Q<|fD Q Q<|gP (p:=(x2,x18.1,x18.2)) (s16.1,s16.2.1,s16.2.2.1,s16.2.2.2.1,s16.2.2.2.2.1,s16.2.2.2.2.2.1,s16.2.2.2.2.2.2) [0,1,2,3,4,5,6,7,10,11,12,13,14,15,16,9,8] hF Q))) (cT Q Q (have hq7:=rb hA1;wi hq7<|c0 Q (fun _=>dK) fun u7=>fun hq7=>match u7,hq7 with | _,rfl=>cT Q Q (have hq8:=rb hA2;wi hq8<|c1 Q (fun h=>bC (h.o 0 Q) (h.o 1 Q) (h.o 2 Q) (h.o 3 Q) (h.o 4 Q) (h.o 5 Q) (h.o 6 Q)) fun u8 s17=>fun hq8=>match u8,hq8 with | _,rfl=>wi hF<|e7 (p:=(x2,x18.1,x18.2)) (s17.1,s17.2.1,s17.2.2.1,s17.2.2.2.1,s17.2.2.2.2.1,s17.2.2.2.2.2.1,s17.2.2.2.2.2.2) [0,1,2,3,4,5,6,7,9,10,11,12,13,14,15,8,16] Q Q) (have hq9:=rb hA2;wi hq9<|c1 Q (fun h=>bC (h.o 0 Q) (h.o 1 Q) (h.o 2 Q) (h.o 3 Q) (h.o 4 Q) (h.o 5 Q) (h.o 6 Q)) fun u9 s18=>fun hq9=>match u9,hq9 with | _,rfl=>wi hF<|e7 (p:=(x2,x18.1,x18.2)) (s18.1,s18.2.1,s18.2.2.1,s18.2.2.2.1,s18.2.2.2.2.1,s18.2.2.2.2.2.1,s18.2.2.2.2.2.2) [0,1,2,3,4,5,6,7,10,11,12,13,14,15,16,8,9] Q Q)) (have hq10:=rb hA1;wi hq10<|c0 Q (fun _=>dK) fun u10=>fun hq10=>match u10,hq10 with | _,rfl=>have hq11:=rb hA2;wi hq11<|c1 Q (fun h=>bC (h.o 0 Q) (h.o 1 Q) (h.o 2 Q) (h.o 3 Q) (h.o 4 Q) (h.o 5 Q) (h.o 6 Q)) fun u11 s19=>fun hq11=>match u11,hq11 with | _,rfl=>wi hF<|e7 (p:=(x2,x18.1,x18.2)) (s19.1,s19.2.1,s19.2.2.1,s19.2.2.2.1,s19.2.2.2.2.1,s19.2.2.2.2.2.1,s19.2.2.2.2.2.2) [0,1,2,3,4,5,6,7,10,11,12,13,14,15,16,8,9] Q Q)) (cT Q Q (have hq12:=rb hA1;wi hq12<|c0 Q (fun _=>dK) fun u12=>fun hq12=>match u12,hq12 with | _,rfl=>cT Q Q (have hq13:=rb hA2;wi hq13<|c1 Q (fun h=>bC (h.o 0 Q) (h.o 1 Q) (h.o 2 Q) (h.o 3 Q) (h.o 4 Q) (h.o 5 Q) (h.o 6 Q)) fun u13 s20=>fun hq13=>match u13,hq13 with | _,rfl=>sF Q<|N8 2 1 Q<|fD Q Q<|gP (p:=(x2,x18.1,x18.2)) (s20.1,s20.2.1,s20.2.2.1,s20.2.2.2.1,s20.2.2.2.2.1,s20.2.2.2.2.2.1,s20.2.2.2.2.2.2) [0,1,2,3,4,5,6,7,9,10,11,12,13,14,15,16,8] hF Q) (have hq14:=rb hA2;wi hq14<|c1 Q (fun h=>bC (h.o 0 Q) (h.o 1 Q) (h.o 2 Q) (h.o 3 Q) (h.o 4 Q) (h.o 5 Q) (h.o 6 Q)) fun u14 s21=>fun hq14=>match u14,hq14 with | _,rfl=>sF Q<|N8 2 1 Q<|fD Q Q<|gP (p:=(x2,x18.1,x18.2)) (s21.1,s21.2.1,s21.2.2.1,s21.2.2.2.1,s21.2.2.2.2.1,s21.2.2.2.2.2.1,s21.2.2.2.2.2.2) [0,1,2,3,4,5,6,7,10,11,12,13,14,15,16,9,8] hF Q)) (have hq15:=rb hA1;wi hq15<|c0 Q (fun _=>dK) fun u15=>fun hq15=>match u15,hq15 with | _,rfl=>have hq16:=rb hA2;wi hq16<|c1 Q (fun h=>bC (h.o 0 Q) (h.o 1 Q) (h.o 2 Q) (h.o 3 Q) (h.o 4 Q) (h.o 5 Q) (h.o 6 Q)) fun u16 s22=>fun hq16=>match u16,hq16 with | _,rfl=>sF Q<|N8 2 1 Q<|fD Q Q<|gP (p:=(x2,x18.1,x18.2)) (s22.1,s22.2.1,s22.2.2.1,s22.2.2.2.1,s22.2.2.2.2.1,s22.2.2.2.2.2.1,s22.2.2.2.2.2.2) [0,1,2,3,4,5,6,7,10,11,12,13,14,15,16,9,8] hF Q))) fun⟨x5,x6,x7⟩ ⟨s3,s4,s5,s6,s7,s8,s9⟩=>c0 Q (fun h=>jR (h.o 0 Q) (h.o 1 Q) (h.o 2 Q) (h.o 3 Q) (h.o 4 Q) (h.o 5 Q) (h.o 6 Q)) fun x8=>bD [31] Q Q (cW 0 3 BN [] 2 [] Q (c0 Q (fun h=>TQ (h.o 8 Q) (h.o 9 Q) (h.o 10 Q) (h.o 11 Q) (h.o 12 Q) (h.o 13 Q) (h.o 14 Q) (h.o 0 Q) (h.o 1 Q) (h.o 2 Q) (h.o 3 Q) (h.o 4 Q) (h.o 5 Q) (h.o 6 Q)) fun x10=>dR [34,35] Q Q (bU [] Q Q)<|bU [] Q Q) fun x9=>cB Q Q)<|c1 Q (fun h=>oW (h.o 0 Q) (h.o 1 Q) (h.o 2 Q) (h.o 3 Q)) fun x11 s10=>cW 0 4 fM [] 2 [] Q (dR [50,51] Q Q (dR [55,56,57] Q Q (dR [61,62,63] Q Q (c0 Q (fun h=>DP (h.o 8 Q) (h.o 9 Q) (h.o 10 Q) (h.o 11 Q) (h.o 17 Q) (h.o 18 Q) (h.o 19 Q) (h.o 20 Q)) fun x13=>dR [67,68,69] Q Q (c0 Q (fun h=>G4 (h.o 12 Q) (h.o 4 Q)) fun x14=>dR [74,75,76] Q Q (c0 Q (fun h=>G5 (h.o 13 Q) (h.o 5 Q)) fun x15=>dR [81,82,83] Q Q (c0 Q (fun h=>TR (h.o 14 Q) (h.o 6 Q)) fun x16=>bU [] Q Q)<|bU [] Q Q)<|bU [] Q Q)<|bU [] Q Q)<|bU [] Q Q)<|bU [] Q Q)<|bU [] Q Q) fun x12=>cB Q Q
end
end Go.Proofs.YtbdmodalljibjaaGreat
end
noncomputable section
set_option linter.unusedVariables false
set_option linter.unusedSimpArgs false
set_option linter.unusedSectionVars false
namespace Go.Gv
noncomputable section
variable (s:pZ) (w:Int) (j:MG)
end
noncomputable section
variable {s:pZ} (hs:SOk s) {w:Int} (hw:0≤w∧w≤2) (h:Ep s.aI.aC (aHU s))
include hs hw h
end
theorem ZC{l:List Int}(hl:l.length≤1000000000):AB l l=some true:=by
  unfold AB
  rw [if_neg (by simp)]
  have key:loop (nI l l) 0=some (Out.brk ()):=iB (f:=nI l l) l.length (fun k=>(k:Int)) _ (fun k hk=>by
    simp only [nI]
    rw [if_pos (by simp;omega),aW hk]
    simp only [Option.bind_some,bne_self_eq_false,Bool.false_eq_true,if_false]
    rw [aP (by omega) (by omega)];rfl) (by simp [nI])
  rw [key];rfl
end Go.Gv
end
noncomputable section
set_option linter.unusedVariables false
set_option linter.unusedSimpArgs false
set_option linter.unusedSectionVars false
namespace Go.Gv
theorem LK{c:aC}(h:c.aN.length≤1048576):rG c c=some true:=by
  unfold rG
  simp only [bne_self_eq_false,Bool.false_eq_true,if_false,pT]
  rw [aDU (r:=Out.brk ()) (n:=c.aN.length) (by omega) (fun k hk=>by
    simp only [xY]
    rw [if_pos (by simp;omega),aW hk]
    simp only [Option.bind_some,decide_true,Bool.not_true,Bool.false_eq_true,if_false]) (by simp [xY])];rfl
theorem LL{l:List aK}(hl:l.length≤1048576)(hs:∀s∈l,s.Rows.length≤1048576):rH l l=some true:=by
  unfold rH
  rw [if_neg (by simp),aDU (r:=Out.brk ()) (n:=l.length) (by omega) (fun k hk=>by
    have hr:=hs _ (List.getElem_mem hk)
    have hi:loop (pU l l (k:Int)) 0=some (Out.brk ()):=aDU (n:=l[k].Rows.length) (by omega) (fun j hj=>by
      simp only [pU,aW hk,Option.bind_some]
      rw [if_pos (by simp;omega),aW hj]
      simp only [Option.bind_some,decide_true,Bool.not_true,Bool.false_eq_true,if_false]) (by simp [pU,aW hk])
    simp only [xZ]
    rw [if_pos (by simp;omega),aW hk]
    simp only [Option.bind_some,bne_self_eq_false,Bool.false_eq_true,if_false,hi,E3,E2]) (by simp [xZ])];rfl
theorem ZD{b:aI}(h:kS b):AA b b=some true:=by
  have hr:=h.rows
  obtain⟨h1,h2,h3,h4,h5⟩:=h
  unfold AA
  rw [H5 h1,LK h2,LL h3 hr,xU (by omega)];rfl
end Go.Gv
end
noncomputable section
set_option linter.unusedVariables false
set_option linter.unusedSimpArgs false
set_option linter.unusedSectionVars false
namespace Go.Gv
theorem aED{l:List Int}(h:∀x∈l,0≤x)(hn:¬0≤(PT l).2):l=[]:=by
  rcases List.eq_nil_or_concat l with rfl | ⟨L,b,rfl⟩
  · rfl
  · exfalso
    apply hn
    simp only [PT,List.concat_eq_append,List.getLastD_concat]
    exact h b (by simp)
theorem XW{l:List aD}{k:Nat}(hk:k < l.length)(h:dT l k=[]):l.set k ⟨(PT (dT l k)).1⟩=l:=by
  have e:l[k]=⟨(PT (dT l k)).1⟩:=by
    have:=cJ hk
    rw [h] at this ⊢
    cases hq:l[k];rw [hq] at this;simp only at this;rw [this];rfl
  rw [←e];exact List.set_getElem_self _
noncomputable section
variable {m:Mem} (hm:kO m)
include hm
theorem aAH:(∀k,k < 9→∀x∈dT m.aA.aR k,0≤x)∧∀k,k < 3→∀x∈dT m.aA.Global k,0≤x:=by
  obtain⟨hcnt,h3,h9,_⟩:=kO.facts hm
  constructor
  · intro k hk x hx
    rw [←cJ (by omega)] at hx
    exact(hm.1.2.2.2.2.1 x (List.mem_append_right _ (List.mem_flatMap.2 ⟨_,List.getElem_mem _,hx⟩))).1
  · intro k hk x hx
    rw [←cJ (by omega)] at hx
    exact(hm.1.2.2.2.2.1 x (List.mem_append_left _ (List.mem_flatMap.2 ⟨_,List.getElem_mem _,hx⟩))).1
theorem P8{w c:Int}(hw:0≤w∧w≤2)(hc:0≤c∧c≤2)(hn:¬0≤(eJ m w c).2):eJ m w c=(m,-1):=by
  obtain⟨hcnt,h3,h9,_⟩:=kO.facts hm
  have e:=aED ((aAH hm).1 (w * 3+c).toNat (by omega)) hn
  unfold eJ
  rw [XW (by omega) e,e];rfl
theorem NN{c:Int}(hc:0≤c∧c≤2)(hn:¬0≤(dO m c).2):dO m c=(m,-1):=by
  obtain⟨hcnt,h3,h9,_⟩:=kO.facts hm
  have e:=aED ((aAH hm).2 c.toNat (by omega)) hn
  unfold dO
  rw [XW (by omega) e,e];rfl
omit hm in
theorem XX{c:Int}(hn:¬0≤(l5 m c).2):l5 m c=(m,-1):=by
  unfold l5 at hn ⊢
  split
  · rfl
  · rename_i q
    rw [if_neg q] at hn
    exact absurd (show(0:Int)≤(P9 m.aB:Int) * 4 by omega) hn
theorem aML{w c:Int}(hw:0≤w∧w≤2)(hc:0≤c∧c≤2):r5 m.aA w c=some ((eJ m w c).1.aA,(eJ m w c).2)∧(0≤(eJ m w c).2→dE (eJ m w c).1.aB∧0≤bB (eJ m w c).1.aB (eJ m w c).2):=by
  obtain⟨l,t,x,e1,e2,_,_,e3,e4⟩:=H4 hm hw hc
  obtain⟨hcnt,h3,h9,h1,h2,hsm,hcp,hlo,hsG,hsO⟩:=kO.facts hm
  have hk:(w * 3+c).toNat < m.aA.aR.length:=by omega
  have hl:=hsO _ (List.getElem_mem hk)
  have hx:idx m.aA.aR (w * 3+c)=some m.aA.aR[(w * 3+c).toNat]:=fI (by omega) (by omega)
  rw [hx] at e1;cases e1
  have e2':=e2
  rw [MA (by omega)] at e2
  injection e2 with e2;injection e2 with e5 e6
  have ep:eJ m w c=(⟨m.aB,⟨m.aA.Global,m.aA.aR.set (w * 3+c).toNat t⟩⟩,x):=by
    unfold eJ
    rw [←cJ hk,e5,e6]
  rw [ep]
  refine⟨?_,fun h0=>⟨hm.1.1.1,e3 h0⟩⟩
  unfold r5 oV
  rw [pH (by omega) (by omega) (fun s h=>by have:=hsG s h;omega) (fun s h=>by have:=hsO s h;omega),Option.bind_some,(xT hw hc).1,Option.bind_some,lE (by omega),decide_eq_true hm.1.2,Option.bind_some,if_neg (by simp),decide_eq_false (by omega),if_neg (by simp),hx,Option.bind_some,e2',Option.bind_some]
theorem aIX{c:Int}(hc:0≤c∧c≤2):lB m.aA c=some ((dO m c).1.aA,(dO m c).2)∧(0≤(dO m c).2→dE (dO m c).1.aB∧0≤bB (dO m c).1.aB (dO m c).2):=by
  obtain⟨l,t,x,e1,e2,_,_,e3,e4⟩:=z7 hm hc
  obtain⟨hcnt,h3,h9,h1,h2,hsm,hcp,hlo,hsG,hsO⟩:=kO.facts hm
  have hk:c.toNat < m.aA.Global.length:=by omega
  have hl:=hsG _ (List.getElem_mem hk)
  have hx:idx m.aA.Global c=some m.aA.Global[c.toNat]:=fI (by omega) (by omega)
  rw [hx] at e1;cases e1
  have e2':=e2
  rw [MA (by omega)] at e2
  injection e2 with e2;injection e2 with e5 e6
  have ep:dO m c=(⟨m.aB,⟨m.aA.Global.set c.toNat t,m.aA.aR⟩⟩,x):=by
    unfold dO
    rw [←cJ hk,e5,e6]
  rw [ep]
  refine⟨?_,fun h0=>⟨hm.1.1.1,e3 h0⟩⟩
  unfold lB kE
  rw [pH (by omega) (by omega) (fun s h=>by have:=hsG s h;omega) (fun s h=>by have:=hsO s h;omega),Option.bind_some,lE (by omega),decide_eq_true hm.1.2,Option.bind_some,if_neg (by simp),bJ,decide_eq_true hc,Option.bind_some,if_neg (by simp),hx,Option.bind_some,e2',Option.bind_some]
theorem aRE{c:Int}(hc:0≤c∧c≤2)(h0:0≤(l5 m c).2):dE (l5 m c).1.aB∧0≤bB (l5 m c).1.aB (l5 m c).2:=by
  obtain⟨m',s,e1,_,_,e2,_⟩:=PR hm hc
  rw [Q6 hm hc] at e1
  injection e1 with e1
  rw [e1] at h0 ⊢
  exact e2 h0
end
def y6(m:Mem)(w n:Int):Mem×Int×Int:=
  if e9 n < 0 then (m,0,2)
  else if 0≤(eJ m w (e9 n)).2 then ((eJ m w (e9 n)).1,aDM (eJ m w (e9 n)).1 (eJ m w (e9 n)).2,0)
  else if 0≤(dO m (e9 n)).2 then ((dO m (e9 n)).1,aDM (dO m (e9 n)).1 (dO m (e9 n)).2,0)
  else if 0≤(l5 m (e9 n)).2 then ((l5 m (e9 n)).1,aDM (l5 m (e9 n)).1 (l5 m (e9 n)).2,0)
  else (m,0,3)
theorem aEE{m:Mem}(hm:kO m){w:Int}(hw:0≤w∧w≤2)(n:Int):lV m w n=some (y6 m w n):=by
  have hr:=N4 n
  unfold lV y6
  rw [vY hm.wk.small,Option.bind_some,Z9,Option.bind_some,hm.wk.aAD,Option.bind_some,decide_eq_true hm,if_neg (by simp),bJ,Option.bind_some,decide_eq_true hw]
  unfold mZ
  rw [if_neg (by simp)]
  by_cases c0:e9 n < 0
  · rw [if_pos (by simpa using c0),if_pos c0]
  rw [if_neg (by simpa using c0),if_neg c0]
  generalize e9 n=c at *
  have hc:0≤c∧c≤2:=by omega
  have fin:∀(p:Mem×Int),0≤p.2→(dE p.1.aB∧0≤bB p.1.aB p.2)→gY p.2 p.1=some (p.1,aDM p.1 p.2,0):=fun p hp h=>by
    unfold gY
    rw [if_neg (by simpa using hp),aHR h.1 h.2,Option.bind_some]
  obtain⟨e1,e2⟩:=aML hm hw hc
  obtain⟨g1,g2⟩:=aIX hm hc
  have hO:(eJ m w c).1=⟨m.aB,(eJ m w c).1.aA⟩:=rfl
  have hG:(dO m c).1=⟨m.aB,(dO m c).1.aA⟩:=rfl
  rw [e1,Option.bind_some]
  by_cases o:0≤(eJ m w c).2
  · rw [if_neg (by simpa using o),if_pos o]
    unfold gZ
    rw [if_neg (by simpa using o)]
    have:=fin _ o (e2 o)
    rw [hO] at this
    exact this
  · rw [if_pos (by simpa using o),if_neg o,P8 hm hw hc o]
    simp only
    rw [g1,Option.bind_some]
    unfold gZ
    by_cases p:0≤(dO m c).2
    · rw [if_neg (by simpa using p),if_pos p]
      have:=fin _ p (g2 p)
      rw [hG] at this
      exact this
    · rw [if_pos (by simpa using p),if_neg p,NN hm hc p]
      simp only
      have em:(⟨m.aB,⟨m.aA.Global,m.aA.aR⟩⟩:Mem)=m:=rfl
      rw [em,Q6 hm hc,Option.bind_some]
      by_cases q:0≤(l5 m c).2
      · rw [if_pos q];exact fin _ q (aRE hm hc q)
      · rw [if_neg q,XX q];rfl
theorem aIY{b:aI}(hb:eQ b){w:Int}(hw:0≤w∧w≤2)(n:Int)(k:Nat):∃s,MJ w (k+4) b (aDR 1 n)=({b with Mem:=(y6 b.Mem w n).1},s)∧s.cQ=true∧s.Code=(y6 b.Mem w n).2.2∧s.Out=(y6 b.Mem w n).2.1:=by
  have hm:=hb.1.1
  have hr:=N4 n
  have sub:∀s:Sub,s.cQ=false→s.Kind=1→l7 b w s=F7 b w s:=fun s h1 h2=>by unfold l7;simp [h1,h2]
  unfold y6
  rw [nE rfl,sub _ rfl rfl]
  by_cases c0:e9 n < 0
  · have e:F7 b w (aDR 1 n)=(b,AV (aDR 1 n) 2):=by unfold F7;exact if_pos c0
    rw [e,if_pos c0]
    simp only
    rw [yY rfl]
    exact⟨_,rfl,rfl,rfl,rfl⟩
  simp only [if_neg c0]
  have al:∀pc:Int,F7 b w ⟨1,n,pc,0,0,0,0,0,0,false⟩=if pc=0 then nD b ⟨1,n,pc,0,0,0,0,0,0,false⟩ (eJ b.Mem w (e9 n)) else if pc=1∨pc=3 then nD b ⟨1,n,pc,0,0,0,0,0,0,false⟩ (dO b.Mem (e9 n)) else if pc=2 then nD b ⟨1,n,pc,0,0,0,0,0,0,false⟩ (l5 b.Mem (e9 n)) else (b,AV ⟨1,n,pc,0,0,0,0,0,0,false⟩ 1):=fun pc=>by
    unfold F7;rw [if_neg c0]
  have hc:0≤e9 n∧e9 n≤2:=by omega
  generalize e9 n=c at *
  have yes:∀(pc:Int) (p:Mem×Int) (k:Nat),0≤p.2→∃s,MJ w k (nD b ⟨1,n,pc,0,0,0,0,0,0,false⟩ p).1 (nD b ⟨1,n,pc,0,0,0,0,0,0,false⟩ p).2=({b with Mem:=p.1},s)∧s.cQ=true∧s.Code=0∧s.Out=aDM p.1 p.2:=fun pc p k hp=>by
    unfold nD
    rw [if_pos hp]
    simp only
    rw [yY rfl]
    exact⟨_,rfl,rfl,rfl,rfl⟩
  have no:∀(pc:Int),pc≠3→nD b ⟨1,n,pc,0,0,0,0,0,0,false⟩ (b.Mem,-1)=(b,⟨1,n,pc+1,0,0,0,0,0,0,false⟩):=fun pc h=>by
    unfold nD
    rw [if_neg (by simp),if_neg h]
  rw [show aDR 1 n=⟨1,n,0,0,0,0,0,0,0,false⟩ from rfl,al 0,if_pos rfl]
  by_cases o:0≤(eJ b.Mem w c).2
  · simp only [if_pos o];exact yes 0 _ _ o
  simp only [if_neg o]
  rw [P8 hm hw hc o,no 0 (by decide)]
  simp only
  rw [nE rfl,sub _ rfl rfl,al (0+1),if_neg (by decide),if_pos (by decide)]
  by_cases p:0≤(dO b.Mem c).2
  · simp only [if_pos p];exact yes _ _ _ p
  have hg:=NN hm hc p
  simp only [if_neg p]
  rw [hg,no (0+1) (by decide)]
  simp only
  rw [nE rfl,sub _ rfl rfl,al (0+1+1),if_neg (by decide),if_neg (by decide),if_pos (by decide)]
  by_cases q:0≤(l5 b.Mem c).2
  · simp only [if_pos q];exact yes _ _ _ q
  simp only [if_neg q]
  rw [XX q,no (0+1+1) (by decide)]
  simp only
  rw [nE rfl,sub _ rfl rfl,al (0+1+1+1),if_neg (by decide),if_pos (by decide),hg]
  unfold nD
  rw [if_neg (by simp),if_pos (show(0+1+1+1:Int)=3 from rfl)]
  simp only
  rw [yY rfl]
  exact⟨_,rfl,rfl,rfl,rfl⟩
theorem aOS{code:List UInt8}(hl:code.length≤1048576):fB (uU code) kS:=by
  unfold uU
  exact .bind (aQ5 hl) fun x1 h1=>.bind (W9 h1) fun x2 ⟨h2,_⟩=>.ret h2
theorem aEF{code:List UInt8}(_:fit code):H9 code=some true:=by
  unfold H9 w7
  rw [Option.bind_some]
  by_cases hcl:1048576 < (code.length:Int)
  · rw [if_pos (by simpa using hcl)]
  rw [if_neg (by simpa using hcl)]
  obtain⟨b,eb,hs⟩:=aOS (code:=code) (by omega)
  obtain⟨a,ea,ha⟩:=aMJ (code:=code) (by omega) (i:=0) (by omega)
  obtain⟨d,ed,hd⟩:=aMJ (code:=code) (by omega) (i:=1) (by omega)
  have hw:=aAF ha
  rw [eb,Option.bind_some,ea,Option.bind_some,ed,Option.bind_some]
  unfold lN
  rw [Option.bind_some,N6 hs,Option.bind_some]
  simp only [BO,gE hs.fits,Option.bind_some]
  generalize Int.tmod d 44=n
  generalize Int.tmod a 3=w at *
  by_cases hb:eQ b
  rotate_left
  · have e:mG b w ⟨1,n,0,0,0,0,0,0,0,false⟩=(b,⟨1,n,0,0,0,0,0,0,0,false⟩):=by
      unfold mG;rw [if_neg (fun q=>hb q.1)]
    rw [decide_eq_false hb,e,if_pos (by simp),ZD hs];rfl
  obtain⟨s,e0,s1,s2,s3⟩:=aIY hb hw n 196
  have e:mG b w ⟨1,n,0,0,0,0,0,0,0,false⟩=({b with Mem:=(y6 b.Mem w n).1},s):=by
    unfold mG;rw [if_pos ⟨hb,hw⟩];exact e0
  have hx:=N5 hb w ⟨1,n,0,0,0,0,0,0,0,false⟩
  rw [e] at hx ⊢
  simp only at hx
  have hh:=hb.1.2.2.2.1
  rw [decide_eq_true hb,if_neg (by simp),aEE hb.1.1 hw,Option.bind_some,if_pos s1,s2,s3]
  simp only [beq_self_eq_true,if_true,H5 hx.small.1,Option.bind_some,LK hs.2.1,LL hs.2.2.1 hs.rows,ZC (show b.cA.length≤1000000000 by omega),fM]
end Go.Gv
end
